/- Proved here: nodes, their stack and their check. Conditions: those of each theorem; no statement of the seat is proved in this text. -/
import Derived.Test.YtcjapamldllleaaDoorSpB
namespace Go.Proofs.YtcjapamldllleaaDoor
open Go.Ab
set_option maxHeartbeats 4000000
set_option maxRecDepth 100000
set_option linter.unusedSimpArgs false
set_option linter.unusedVariables false
structure Nd where
  op : Int
  n : Int
  col : List UInt8
def Nd.cells (x : Nd) : List V := [.int .i64 x.op, .int .i64 x.n, .str x.col]
def Nd.none : Nd := ⟨0, 0, []⟩
def flatN (l : List Nd) : List V := (l.map Nd.cells).flatten
def IsN (v : V) (l : List Nd) : Prop := (v = .nilsl ∧ l = []) ∨ v = .row (flatN l) l.length .unk ∨ v = .row (flatN l) l.length .full
theorem flatN_cons (c : Nd) (cs : List Nd) : flatN (c :: cs) = .int .i64 c.op :: .int .i64 c.n :: .str c.col :: flatN cs := rfl
theorem flatN_drop : ∀ (cs : List Nd) (i : Nat), (flatN cs).drop (i * 3) = flatN (cs.drop i)
  | cs, 0 => by simp
  | [], i + 1 => by simp [flatN]
  | c :: cs, i + 1 => by
    rw [flatN_cons, show (i + 1) * 3 = i * 3 + 1 + 1 + 1 by omega]
    simp only [List.drop_succ_cons]
    exact flatN_drop cs i
theorem flatN_at {cs : List Nd} {i : Nat} (hi : i < cs.length) : flatN (cs.drop i) = .int .i64 (cs.getD i Nd.none).op :: .int .i64 (cs.getD i Nd.none).n :: .str (cs.getD i Nd.none).col :: flatN (cs.drop (i + 1)) := by
  have e : cs.drop i = cs.getD i Nd.none :: cs.drop (i + 1) := by
    rw [List.drop_eq_getElem_cons hi]
    simp [List.getD, hi]
  rw [e, flatN_cons]
theorem len_N {v : V} {cs : List Nd} (h : IsN v cs) : vLenT (some (.slice 52)) v = some (.int .i64 cs.length) := by
  rcases h with ⟨rfl, rfl⟩ | rfl | rfl <;> rfl
theorem idx_N {v : V} {cs : List Nd} (h : IsN v cs) {i : Nat} (hi : i < cs.length) : vIndexAddr 3 v (.int .i64 (i : Int)) = some (.rptr (.int .i64 (cs.getD i Nd.none).op :: .int .i64 (cs.getD i Nd.none).n :: .str (cs.getD i Nd.none).col :: flatN (cs.drop (i + 1)))) := by
  rcases h with ⟨rfl, rfl⟩ | rfl | rfl
  · simp at hi
  · rw [Ys, if_pos (by omega), Int.toNat_natCast, flatN_drop, flatN_at hi]
  · rw [Ys, if_pos (by omega), Int.toNat_natCast, flatN_drop, flatN_at hi]
theorem closed_flatN : ∀ l : List Nd, V.closed.closedL (flatN l) = true
  | [] => rfl
  | c :: cs => by
    rw [flatN_cons]
    simp only [V.closed.closedL, V.closed, closed_flatN cs, Bool.and_self]
theorem closed_N {v : V} {l : List Nd} (h : IsN v l) : v.closed = true := by
  rcases h with ⟨rfl, rfl⟩ | rfl | rfl
  · rfl
  · simp only [V.closed, closed_flatN, Bool.and_self]
  · simp only [V.closed, closed_flatN, Bool.and_self]
theorem u22 : env.P.underlying 22 = some (.slice 52) := by kernel_rfl
theorem u63 : env.P.underlying 63 = some (.int .i64) := by kernel_rfl
theorem u103 : env.P.underlying 103 = some (.slice 104) := by kernel_rfl
theorem u104 : env.P.underlying 104 = some (.int .i64) := by kernel_rfl
theorem u107 : env.P.underlying 107 = some (.array 18 106) := by kernel_rfl
theorem tysn : env.P.underlying 22 = some (.slice 52) ∧ env.P.underlying 63 = some (.int .i64) ∧ env.P.underlying 103 = some (.slice 104) ∧ env.P.underlying 104 = some (.int .i64) ∧ env.P.underlying 107 = some (.array 18 106) ∧ env.P.underlying 24 = some (.slice 3) ∧
    sz env 52 = some 3 ∧ sz env 104 = some 1 ∧ sz env 106 = some 2 ∧ sz env 107 = some 36 ∧ sz env 111 = some 1 ∧ sz env 103 = some 1 ∧ sz env 63 = some 1 ∧
    fldOff env 52 0 = some 0 ∧ fldOff env 52 1 = some 1 ∧ fldOff env 52 2 = some 2 ∧ fldOff env 106 0 = some 0 ∧ fldOff env 106 1 = some 1 ∧ fldOff env 111 0 = some 0 ∧
    (∀ h p, aload env h 103 p = (loadCellsV h 1 p).bind (·[0]?)) ∧ (∀ h p, aload env h 104 p = (loadCellsV h 1 p).bind (·[0]?)) ∧ (∀ h p, aload env h 44 p = (loadCellsV h 1 p).bind (·[0]?)) ∧ (∀ h p, aload env h 3 p = (loadCellsV h 1 p).bind (·[0]?)) ∧ (∀ h p, aload env h 9 p = (loadCellsV h 1 p).bind (·[0]?)) ∧
    (∀ h p, aload env h 52 p = (loadCellsV h 3 p).map .agg) ∧ (∀ h p, aload env h 106 p = (loadCellsV h 2 p).map .agg) ∧ zeroV env 52 = some (.agg [.int .i64 0, .int .i64 0, .str []]) ∧ zeroV env 106 = some (.agg [.nilsl, .int .i64 0]) := by
  have g103 : aggT env 103 = some false := by kernel_rfl
  have g104 : aggT env 104 = some false := by kernel_rfl
  have g44 : aggT env 44 = some false := by kernel_rfl
  have g3 : aggT env 3 = some false := by kernel_rfl
  have g9 : aggT env 9 = some false := by kernel_rfl
  have g52 : aggT env 52 = some true := by kernel_rfl
  have g106 : aggT env 106 = some true := by kernel_rfl
  have s52 : sz env 52 = some 3 := by kernel_rfl
  have s106 : sz env 106 = some 2 := by kernel_rfl
  exact ⟨u22, u63, u103, u104, u107, by kernel_rfl, by kernel_rfl, by kernel_rfl, by kernel_rfl, by kernel_rfl, by kernel_rfl, by kernel_rfl, by kernel_rfl, by kernel_rfl, by kernel_rfl, by kernel_rfl, by kernel_rfl, by kernel_rfl, by kernel_rfl,
    fun _ _ => aload_one g103, fun _ _ => aload_one g104, fun _ _ => aload_one g44, fun _ _ => aload_one g3, fun _ _ => aload_one g9, fun h p => by unfold aload; rw [g52, s52]; rfl, fun h p => by unfold aload; rw [g106, s106]; rfl, by kernel_rfl, by kernel_rfl⟩
theorem load3_rptr (h : List AObj) (a b c : V) (r : List V) : loadCellsV h 3 (.rptr (a :: b :: c :: r)) = some [a, b, c] := by simp [loadCellsV]
theorem load3_ptr {h : List AObj} {n : Nat} {a b c : V} {t : TypeId} (hh : h[n]? = some (.cells [a, b, c] t)) : loadCellsV h 3 (.ptr n 0) = some [a, b, c] := by simp [loadCellsV, hh]
theorem load2_ptr {h : List AObj} {n : Nat} {a b : V} {t : TypeId} (hh : h[n]? = some (.cells [a, b] t)) : loadCellsV h 2 (.ptr n 0) = some [a, b] := by simp [loadCellsV, hh]
def takesN (op : Int) : List Int × Int :=
  if op ≤ 3 then ([], 0)
  else if op ≤ 6 then ([0, 0], 0)
  else if op = 7 then ([0], 0)
  else if op = 8 then ([1, 0, 0], 0)
  else if op = 15 ∨ op = 16 then ([1, 1], 1)
  else if op = 17 then ([1], 1)
  else ([0, 0], 1)
def rowK (l : List Int) : V := if l = [] then .nilsl else .row (l.map (V.int .i64)) l.length .unk
def opsL : List V := ((List.range 18).map fun o : Nat => [rowK (takesN o).1, V.int .i64 (takesN o).2]).flatten
theorem operations_call (σ : S) : callFn env (ev env) 67 [] σ = some (.agg opsL, σ) := row_of_run rfl rfl rfl (k := 20) (by rw [← runQ_eq]; kernel_rfl) σ
theorem ops_len : opsL.length = 36 := by kernel_rfl
theorem ops_at (o : Nat) (h : o < 18) : (opsL.drop (o * 2)).take 2 = [rowK (takesN o).1, .int .i64 (takesN o).2] := by
  match o, h with
  | 0, _ => rfl
  | 1, _ => rfl
  | 2, _ => rfl
  | 3, _ => rfl
  | 4, _ => rfl
  | 5, _ => rfl
  | 6, _ => rfl
  | 7, _ => rfl
  | 8, _ => rfl
  | 9, _ => rfl
  | 10, _ => rfl
  | 11, _ => rfl
  | 12, _ => rfl
  | 13, _ => rfl
  | 14, _ => rfl
  | 15, _ => rfl
  | 16, _ => rfl
  | 17, _ => rfl
  | n + 18, h => omega
theorem ops_cells : opsL.all V.isCell = true := by kernel_rfl
theorem rowK_rd (h : List AObj) (l : List Int) : RdS h 1 (rowK l) l.length (l.map (V.int .i64)) := by
  unfold rowK
  by_cases hl : l = []
  · subst hl; simpa using RdS.nil h 1
  · rw [if_neg hl]; exact RdS.row h 1 _ _ _ (by simp)
theorem rowK_cell (l : List Int) : (rowK l).isCell = true := by unfold rowK; split <;> rfl
theorem at71 : env.P.funcs[71]? = some Tryd.f71 := by kernel_rfl
theorem rd_idx {h : List AObj} {u : V} {l : List Int} (r : RdS h 1 u l.length (l.map (V.int .i64))) {i : Nat} (hi : i < l.length) : ∃ p, vIndexAddr 1 u (.int .i64 i) = some p ∧ (loadCellsV h 1 p).bind (·[0]?) = some (.int .i64 (l.getD i 0)) := by
  obtain ⟨p, h1, h2⟩ := r.2.2.2 i hi
  refine ⟨p, h1, ?_⟩
  rw [h2]
  simp [List.getD, hi, List.drop_eq_getElem_cons]
open Classical in
theorem equal_call (u w : V) (a b : List Int) (L : List AObj) (ts : List Nat) (ha : RdS L 1 u a.length (a.map (V.int .i64))) (hb : RdS L 1 w b.length (b.map (V.int .i64))) (hl : a.length ≤ 4000) (hl2 : b.length ≤ 4000) : callFn env (ev env) 71 [u, w] ⟨L, ts⟩ = some (.bool (decide (a = b)), ⟨L, ts⟩) := by
  refine callFn_eq rfl rfl at71 rfl (by simp [Tryd.f71]) (by simp [Tryd.f71]) (G_start ?_)
  have la := ha.2.1 104
  have lb := hb.2.1 104
  by_cases h1 : a.length = b.length
  case neg =>
    have c1 : ¬ (a.length : Int) = (b.length : Int) := by omega
    have hn : ¬ a = b := fun e => h1 (by rw [e])
    simp -implicitDefEqProofs only [Tryd.f71,Wa,Wb,Wc,Wd,We,Wf,Wg,Wh,Wi,Wj,Wk,Wl,Wm,Wn,Zo,Zp,evalT,Nat.reduceLT,Nat.reduceEqDiff,if_true,if_false,reduceIte,Ys,ofVal,ofCell,argT,resT,setT,Y0,Int.reduceEq,Int.reduceLT,Int.reduceLE,Int.reduceNeg,mb,Nat.reduceBEq,tys,stb,tysn,la,lb,c1]
    simp [oneOr, hn]
  have c1 : (a.length : Int) = (b.length : Int) := by omega
  simp -implicitDefEqProofs only [Tryd.f71,Wa,Wb,Wc,Wd,We,Wf,Wg,Wh,Wi,Wj,Wk,Wl,Wm,Wn,Zo,Zp,evalT,Nat.reduceLT,Nat.reduceEqDiff,if_true,if_false,reduceIte,Ys,ofVal,ofCell,argT,resT,setT,Y0,Int.reduceEq,Int.reduceLT,Int.reduceLE,Int.reduceNeg,mb,Nat.reduceBEq,tys,stb,tysn,la,lb,c1]
  refine loop_rule (fun m T D σ => D = [] ∧ σ = ⟨L, ts⟩ ∧ T 0 = u ∧ T 1 = w ∧ T 12 = .int .i64 b.length ∧ ∃ i : Nat, T 13 = .int .i64 i ∧ i ≤ b.length ∧ m = b.length - i ∧ ∀ j, j < i → a.getD j 0 = b.getD j 0) ?_ (b.length - 0) _ _ _ ⟨rfl, rfl, rfl, rfl, rfl, 0, rfl, by omega, rfl, fun j h => by omega⟩
  rintro m T D σ ⟨rfl, rfl, t0, t1, t12, i, t13, hi, rfl, hno⟩
  refine G_start ?_
  by_cases hlt : i < b.length
  · have c2 : (i : Int) < (b.length : Int) := by omega
    have e1 : IntKind.i64.wrap ((i : Int) + 1) = ((i + 1 : Nat) : Int) := by rw [wrap_i64 (by omega) (by omega)]; omega
    obtain ⟨p, hp, hpl⟩ := rd_idx ha (show i < a.length by omega)
    obtain ⟨q, hq, hql⟩ := rd_idx hb hlt
    by_cases he : a.getD i 0 = b.getD i 0
    · have he1 : ((a.getD i 0 : Int) = b.getD i 0) = True := eq_true he
      simp -implicitDefEqProofs only [Wa,Wb,Wc,Wd,We,Wf,Wg,Wh,Wi,Wj,Wk,Wl,Wm,Wn,Zo,Zp,evalT,Nat.reduceLT,Nat.reduceEqDiff,if_true,if_false,reduceIte,Ys,ofVal,ofCell,argT,resT,setT,Y0,Int.reduceEq,Int.reduceLT,Int.reduceLE,Int.reduceNeg,mb,Nat.reduceBEq,tys,stb,tysn,t0,t1,t12,t13,c2,e1,hp,hpl,hq,hql,he1]
      exact ⟨by kernel_rfl, b.length - (i + 1), by omega, i + 1, rfl, by omega, rfl, fun j hj => by
        rcases Nat.lt_or_ge j i with h2 | h2
        · exact hno j h2
        · have : j = i := by omega
          subst this; exact he⟩
    · have hn : ¬ a = b := fun e => he (by rw [e])
      have he1 : ((a.getD i 0 : Int) = b.getD i 0) = False := eq_false he
      simp -implicitDefEqProofs only [Wa,Wb,Wc,Wd,We,Wf,Wg,Wh,Wi,Wj,Wk,Wl,Wm,Wn,Zo,Zp,evalT,Nat.reduceLT,Nat.reduceEqDiff,if_true,if_false,reduceIte,Ys,ofVal,ofCell,argT,resT,setT,Y0,Int.reduceEq,Int.reduceLT,Int.reduceLE,Int.reduceNeg,mb,Nat.reduceBEq,tys,stb,tysn,t0,t1,t12,t13,c2,e1,hp,hpl,hq,hql,he1]
      exact ⟨by kernel_rfl, by simp [oneOr, hn]⟩
  · have hi2 : i = b.length := by omega
    subst hi2
    have c2 : ¬ (b.length : Int) < (b.length : Int) := by omega
    have hy : a = b := by
      apply List.ext_getElem h1
      intro k k1 k2
      have := hno k (by omega)
      simpa [List.getD, k1, k2] using this
    simp -implicitDefEqProofs only [Wa,Wb,Wc,Wd,We,Wf,Wg,Wh,Wi,Wj,Wk,Wl,Wm,Wn,Zo,Zp,evalT,Nat.reduceLT,Nat.reduceEqDiff,if_true,if_false,reduceIte,Ys,ofVal,ofCell,argT,resT,setT,Y0,Int.reduceEq,Int.reduceLT,Int.reduceLE,Int.reduceNeg,mb,Nat.reduceBEq,tys,stb,tysn,t0,t1,t12,t13,c2]
    simp [oneOr, hy]
end Go.Proofs.YtcjapamldllleaaDoor
namespace Go.Proofs.YtcjapamldllleaaDoor
open Go.Ab
set_option maxHeartbeats 4000000
set_option maxRecDepth 100000
set_option linter.unusedSimpArgs false
set_option linter.unusedVariables false
theorem at70 : env.P.funcs[70]? = some Tryd.f70 := by kernel_rfl
theorem at69 : env.P.funcs[69]? = some Tryd.f69 := by kernel_rfl
theorem e103 : elemS env 103 = some 104 := by kernel_rfl
theorem zn104 : zeroN env 104 = some 1 := by kernel_rfl
theorem by104 : bys env 104 = some 8 := by kernel_rfl
theorem mb70 (r : Nat) : env.mutb 70 r = true := rfl
def StkO (L : List AObj) (p : Nat) (xs : List Int) : Prop := ∃ v, L[p]? = some (.cells [v] 111) ∧ StkV L 104 1 v xs.length (xs.map (V.int .i64)) ∧ blkOf v ≠ some p
def Keep (L L' : List AObj) (p : Nat) : Prop := ∀ q o, L[q]? = some o → q ≠ p → (∀ cs, o ≠ .cells cs 104) → L'[q]? = some o
theorem build_m {T : Tm} (L : List AObj) (ts : List Nat) (x : Operand) : opT env true T ⟨L, ts⟩ (.buildSlice 103 1 #[(0, x)]) = (evalT env T x).bind fun v => if v.cells.length = 1 then some (.hsl L.length 0 1 1 .exact, ⟨L ++ [.cells v.cells 104], ts⟩) else none := by
  obtain ⟨z, hz, hl⟩ : ∃ z, zeroV env 104 = some z ∧ z.cells.length = 1 := ⟨.int .i64 0, by kernel_rfl, rfl⟩
  have s104 : sz env 104 = some 1 := by kernel_rfl
  unfold opT
  simp only [apure, aread, astate, partsO]
  cases evalT env T x with
  | none => rfl
  | some v =>
    simp only [Option.map_some, Option.bind_some, e103, s104, hz]
    by_cases hv : v.cells.length = 1
    · have : z.cells.tail = [] := List.eq_nil_of_length_eq_zero (by simp [hl])
      simp [vFill, hl, hv, this, S.push, env]
    · simp [vFill, hv]
theorem lt_get {L : List AObj} {p : Nat} {o : AObj} (h : L[p]? = some o) : p < L.length := (List.getElem?_eq_some_iff.1 h).1
theorem push_call (L : List AObj) (ts : List Nat) (p : Nat) (xs : List Int) (k : Int) (h : StkO L p xs) (hl : xs.length ≤ 4000) :
    ∃ L', callFn env (ev env) 70 [.ptr p 0, .int .i64 k] ⟨L, ts⟩ = some (.tup [], ⟨L', ts⟩) ∧ StkO L' p (xs ++ [k]) ∧ Keep L L' p := by
  obtain ⟨v, hp, hv, hb⟩ := h
  have hplt := lt_get hp
  have hlim : lim = 2 ^ 40 := rfl
  have s104 : sz env 104 = some 1 := by kernel_rfl
  have hv1 : StkV (L ++ [.cells [.int .i64 k] 104]) 104 1 v xs.length (xs.map (V.int .i64)) := hv.move fun b hb => by rw [List.getElem?_append_left (hv.lt hb)]
  have hc : vCells (L ++ [AObj.cells [V.int .i64 k] 104]) 1 1 (.hsl L.length 0 1 1 .exact) = some [.int .i64 k] := by simp [vCells]
  obtain ⟨v', L', ha, hs, hk, hlen, hbk⟩ := StkV.push (E := env) (ts := ts) (ty := 103) (ty2 := 103) (y := .hsl L.length 0 1 1 .exact) hv1 e103 s104 zn104 by104 ⟨104, u103⟩ (by omega) ⟨by rw [hlim]; omega, by rw [hlim]; omega⟩ rfl hc rfl rfl
  simp only [List.length_append, List.length_singleton] at hk hlen hbk
  have hp2 : L'[p]? = some (.cells [v] 111) := by rw [hk p (by omega) hb, List.getElem?_append_left hplt]; exact hp
  have hp3 := lt_get hp2
  have hne : blkOf v' ≠ some p := by
    rcases hbk with h | h
    · rw [h]; exact hb
    · rw [h]; intro e; simp only [Option.some.injEq] at e; omega
  have hcv := hs.cells.1
  have hcv2 := hs.cells.2
  refine ⟨L'.set p (.cells [v'] 111), ?_, ⟨v', by simp [hp3], ?_, hne⟩, ?_⟩
  · refine callFn_eq rfl rfl at70 rfl (by simp [Tryd.f70]) (by simp [Tryd.f70]) (G_start ?_)
    simp -implicitDefEqProofs only [Tryd.f70,Wa,Wb,Wc,Wd,We,Wf,Wg,Wh,Wi,Wj,Wk,Wl,Wm,Wn,Zo,Zp,evalT,Nat.reduceLT,Nat.reduceEqDiff,if_true,if_false,reduceIte,Ys,ofVal,ofCell,argT,resT,setT,Y0,Int.reduceEq,Int.reduceLT,Int.reduceLE,Int.reduceNeg,mb,Nat.reduceBEq,tys,stb,Va,storeList,Nat.reduceAdd,Nat.reduceLeDiff,tysn,opT_nilCheck,nilO_ptr,hp,mb70,build_m,ha,hp2,hcv,hcv2,oneOr]
  · have := hs.move (h' := L'.set p (.cells [v'] 111)) fun b hb => by rw [List.getElem?_set_ne (fun e => hne (by rw [hb, e]))]
    rw [List.length_append, List.map_append]; exact this
  · intro q o hq hqp ho
    have hqlt := lt_get hq
    rw [List.getElem?_set_ne (fun e => hqp e.symm)]
    have hqb : blkOf v ≠ some q := by
      intro e
      obtain ⟨_, ⟨rfl, _⟩ | ⟨b, cap, cs, rfl, hbb, _⟩⟩ := hv
      · simp [blkOf] at e
      · simp only [blkOf, Option.some.injEq] at e
        subst e
        rw [hbb] at hq; cases hq
        exact ho _ rfl
    rw [hk q (by omega) hqb, List.getElem?_append_left hqlt]; exact hq
def popN (xs want : List Int) : Option (List Int) := if want.length ≤ xs.length ∧ xs.drop (xs.length - want.length) = want then some (xs.take (xs.length - want.length)) else none
theorem pop_none (L : List AObj) (ts : List Nat) (p : Nat) (xs want : List Int) (h : StkO L p xs) (hl : xs.length ≤ 4000) (hw : want.length ≤ 4000) (hn : popN xs want = none) : callFn env (ev env) 69 [.ptr p 0, rowK want] ⟨L, ts⟩ = some (.bool false, ⟨L, ts⟩) := by
  obtain ⟨v, hp, hv, hb⟩ := h
  have lv := hv.len 104
  have lw := (rowK_rd L want).2.1 104
  refine callFn_eq rfl rfl at69 rfl (by simp [Tryd.f69]) (by simp [Tryd.f69]) (G_start ?_)
  have e1 : IntKind.i64.wrap ((xs.length : Int) - (want.length : Int)) = (xs.length : Int) - (want.length : Int) := by rw [wrap_i64 (by omega) (by omega)]
  unfold popN at hn
  by_cases h1 : want.length ≤ xs.length
  · have c1 : ¬ (xs.length : Int) - (want.length : Int) < 0 := by omega
    have e2 : (xs.length : Int) - (want.length : Int) = ((xs.length - want.length : Nat) : Int) := by omega
    obtain ⟨u, hu, hr⟩ := StkV.tail (E := env) hv u103 (by kernel_rfl) (xs.length - want.length) (by omega)
    have h2 : ¬ xs.drop (xs.length - want.length) = want := fun h => by simp [h1, h] at hn
    have hr2 : RdS L 1 u (xs.drop (xs.length - want.length)).length ((xs.drop (xs.length - want.length)).map (V.int .i64)) := by
      rw [List.length_drop, List.map_drop]; simpa using hr
    have hE := equal_call u (rowK want) _ want L ts hr2 (rowK_rd L want) (by rw [List.length_drop]; omega) hw
    rw [decide_eq_false h2] at hE
    simp -implicitDefEqProofs only [Tryd.f69,Wa,Wb,Wc,Wd,We,Wf,Wg,Wh,Wi,Wj,Wk,Wl,Wm,Wn,Zo,Zp,evalT,Nat.reduceLT,Nat.reduceEqDiff,if_true,if_false,reduceIte,Ys,ofVal,ofCell,argT,resT,setT,Y0,Int.reduceEq,Int.reduceLT,Int.reduceLE,Int.reduceNeg,mb,Nat.reduceBEq,tys,stb,Va,storeList,Nat.reduceAdd,Nat.reduceLeDiff,tysn,opT_nilCheck,nilO_ptr,hp,lv,lw,e1]
    rw [e2] at c1
    simp -implicitDefEqProofs only [e2,c1,Wa,Wb,Wc,Wd,We,Wf,Wg,Wh,Wi,Wj,Wk,Wl,Wm,Wn,Zo,Zp,evalT,Nat.reduceLT,Nat.reduceEqDiff,if_true,if_false,reduceIte,Ys,ofVal,ofCell,argT,resT,setT,Y0,Int.reduceEq,Int.reduceLT,Int.reduceLE,Int.reduceNeg,mb,Nat.reduceBEq,tys,stb,Va,storeList,Nat.reduceAdd,Nat.reduceLeDiff,tysn,opT_nilCheck,nilO_ptr,hp,lv,lw,opT_slice,optO_none,optO_some,hu,hE]
    simp [oneOr]
  · have c1 : (xs.length : Int) - (want.length : Int) < 0 := by omega
    simp -implicitDefEqProofs only [Tryd.f69,Wa,Wb,Wc,Wd,We,Wf,Wg,Wh,Wi,Wj,Wk,Wl,Wm,Wn,Zo,Zp,evalT,Nat.reduceLT,Nat.reduceEqDiff,if_true,if_false,reduceIte,Ys,ofVal,ofCell,argT,resT,setT,Y0,Int.reduceEq,Int.reduceLT,Int.reduceLE,Int.reduceNeg,mb,Nat.reduceBEq,tys,stb,Va,storeList,Nat.reduceAdd,Nat.reduceLeDiff,tysn,opT_nilCheck,nilO_ptr,hp,lv,lw,e1,c1]
    simp [oneOr]
theorem pop_some (L : List AObj) (ts : List Nat) (p : Nat) (xs want ys : List Int) (h : StkO L p xs) (hl : xs.length ≤ 4000) (hw : want.length ≤ 4000) (hn : popN xs want = some ys) :
    ∃ L', callFn env (ev env) 69 [.ptr p 0, rowK want] ⟨L, ts⟩ = some (.bool true, ⟨L', ts⟩) ∧ StkO L' p ys ∧ Keep L L' p := by
  obtain ⟨v, hp, hv, hb⟩ := h
  have hplt := lt_get hp
  have lv := hv.len 104
  have lw := (rowK_rd L want).2.1 104
  unfold popN at hn
  split at hn
  · rename_i hc
    obtain ⟨h1, h2⟩ := hc
    simp only [Option.some.injEq] at hn
    subst hn
    have e1 : IntKind.i64.wrap ((xs.length : Int) - (want.length : Int)) = ((xs.length - want.length : Nat) : Int) := by rw [wrap_i64 (by omega) (by omega)]; omega
    have c1 : ¬ ((xs.length - want.length : Nat) : Int) < 0 := by omega
    obtain ⟨u, hu, hr⟩ := StkV.tail (E := env) hv u103 (by kernel_rfl) (xs.length - want.length) (by omega)
    have hr2 : RdS L 1 u (xs.drop (xs.length - want.length)).length ((xs.drop (xs.length - want.length)).map (V.int .i64)) := by
      rw [List.length_drop, List.map_drop]; simpa using hr
    have hE := equal_call u (rowK want) _ want L ts hr2 (rowK_rd L want) (by rw [List.length_drop]; omega) hw
    rw [decide_eq_true h2] at hE
    obtain ⟨v', hv', hs', hb'⟩ := StkV.cut (E := env) hv u103 (by kernel_rfl) (xs.length - want.length) (by omega) none (.inl rfl)
    have hcv := hs'.cells.1
    have hcv2 := hs'.cells.2
    refine ⟨L.set p (.cells [v'] 111), ?_, ⟨v', by simp [hplt], ?_, by rw [hb']; exact hb⟩, fun q o hq hqp _ => by rw [List.getElem?_set_ne (fun e => hqp e.symm)]; exact hq⟩
    · refine callFn_eq rfl rfl at69 rfl (by simp [Tryd.f69]) (by simp [Tryd.f69]) (G_start ?_)
      simp -implicitDefEqProofs only [Tryd.f69,Wa,Wb,Wc,Wd,We,Wf,Wg,Wh,Wi,Wj,Wk,Wl,Wm,Wn,Zo,Zp,evalT,Nat.reduceLT,Nat.reduceEqDiff,if_true,if_false,reduceIte,Ys,ofVal,ofCell,argT,resT,setT,Y0,Int.reduceEq,Int.reduceLT,Int.reduceLE,Int.reduceNeg,mb,Nat.reduceBEq,tys,stb,Va,storeList,Nat.reduceAdd,Nat.reduceLeDiff,tysn,opT_nilCheck,nilO_ptr,hp,lv,lw,e1,c1,opT_slice,optO_none,optO_some,hu,hE,hv',hcv,hcv2]
      simp [oneOr]
    · have := hs'.move (h' := L.set p (.cells [v'] 111)) fun b hbb => by rw [List.getElem?_set_ne (fun e => hb (by rw [← hb', hbb, e]))]
      have e3 : (xs.take (xs.length - want.length)).length = xs.length - want.length := by rw [List.length_take]; omega
      rw [e3, List.map_take]; simpa using this
  · simp at hn
end Go.Proofs.YtcjapamldllleaaDoor
namespace Go.Proofs.YtcjapamldllleaaDoor
open Go.Ab
set_option maxHeartbeats 4000000
set_option maxRecDepth 100000
set_option linter.unusedSimpArgs false
set_option linter.unusedVariables false
theorem firstQ_spec (f : Nat → Bool) : ∀ m i, firstQ f m i = -1 ∨ ∃ j : Nat, firstQ f m i = (j : Int) ∧ i ≤ j ∧ j < i + m ∧ f j = true ∧ ∀ k, i ≤ k → k < j → f k = false
  | 0, i => .inl rfl
  | m + 1, i => by
    simp only [firstQ]
    by_cases h : f i = true
    · rw [if_pos h]
      exact .inr ⟨i, rfl, Nat.le_refl _, by omega, h, fun k h1 h2 => by omega⟩
    · rw [if_neg h]
      rcases firstQ_spec f m (i + 1) with h1 | ⟨j, h1, h2, h3, h4, h5⟩
      · exact .inl h1
      · refine .inr ⟨j, h1, by omega, by omega, h4, fun k h6 h7 => ?_⟩
        rcases Nat.lt_or_ge i k with h8 | h8
        · exact h5 k h8 h7
        · have : k = i := by omega
          subst this; simpa using h
def seekK (cs : List Col) (nm : List UInt8) : Int := seekC cs nm cs.length 0
theorem seekK_spec (cs : List Col) (nm : List UInt8) : seekK cs nm = -1 ∨ ∃ j : Nat, seekK cs nm = (j : Int) ∧ j < cs.length ∧ (cs.getD j Col.none).name = nm ∧ ∀ k, k < j → (cs.getD k Col.none).name ≠ nm := by
  rcases firstQ_spec (fun i => decide ((cs.getD i Col.none).name = nm)) cs.length 0 with h | ⟨j, h1, h2, h3, h4, h5⟩
  · exact .inl h
  · exact .inr ⟨j, h1, by omega, by simpa using h4, fun k hk => by simpa using h5 k (by omega) hk⟩
def colN (cs : List Col) (nm : List UInt8) : Col := if 0 ≤ seekK cs nm then cs.getD (seekK cs nm).toNat Col.none else Col.none
theorem colN_W {cs : List Col} (ok : OkC cs) (nm : List UInt8) : IsW (colN cs nm).w (colN cs nm).ws := by
  unfold colN
  rcases seekK_spec cs nm with h | ⟨j, h, hj, _⟩
  · rw [h, if_neg (by omega)]; exact .inl ⟨rfl, rfl⟩
  · rw [h, if_pos (by omega), Int.toNat_natCast]; exact ok.at hj
theorem at88 : env.P.funcs[88]? = some Tryd.f88 := by kernel_rfl
theorem isCell_nilsl : V.nilsl.isCell = true := rfl
theorem build36 {cv : V} {cs : List Col} (hc : IsC cv cs) : buildO env 36 [(3, cv)] = some (.agg [.str [], .bool false, .int .i64 0, cv]) := by rcases hc with ⟨rfl, rfl⟩ | ⟨q, rfl | rfl, rfl⟩ <;> kernel_rfl
theorem build46 : buildO env 46 [] = some (.agg [.str [], .int .i64 0, .int .i64 0, .nilsl]) := by kernel_rfl
theorem seal_strs' (h : List AObj) (d : Nat) : ∀ ws : List (List UInt8), (ws.map V.str).mapM (sealV h (d + 1)) = some (ws.map V.str)
  | [] => rfl
  | w :: ws => by rw [List.map_cons, mapM_seal_cons, seal_strs' h d ws, sealV_str]; rfl
theorem seal_W {w : V} {ws : List (List UInt8)} (h : IsW w ws) (H : List AObj) (d : Nat) : sealV H (d + 2) w = some w := by
  rcases h with ⟨rfl, _⟩ | rfl
  · rfl
  · rw [sealV_row, seal_strs' H d ws]; rfl
def colT (c : Col) (b : Bool) : V := .tup [.agg [.str c.name, .int .i64 c.lo, .int .i64 c.hi, c.w], .bool b]
theorem ckcol_call (cv : V) (cs : List Col) (hc : IsC cv cs) (ok : OkC cs) (hl : cs.length ≤ 1000) (nm : List UInt8) (σ : S) : callFn env (ev env) 88 [cv, .str nm] σ = some (colT (colN cs nm) (decide (0 ≤ seekK cs nm)), σ) := by
  refine callFn_pure rfl rfl (by simp [V.closed, V.closed.closedL, closed_C hc ok]) at88 rfl (by simp [Tryd.f88]) (by simp [Tryd.f88]) (G_start ?_) σ
  have hF := column2_call nm (.str []) (.bool false) (.int .i64 0) rfl rfl rfl cv cs hc ok hl
  change ∀ σ, _ = some (foundV (seekK cs nm), σ) at hF
  unfold foundV at hF
  have hW := colN_W ok nm
  rcases seekK_spec cs nm with h | ⟨j, h, hj, _⟩
  · unfold colT colN
    rw [h] at hF ⊢
    rw [if_neg (by omega)] at hF ⊢
    rw [decide_eq_false (by omega)] at hF ⊢
    simp -implicitDefEqProofs only [Tryd.f88,Wa,Wb,Wc,Wd,We,Wf,Wg,Wh,Wi,Wj,Wk,Wl,Wm,Wn,Zo,Zp,evalT,Nat.reduceLT,Nat.reduceEqDiff,if_true,if_false,reduceIte,Ys,ofVal,ofCell,argT,resT,setT,Y0,Int.reduceEq,Int.reduceLT,Int.reduceLE,Int.reduceNeg,mb,Nat.reduceBEq,tys,stb,Va,storeList,Nat.reduceAdd,Nat.reduceLeDiff,tysn,tys2,empty_mk,z44,build36 hc,build46,hF,YW,isCell_str,isCell_int,isCell_nilsl,YH,agg44,load4_ptr (show ([AObj.cells [V.str [],V.int IntKind.i64 0,V.int IntKind.i64 0,V.nilsl] 46] : List AObj)[0]? = some (AObj.cells [V.str [],V.int IntKind.i64 0,V.int IntKind.i64 0,V.nilsl] 46) from rfl)]
    rfl
  · unfold colT
    have hcN : colN cs nm = cs.getD j Col.none := by unfold colN; rw [h, if_pos (by omega), Int.toNat_natCast]
    rw [hcN] at hW ⊢
    rw [h] at hF ⊢
    rw [if_pos (by omega)] at hF
    rw [decide_eq_true (by omega)] at hF ⊢
    have hx := idx_C hc hj
    have hic := isCell_W hW
    have hsw := seal_W hW
    generalize cs.getD j Col.none = c at *
    simp -implicitDefEqProofs only [Tryd.f88,Wa,Wb,Wc,Wd,We,Wf,Wg,Wh,Wi,Wj,Wk,Wl,Wm,Wn,Zo,Zp,evalT,Nat.reduceLT,Nat.reduceEqDiff,if_true,if_false,reduceIte,Ys,ofVal,ofCell,argT,resT,setT,Y0,Int.reduceEq,Int.reduceLT,Int.reduceLE,Int.reduceNeg,mb,Nat.reduceBEq,tys,stb,Va,storeList,Nat.reduceAdd,Nat.reduceLeDiff,tysn,tys2,empty_mk,z44,build36 hc,hF,YW,isCell_str,isCell_int,isCell_nilsl,YH,hx,agg44,load4_rptr,hic,load4_ptr (show ([AObj.cells [V.str c.name,V.int IntKind.i64 c.lo,V.int IntKind.i64 c.hi,c.w] 46] : List AObj)[0]? = some _ from rfl)]
    simp only [oneOr, sealDepth, sealV_tup, sealV_agg, mapM_seal_cons, mapM_seal_nil, sealV_int, sealV_str, sealV_bool, hsw, Option.bind_some, Option.map_some, and_self]
end Go.Proofs.YtcjapamldllleaaDoor
namespace Go.Proofs.YtcjapamldllleaaDoor
open Go.Ab
set_option maxHeartbeats 4000000
set_option maxRecDepth 100000
set_option linter.unusedSimpArgs false
set_option linter.unusedVariables false
theorem at87 : env.P.funcs[87]? = some Tryd.f87 := by kernel_rfl
theorem at68 : env.P.funcs[68]? = some Tryd.f68 := by kernel_rfl
abbrev gN (l : List Nd) (i : Nat) : Nd := l.getD i Nd.none
def BadW (l : List Nd) (i : Nat) : Prop := i = 0 ∨ (gN l (i - 1)).op ≠ 2 ∨ l.length ≤ i + 1 ∨ ((gN l (i + 1)).op ≠ 9 ∧ (gN l (i + 1)).op ≠ 10)
instance (l : List Nd) (i : Nat) : Decidable (BadW l i) := by unfold BadW; infer_instance
def wordE (l : List Nd) (i : Nat) (cs : List Col) : Int :=
  if BadW l i then 10
  else if (colN cs (gN l (i - 1)).col).ws.length = 0 then 10
  else if (gN l i).col ∈ (colN cs (gN l (i - 1)).col).ws then 0 else 7
theorem word_r1 {Q : Post} {ks : List Kt} {T : Tm} {D : List DE} {σ : S} {v : V} {l : List Nd} {i : Nat} (hv : IsN v l) (hl : l.length ≤ 4000) (hi : i < l.length) (t0 : T 0 = v) (t1 : T 1 = .int .i64 i)
    (h : ∀ T', T' 0 = T 0 → T' 1 = T 1 → T' 2 = T 2 → T' 6 = T 6 → T' 44 = .bool (decide (BadW l i)) → G env 87 none 71 Q ks .skip T' D σ) : G env 87 none 71 Q ks (regZ 1 (bodyOf Tryd.f87)) T D σ := by
  have key : ∀ b : Bool, (b = true ↔ BadW l i) → decide (BadW l i) = b := by
    intro b hb
    cases b
    · exact decide_eq_false (fun h => by have := hb.2 h; simp at this)
    · exact decide_eq_true (hb.1 rfl)
  have e1 : IntKind.i64.wrap ((i : Int) + 1) = ((i + 1 : Nat) : Int) := by rw [wrap_i64 (by omega) (by omega)]; omega
  have ln := len_N hv
  simp only [regZ, regA, bodyOf, Tryd.f87, Option.getD_some, Option.or, Nat.reduceEqDiff, if_false, if_true, reduceIte]
  by_cases h0 : (i : Int) = 0
  · have hB : decide (BadW l i) = true := decide_eq_true (.inl (by omega))
    rw [hB] at h
    simp -implicitDefEqProofs only [Wa,Wb,Wc,Wd,We,Wf,Wg,Wh,Wi,Wj,Wk,Wl,Wm,Wn,Zo,Zp,evalT,Nat.reduceLT,Nat.reduceEqDiff,if_true,if_false,reduceIte,Ys,ofVal,ofCell,argT,resT,setT,Y0,Int.reduceEq,Int.reduceLT,Int.reduceLE,Int.reduceNeg,mb,Nat.reduceBEq,tys,stb,t0,t1,h0]
    exact h _ rfl rfl rfl rfl rfl
  have e0 : IntKind.i64.wrap ((i : Int) - 1) = ((i - 1 : Nat) : Int) := by rw [wrap_i64 (by omega) (by omega)]; omega
  have hx := idx_N hv (show i - 1 < l.length by omega)
  by_cases h1 : (gN l (i - 1)).op = 2
  case neg =>
    have hB : decide (BadW l i) = true := decide_eq_true (.inr (.inl h1))
    rw [hB] at h
    have g1 : (((gN l (i - 1)).op : Int) = 2) = False := eq_false h1
    simp -implicitDefEqProofs only [Wa,Wb,Wc,Wd,We,Wf,Wg,Wh,Wi,Wj,Wk,Wl,Wm,Wn,Zo,Zp,evalT,Nat.reduceLT,Nat.reduceEqDiff,if_true,if_false,reduceIte,Ys,ofVal,ofCell,argT,resT,setT,Y0,Int.reduceEq,Int.reduceLT,Int.reduceLE,Int.reduceNeg,mb,Nat.reduceBEq,tys,stb,tysn,t0,t1,h0,e0,hx,load_hd,g1]
    exact h _ rfl rfl rfl rfl rfl
  have g1 : (((gN l (i - 1)).op : Int) = 2) = True := eq_true h1
  by_cases h2 : (l.length : Int) ≤ ((i + 1 : Nat) : Int)
  · have hB : decide (BadW l i) = true := decide_eq_true (.inr (.inr (.inl (by omega))))
    rw [hB] at h
    simp -implicitDefEqProofs only [Wa,Wb,Wc,Wd,We,Wf,Wg,Wh,Wi,Wj,Wk,Wl,Wm,Wn,Zo,Zp,evalT,Nat.reduceLT,Nat.reduceEqDiff,if_true,if_false,reduceIte,Ys,ofVal,ofCell,argT,resT,setT,Y0,Int.reduceEq,Int.reduceLT,Int.reduceLE,Int.reduceNeg,mb,Nat.reduceBEq,tys,stb,tysn,t0,t1,h0,e0,e1,hx,ln,load_hd,g1,h2]
    exact h _ rfl rfl rfl rfl rfl
  have hy := idx_N hv (show i + 1 < l.length by omega)
  by_cases h3 : (gN l (i + 1)).op = 9
  · have hB : decide (BadW l i) = false := decide_eq_false (by rintro (h | h | h | h) <;> first | omega | exact h h1 | exact h.1 h3)
    rw [hB] at h
    have g3 : (((gN l (i + 1)).op : Int) = 9) = True := eq_true h3
    simp -implicitDefEqProofs only [Wa,Wb,Wc,Wd,We,Wf,Wg,Wh,Wi,Wj,Wk,Wl,Wm,Wn,Zo,Zp,evalT,Nat.reduceLT,Nat.reduceEqDiff,if_true,if_false,reduceIte,Ys,ofVal,ofCell,argT,resT,setT,Y0,Int.reduceEq,Int.reduceLT,Int.reduceLE,Int.reduceNeg,mb,Nat.reduceBEq,tys,stb,tysn,t0,t1,h0,e0,e1,hx,hy,ln,load_hd,g1,h2,g3]
    exact h _ rfl rfl rfl rfl rfl
  have g3 : (((gN l (i + 1)).op : Int) = 9) = False := eq_false h3
  by_cases h4 : (gN l (i + 1)).op = 10
  · have hB : decide (BadW l i) = false := decide_eq_false (by rintro (h | h | h | h) <;> first | omega | exact h h1 | exact h.2 h4)
    rw [hB] at h
    have g4 : (((gN l (i + 1)).op : Int) = 10) = True := eq_true h4
    simp -implicitDefEqProofs only [Wa,Wb,Wc,Wd,We,Wf,Wg,Wh,Wi,Wj,Wk,Wl,Wm,Wn,Zo,Zp,evalT,Nat.reduceLT,Nat.reduceEqDiff,if_true,if_false,reduceIte,Ys,ofVal,ofCell,argT,resT,setT,Y0,Int.reduceEq,Int.reduceLT,Int.reduceLE,Int.reduceNeg,mb,Nat.reduceBEq,tys,stb,tysn,t0,t1,h0,e0,e1,hx,hy,ln,load_hd,g1,h2,g3,g4]
    exact h _ rfl rfl rfl rfl rfl
  · have hB : decide (BadW l i) = true := decide_eq_true (.inr (.inr (.inr ⟨h3, h4⟩)))
    rw [hB] at h
    have g4 : (((gN l (i + 1)).op : Int) = 10) = False := eq_false h4
    simp -implicitDefEqProofs only [Wa,Wb,Wc,Wd,We,Wf,Wg,Wh,Wi,Wj,Wk,Wl,Wm,Wn,Zo,Zp,evalT,Nat.reduceLT,Nat.reduceEqDiff,if_true,if_false,reduceIte,Ys,ofVal,ofCell,argT,resT,setT,Y0,Int.reduceEq,Int.reduceLT,Int.reduceLE,Int.reduceNeg,mb,Nat.reduceBEq,tys,stb,tysn,t0,t1,h0,e0,e1,hx,hy,ln,load_hd,g1,h2,g3,g4]
    exact h _ rfl rfl rfl rfl rfl
theorem word_call (v : V) (l : List Nd) (hv : IsN v l) (hl : l.length ≤ 4000) (i : Nat) (hi : i < l.length) (cv : V) (cs : List Col) (hc : IsC cv cs) (ok : OkC cs) (hcl : cs.length ≤ 1000) (hw : ∀ i, i < cs.length → (cs.getD i Col.none).ws.length ≤ 1000) (σ : S) :
    callFn env (ev env) 87 [v, .int .i64 i, cv] σ = some (.int .i64 (wordE l i cs), σ) := by
  refine callFn_pure rfl rfl (by simp [V.closed, V.closed.closedL, closed_C hc ok, closed_N hv]) at87 rfl (by simp [Tryd.f87]) (by simp [Tryd.f87]) (G_start ?_) σ
  unfold wordE
  simp -implicitDefEqProofs only [Tryd.f87,Wa,Wb,Wc,Wd,We,Wf,Wg,Wh,Wi,Wj,Wk,Wl,Wm,Wn,G_but 1,Zp,evalT,Nat.reduceLT,Nat.reduceEqDiff,if_true,if_false,reduceIte,Ys,ofVal,ofCell,argT,resT,setT,Y0,Int.reduceEq,Int.reduceLT,Int.reduceLE,Int.reduceNeg,mb,Nat.reduceBEq,tys,stb,empty_mk]
  refine word_r1 hv hl hi ?_ ?_ ?_
  · rfl
  · rfl
  intro T' b0 b1 b2 b6 b44
  have t0 : T' 0 = v := b0
  have t1 : T' 1 = .int .i64 i := b1
  have t2 : T' 2 = cv := b2
  clear b0 b1 b2
  by_cases hb : BadW l i
  · rw [if_pos hb]
    rw [decide_eq_true hb] at b44
    simp -implicitDefEqProofs only [Wa,Wb,Wc,Wd,We,Wf,Wg,Wh,Wi,Wj,Wk,Wl,Wm,Wn,Zo,Zp,evalT,Nat.reduceLT,Nat.reduceEqDiff,if_true,if_false,reduceIte,Ys,ofVal,ofCell,argT,resT,setT,Y0,Int.reduceEq,Int.reduceLT,Int.reduceLE,Int.reduceNeg,mb,Nat.reduceBEq,tys,stb,b44]
    rfl
  · rw [if_neg hb]
    rw [decide_eq_false hb] at b44
    have hi0 : ¬ i = 0 := fun h => hb (.inl h)
    have e0 : IntKind.i64.wrap ((i : Int) - 1) = ((i - 1 : Nat) : Int) := by rw [wrap_i64 (by omega) (by omega)]; omega
    have hx := idx_N hv (show i - 1 < l.length by omega)
    have hy := idx_N hv hi
    have hF := ckcol_call cv cs hc ok hcl (gN l (i - 1)).col
    unfold colT at hF
    have hW := colN_W ok (gN l (i - 1)).col
    have hlen : (colN cs (gN l (i - 1)).col).ws.length ≤ 1000 := by
      unfold colN
      rcases seekK_spec cs (gN l (i - 1)).col with h | ⟨j, h, hj, _⟩
      · rw [h, if_neg (by omega)]; simp [Col.none]
      · rw [h, if_pos (by omega), Int.toNat_natCast]; exact hw j hj
    have hic := isCell_W hW
    generalize colN cs (gN l (i - 1)).col = c at *
    by_cases h0 : c.ws.length = 0
    · rw [if_pos h0]
      have c0 : ((c.ws.length : Int) = 0) = True := eq_true (by omega)
      simp -implicitDefEqProofs only [Wa,Wb,Wc,Wd,We,Wf,Wg,Wh,Wi,Wj,Wk,Wl,Wm,Wn,Zo,Zp,evalT,Nat.reduceLT,Nat.reduceEqDiff,if_true,if_false,reduceIte,Ys,ofVal,ofCell,argT,resT,setT,Y0,Int.reduceEq,Int.reduceLT,Int.reduceLE,Int.reduceNeg,mb,Nat.reduceBEq,tys,stb,Va,storeList,Nat.reduceAdd,Nat.reduceLeDiff,tysn,tys2,t0,t1,t2,b44,e0,hx,load_hd,hF,z44,set_end,heap_end,YW,isCell_str,isCell_int,hic,len_W hW,c0]
      rfl
    · rw [if_neg h0]
      have c0 : ((c.ws.length : Int) = 0) = False := eq_false (by omega)
      have hwv : c.w = .row (c.ws.map V.str) c.ws.length .unk := by
        rcases hW with ⟨_, h⟩ | h
        · exact absurd (by rw [h]; rfl) h0
        · exact h
      have hC := containsW_call c.ws .unk (fun _ _ _ h => by cases h) hlen (gN l i).col
      rw [← hwv] at hC
      by_cases hm : (gN l i).col ∈ c.ws
      · rw [if_pos hm]
        rw [decide_eq_true hm] at hC
        simp -implicitDefEqProofs only [Wa,Wb,Wc,Wd,We,Wf,Wg,Wh,Wi,Wj,Wk,Wl,Wm,Wn,Zo,Zp,evalT,Nat.reduceLT,Nat.reduceEqDiff,if_true,if_false,reduceIte,Ys,ofVal,ofCell,argT,resT,setT,Y0,Int.reduceEq,Int.reduceLT,Int.reduceLE,Int.reduceNeg,mb,Nat.reduceBEq,tys,stb,Va,storeList,Nat.reduceAdd,Nat.reduceLeDiff,tysn,tys2,t0,t1,t2,b44,e0,hx,hy,load_hd,hF,z44,set_end,heap_end,YW,isCell_str,isCell_int,hic,len_W hW,c0,hC,Bool.not_true,Bool.not_false]
        trace_state
        exact ⟨by kernel_rfl, rfl⟩
      · rw [if_neg hm]
        rw [decide_eq_false hm] at hC
        simp -implicitDefEqProofs only [Wa,Wb,Wc,Wd,We,Wf,Wg,Wh,Wi,Wj,Wk,Wl,Wm,Wn,Zo,Zp,evalT,Nat.reduceLT,Nat.reduceEqDiff,if_true,if_false,reduceIte,Ys,ofVal,ofCell,argT,resT,setT,Y0,Int.reduceEq,Int.reduceLT,Int.reduceLE,Int.reduceNeg,mb,Nat.reduceBEq,tys,stb,Va,storeList,Nat.reduceAdd,Nat.reduceLeDiff,tysn,tys2,t0,t1,t2,b44,e0,hx,hy,load_hd,hF,z44,set_end,heap_end,YW,isCell_str,isCell_int,hic,len_W hW,c0,hC,Bool.not_true,Bool.not_false]
        exact ⟨by kernel_rfl, rfl⟩
end Go.Proofs.YtcjapamldllleaaDoor
namespace Go.Proofs.YtcjapamldllleaaDoor
open Go.Ab
set_option maxHeartbeats 4000000
set_option maxRecDepth 100000
set_option linter.unusedSimpArgs false
set_option linter.unusedVariables false
def BadF (x : Nd) : Prop := x.op < 1 ∨ 17 < x.op ∨ (x.n ≠ 0 ∧ x.op ≠ 1) ∨ (x.col ≠ [] ∧ x.op ≠ 2 ∧ x.op ≠ 3)
instance (x : Nd) : Decidable (BadF x) := by unfold BadF; infer_instance
def nodeE (l : List Nd) (i : Nat) (cs : List Col) : Int :=
  if BadF (gN l i) then 3
  else if (gN l i).n < 0 ∨ 1000000000 < (gN l i).n then 2
  else if (gN l i).op = 3 then wordE l i cs
  else if (gN l i).op = 2 ∧ seekK cs (gN l i).col < 0 then 7 else 0
def objN (x : Nd) : AObj := .cells [.int .i64 x.op, .int .i64 x.n, .str x.col] 52
theorem ld_op (x : Nd) : cellAt (some (objN x)) 0 = some (.int .i64 x.op) := rfl
theorem ld_n (x : Nd) : cellAt (some (objN x)) 1 = some (.int .i64 x.n) := rfl
theorem ld_col (x : Nd) : cellAt (some (objN x)) 2 = some (.str x.col) := rfl
theorem node_r2 {Q : Post} {ks : List Kt} {T : Tm} {D : List DE} {x : Nd} (t7 : T 7 = .ptr 0 0)
    (h : ∀ T', T' 0 = T 0 → T' 1 = T 1 → T' 2 = T 2 → T' 7 = T 7 → T' 14 = .bool (decide (BadF x)) → G env 68 none 78 Q ks .skip T' D ⟨[objN x], []⟩) : G env 68 none 78 Q ks (regZ 2 (bodyOf Tryd.f68)) T D ⟨[objN x], []⟩ := by
  simp only [regZ, regA, bodyOf, Tryd.f68, Option.getD_some, Option.or, Nat.reduceEqDiff, if_false, if_true, reduceIte]
  by_cases h1 : x.op < 1
  · rw [decide_eq_true (show BadF x from .inl h1)] at h
    simp -implicitDefEqProofs only [Wa,Wb,Wc,Wd,We,Wf,Wg,Wh,Wi,Wj,Wk,Wl,Wm,Wn,Zo,Zp,evalT,Nat.reduceLT,Nat.reduceEqDiff,if_true,if_false,reduceIte,Ys,ofVal,ofCell,argT,resT,setT,Y0,Int.reduceEq,Int.reduceLT,Int.reduceLE,Int.reduceNeg,mb,Nat.reduceBEq,tys,stb,tysn,t7,ld_op,h1]
    exact h _ rfl rfl rfl rfl rfl
  by_cases h2 : 17 < x.op
  · rw [decide_eq_true (show BadF x from .inr (.inl h2))] at h
    simp -implicitDefEqProofs only [Wa,Wb,Wc,Wd,We,Wf,Wg,Wh,Wi,Wj,Wk,Wl,Wm,Wn,Zo,Zp,evalT,Nat.reduceLT,Nat.reduceEqDiff,if_true,if_false,reduceIte,Ys,ofVal,ofCell,argT,resT,setT,Y0,Int.reduceEq,Int.reduceLT,Int.reduceLE,Int.reduceNeg,mb,Nat.reduceBEq,tys,stb,tysn,t7,ld_op,h1,h2]
    exact h _ rfl rfl rfl rfl rfl
  by_cases h3 : x.n = 0
  · have g3 : ((x.n : Int) = 0) = True := eq_true h3
    by_cases h5 : x.col = []
    · rw [decide_eq_false (show ¬ BadF x from by rintro (h | h | h | h) <;> first | exact h1 h | exact h2 h | exact h.1 h3 | exact h.1 h5)] at h
      have g5 : ((x.col : List UInt8) = []) = True := eq_true h5
      simp -implicitDefEqProofs only [Wa,Wb,Wc,Wd,We,Wf,Wg,Wh,Wi,Wj,Wk,Wl,Wm,Wn,Zo,Zp,evalT,Nat.reduceLT,Nat.reduceEqDiff,if_true,if_false,reduceIte,Ys,ofVal,ofCell,argT,resT,setT,Y0,Int.reduceEq,Int.reduceLT,Int.reduceLE,Int.reduceNeg,mb,Nat.reduceBEq,tys,stb,tysn,t7,ld_op,ld_n,ld_col,h1,h2,g3,g5,vBin_sneq]
      exact h _ rfl rfl rfl rfl rfl
    have g5 : ((x.col : List UInt8) = []) = False := eq_false h5
    by_cases h6 : x.op = 2
    · rw [decide_eq_false (show ¬ BadF x from by rintro (h | h | h | h) <;> first | exact h1 h | exact h2 h | exact h.1 h3 | exact h.2.1 h6)] at h
      have g6 : ((x.op : Int) = 2) = True := eq_true h6
      simp -implicitDefEqProofs only [Wa,Wb,Wc,Wd,We,Wf,Wg,Wh,Wi,Wj,Wk,Wl,Wm,Wn,Zo,Zp,evalT,Nat.reduceLT,Nat.reduceEqDiff,if_true,if_false,reduceIte,Ys,ofVal,ofCell,argT,resT,setT,Y0,Int.reduceEq,Int.reduceLT,Int.reduceLE,Int.reduceNeg,mb,Nat.reduceBEq,tys,stb,tysn,t7,ld_op,ld_n,ld_col,h1,h2,g3,g5,g6,vBin_sneq]
      exact h _ rfl rfl rfl rfl rfl
    have g6 : ((x.op : Int) = 2) = False := eq_false h6
    by_cases h7 : x.op = 3
    · rw [decide_eq_false (show ¬ BadF x from by rintro (h | h | h | h) <;> first | exact h1 h | exact h2 h | exact h.1 h3 | exact h.2.2 h7)] at h
      have g7 : ((x.op : Int) = 3) = True := eq_true h7
      simp -implicitDefEqProofs only [Wa,Wb,Wc,Wd,We,Wf,Wg,Wh,Wi,Wj,Wk,Wl,Wm,Wn,Zo,Zp,evalT,Nat.reduceLT,Nat.reduceEqDiff,if_true,if_false,reduceIte,Ys,ofVal,ofCell,argT,resT,setT,Y0,Int.reduceEq,Int.reduceLT,Int.reduceLE,Int.reduceNeg,mb,Nat.reduceBEq,tys,stb,tysn,t7,ld_op,ld_n,ld_col,h1,h2,g3,g5,g6,g7,vBin_sneq]
      exact h _ rfl rfl rfl rfl rfl
    · have g7 : ((x.op : Int) = 3) = False := eq_false h7
      rw [decide_eq_true (show BadF x from .inr (.inr (.inr ⟨h5, h6, h7⟩)))] at h
      simp -implicitDefEqProofs only [Wa,Wb,Wc,Wd,We,Wf,Wg,Wh,Wi,Wj,Wk,Wl,Wm,Wn,Zo,Zp,evalT,Nat.reduceLT,Nat.reduceEqDiff,if_true,if_false,reduceIte,Ys,ofVal,ofCell,argT,resT,setT,Y0,Int.reduceEq,Int.reduceLT,Int.reduceLE,Int.reduceNeg,mb,Nat.reduceBEq,tys,stb,tysn,t7,ld_op,ld_n,ld_col,h1,h2,g3,g5,g6,g7,vBin_sneq]
      exact h _ rfl rfl rfl rfl rfl
  have g3 : ((x.n : Int) = 0) = False := eq_false h3
  by_cases h4 : x.op = 1
  case neg =>
    have g4 : ((x.op : Int) = 1) = False := eq_false h4
    rw [decide_eq_true (show BadF x from .inr (.inr (.inl ⟨h3, h4⟩)))] at h
    simp -implicitDefEqProofs only [Wa,Wb,Wc,Wd,We,Wf,Wg,Wh,Wi,Wj,Wk,Wl,Wm,Wn,Zo,Zp,evalT,Nat.reduceLT,Nat.reduceEqDiff,if_true,if_false,reduceIte,Ys,ofVal,ofCell,argT,resT,setT,Y0,Int.reduceEq,Int.reduceLT,Int.reduceLE,Int.reduceNeg,mb,Nat.reduceBEq,tys,stb,tysn,t7,ld_op,ld_n,ld_col,h1,h2,g3,g4,vBin_sneq]
    exact h _ rfl rfl rfl rfl rfl
  have g4 : ((x.op : Int) = 1) = True := eq_true h4
  have g6 : ((x.op : Int) = 2) = False := eq_false (by omega)
  have g7 : ((x.op : Int) = 3) = False := eq_false (by omega)
  by_cases h5 : x.col = []
  · rw [decide_eq_false (show ¬ BadF x from by rintro (h | h | h | h) <;> first | exact h1 h | exact h2 h | exact h.2 h4 | exact h.1 h5)] at h
    have g5 : ((x.col : List UInt8) = []) = True := eq_true h5
    simp -implicitDefEqProofs only [Wa,Wb,Wc,Wd,We,Wf,Wg,Wh,Wi,Wj,Wk,Wl,Wm,Wn,Zo,Zp,evalT,Nat.reduceLT,Nat.reduceEqDiff,if_true,if_false,reduceIte,Ys,ofVal,ofCell,argT,resT,setT,Y0,Int.reduceEq,Int.reduceLT,Int.reduceLE,Int.reduceNeg,mb,Nat.reduceBEq,tys,stb,tysn,t7,ld_op,ld_n,ld_col,h1,h2,g3,g4,g5,vBin_sneq]
    exact h _ rfl rfl rfl rfl rfl
  · have g5 : ((x.col : List UInt8) = []) = False := eq_false h5
    rw [decide_eq_true (show BadF x from .inr (.inr (.inr ⟨h5, by omega, by omega⟩)))] at h
    simp -implicitDefEqProofs only [Wa,Wb,Wc,Wd,We,Wf,Wg,Wh,Wi,Wj,Wk,Wl,Wm,Wn,Zo,Zp,evalT,Nat.reduceLT,Nat.reduceEqDiff,if_true,if_false,reduceIte,Ys,ofVal,ofCell,argT,resT,setT,Y0,Int.reduceEq,Int.reduceLT,Int.reduceLE,Int.reduceNeg,mb,Nat.reduceBEq,tys,stb,tysn,t7,ld_op,ld_n,ld_col,h1,h2,g3,g4,g5,g6,g7,vBin_sneq]
    exact h _ rfl rfl rfl rfl rfl
theorem node_call (v : V) (l : List Nd) (hv : IsN v l) (hl : l.length ≤ 4000) (i : Nat) (hi : i < l.length) (cv : V) (cs : List Col) (hc : IsC cv cs) (ok : OkC cs) (hcl : cs.length ≤ 1000) (hw : ∀ i, i < cs.length → (cs.getD i Col.none).ws.length ≤ 1000) (σ : S) :
    callFn env (ev env) 68 [v, .int .i64 i, cv] σ = some (.int .i64 (nodeE l i cs), σ) := by
  refine callFn_pure rfl rfl (by simp [V.closed, V.closed.closedL, closed_C hc ok, closed_N hv]) at68 rfl (by simp [Tryd.f68]) (by simp [Tryd.f68]) (G_start ?_) σ
  have hx := idx_N hv hi
  have hW := word_call v l hv hl i hi cv cs hc ok hcl hw
  have hF := ckcol_call cv cs hc ok hcl (gN l i).col
  have hWc := colN_W ok (gN l i).col
  have hic := isCell_W hWc
  unfold colT at hF
  unfold nodeE
  change vIndexAddr 3 v (.int .i64 i) = some (.rptr (.int .i64 (gN l i).op :: .int .i64 (gN l i).n :: .str (gN l i).col :: _)) at hx
  have hobj : (AObj.cells [V.int IntKind.i64 (gN l i).op, V.int IntKind.i64 (gN l i).n, V.str (gN l i).col] 52) = objN (gN l i) := rfl
  simp -implicitDefEqProofs only [Tryd.f68,Wa,Wb,Wc,Wd,We,Wf,Wg,Wh,Wi,Wj,Wk,Wl,Wm,Wn,G_but 2,Zp,evalT,Nat.reduceLT,Nat.reduceEqDiff,if_true,if_false,reduceIte,Ys,ofVal,ofCell,argT,resT,setT,Y0,Int.reduceEq,Int.reduceLT,Int.reduceLE,Int.reduceNeg,mb,Nat.reduceBEq,tys,stb,Va,storeList,Nat.reduceAdd,Nat.reduceLeDiff,tysn,empty_mk,hx,load3_rptr,YW,isCell_int,isCell_str,hobj]
  refine node_r2 (x := gN l i) ?_ ?_
  · rfl
  intro T' b0 b1 b2 b7 b14
  have t0 : T' 0 = v := b0
  have t1 : T' 1 = .int .i64 i := b1
  have t2 : T' 2 = cv := b2
  have t7 : T' 7 = .ptr 0 0 := b7
  clear b0 b1 b2 b7
  by_cases hb : BadF (gN l i)
  · rw [if_pos hb]
    rw [decide_eq_true hb] at b14
    simp -implicitDefEqProofs only [Wa,Wb,Wc,Wd,We,Wf,Wg,Wh,Wi,Wj,Wk,Wl,Wm,Wn,Zo,Zp,evalT,Nat.reduceLT,Nat.reduceEqDiff,if_true,if_false,reduceIte,Ys,ofVal,ofCell,argT,resT,setT,Y0,Int.reduceEq,Int.reduceLT,Int.reduceLE,Int.reduceNeg,mb,Nat.reduceBEq,tys,stb,b14]
    rfl
  rw [if_neg hb]
  rw [decide_eq_false hb] at b14
  by_cases h1 : (gN l i).n < 0
  · rw [if_pos (.inl h1)]
    simp -implicitDefEqProofs only [Wa,Wb,Wc,Wd,We,Wf,Wg,Wh,Wi,Wj,Wk,Wl,Wm,Wn,Zo,Zp,evalT,Nat.reduceLT,Nat.reduceEqDiff,if_true,if_false,reduceIte,Ys,ofVal,ofCell,argT,resT,setT,Y0,Int.reduceEq,Int.reduceLT,Int.reduceLE,Int.reduceNeg,mb,Nat.reduceBEq,tys,stb,tysn,b14,t7,ld_n,h1]
    rfl
  by_cases h2 : 1000000000 < (gN l i).n
  · rw [if_pos (.inr h2)]
    simp -implicitDefEqProofs only [Wa,Wb,Wc,Wd,We,Wf,Wg,Wh,Wi,Wj,Wk,Wl,Wm,Wn,Zo,Zp,evalT,Nat.reduceLT,Nat.reduceEqDiff,if_true,if_false,reduceIte,Ys,ofVal,ofCell,argT,resT,setT,Y0,Int.reduceEq,Int.reduceLT,Int.reduceLE,Int.reduceNeg,mb,Nat.reduceBEq,tys,stb,tysn,b14,t7,ld_n,h1,h2]
    rfl
  rw [if_neg (by rintro (h | h) <;> contradiction)]
  by_cases h3 : (gN l i).op = 3
  · rw [if_pos h3]
    have g3 : (((gN l i).op : Int) = 3) = True := eq_true h3
    simp -implicitDefEqProofs only [Wa,Wb,Wc,Wd,We,Wf,Wg,Wh,Wi,Wj,Wk,Wl,Wm,Wn,Zo,Zp,evalT,Nat.reduceLT,Nat.reduceEqDiff,if_true,if_false,reduceIte,Ys,ofVal,ofCell,argT,resT,setT,Y0,Int.reduceEq,Int.reduceLT,Int.reduceLE,Int.reduceNeg,mb,Nat.reduceBEq,tys,stb,tysn,b14,t0,t1,t2,t7,ld_n,ld_op,h1,h2,g3,hW]
    rfl
  rw [if_neg h3]
  have g3 : (((gN l i).op : Int) = 3) = False := eq_false h3
  by_cases h4 : (gN l i).op = 2
  · have g4 : (((gN l i).op : Int) = 2) = True := eq_true h4
    by_cases h5 : 0 ≤ seekK cs (gN l i).col
    · rw [if_neg (by omega)]
      rw [decide_eq_true h5] at hF
      simp -implicitDefEqProofs only [Wa,Wb,Wc,Wd,We,Wf,Wg,Wh,Wi,Wj,Wk,Wl,Wm,Wn,Zo,Zp,evalT,Nat.reduceLT,Nat.reduceEqDiff,if_true,if_false,reduceIte,Ys,ofVal,ofCell,argT,resT,setT,Y0,Int.reduceEq,Int.reduceLT,Int.reduceLE,Int.reduceNeg,mb,Nat.reduceBEq,tys,stb,Va,storeList,Nat.reduceAdd,Nat.reduceLeDiff,tysn,tys2,b14,t0,t1,t2,t7,ld_n,ld_op,ld_col,h1,h2,g3,g4,hF,z44,set_end,heap_end,List.length_cons,List.length_nil,YW,isCell_str,isCell_int,hic]
      trace_state
      rfl
    · rw [if_pos ⟨h4, by omega⟩]
      rw [decide_eq_false h5] at hF
      simp -implicitDefEqProofs only [Wa,Wb,Wc,Wd,We,Wf,Wg,Wh,Wi,Wj,Wk,Wl,Wm,Wn,Zo,Zp,evalT,Nat.reduceLT,Nat.reduceEqDiff,if_true,if_false,reduceIte,Ys,ofVal,ofCell,argT,resT,setT,Y0,Int.reduceEq,Int.reduceLT,Int.reduceLE,Int.reduceNeg,mb,Nat.reduceBEq,tys,stb,Va,storeList,Nat.reduceAdd,Nat.reduceLeDiff,tysn,tys2,b14,t0,t1,t2,t7,ld_n,ld_op,ld_col,h1,h2,g3,g4,hF,z44,set_end,heap_end,YW,isCell_str,isCell_int,hic]
      rfl
  · rw [if_neg (fun h => h4 h.1)]
    have g4 : (((gN l i).op : Int) = 2) = False := eq_false h4
    simp -implicitDefEqProofs only [Wa,Wb,Wc,Wd,We,Wf,Wg,Wh,Wi,Wj,Wk,Wl,Wm,Wn,Zo,Zp,evalT,Nat.reduceLT,Nat.reduceEqDiff,if_true,if_false,reduceIte,Ys,ofVal,ofCell,argT,resT,setT,Y0,Int.reduceEq,Int.reduceLT,Int.reduceLE,Int.reduceNeg,mb,Nat.reduceBEq,tys,stb,tysn,b14,t0,t1,t2,t7,ld_n,ld_op,h1,h2,g3,g4]
    rfl
end Go.Proofs.YtcjapamldllleaaDoor
namespace Go.Proofs.YtcjapamldllleaaDoor
open Go.Ab
set_option maxHeartbeats 4000000
set_option maxRecDepth 100000
set_option linter.unusedSimpArgs false
set_option linter.unusedVariables false
theorem at48 : env.P.funcs[48]? = some Tryd.f48 := by kernel_rfl
def exprL (l : List Nd) (cs : List Col) : Nat → Nat → List Int → Int × List Int
  | 0, _, st => (0, st)
  | m + 1, i, st =>
    if nodeE l i cs = 0 then
      match popN st (takesN (gN l i).op).1 with
      | none => (10, st)
      | some st' => exprL l cs m (i + 1) (st' ++ [(takesN (gN l i).op).2])
    else (nodeE l i cs, st)
def lastE (r : Int × List Int) (cond : Bool) : Int := if r.1 = 0 then (if r.2 = [if cond then 1 else 0] then 0 else 10) else r.1
def exprE (l : List Nd) (cs : List Col) (cond : Bool) : Int := if 200 < l.length then 4 else lastE (exprL l cs l.length 0 []) cond
theorem nodeE_op {l : List Nd} {i : Nat} {cs : List Col} (h : nodeE l i cs = 0) : 1 ≤ (gN l i).op ∧ (gN l i).op ≤ 17 := by
  unfold nodeE at h
  split at h
  · simp at h
  · rename_i hb
    constructor
    · rcases Int.lt_or_le (gN l i).op 1 with h1 | h1
      · exact absurd (.inl h1) hb
      · exact h1
    · rcases Int.lt_or_le 17 (gN l i).op with h1 | h1
      · exact absurd (.inr (.inl h1)) hb
      · exact h1
theorem popN_len {st want ys : List Int} (h : popN st want = some ys) : ys.length ≤ st.length := by
  unfold popN at h
  split at h
  · simp only [Option.some.injEq] at h
    rw [← h, List.length_take]; omega
  · simp at h
theorem takes_len (op : Int) : (takesN op).1.length ≤ 3 := by
  unfold takesN
  repeat' split
  all_goals simp
theorem idx_ops (op : Int) (h1 : 0 ≤ op) (h2 : op ≤ 17) : idxO (some (.array 18 106)) (sz env) (some (.ptr 0 0)) (some (.int .i64 op)) = some (.ptr 0 (op.toNat * 2)) := by
  have s106 : sz env 106 = some 2 := by kernel_rfl
  simp [idxO, s106, vIndexArr, h1]
  omega
theorem ld_ops {L : List AObj} (h : L[0]? = some (.cells opsL 107)) (op : Int) (h1 : 0 ≤ op) (h2 : op ≤ 17) : (loadCellsV L 2 (.ptr 0 (op.toNat * 2))).map V.agg = some (.agg [rowK (takesN op).1, .int .i64 (takesN op).2]) := by
  have hl := ops_len
  have := ops_at op.toNat (by omega)
  rw [Int.toNat_of_nonneg h1] at this
  simp only [loadCellsV, h]
  rw [if_pos (by omega), this]; rfl
theorem z106 : zeroV env 106 = some (.agg [.nilsl, .int .i64 0]) := by kernel_rfl
theorem rowK_cells (l : List Int) : (rowK l).cells = [rowK l] := by unfold rowK; split <;> rfl
theorem zv107 : ∃ z, zeroV env 107 = some (.agg z) ∧ z.length = 36 := by
  have h : (match zeroV env 107 with | some (.agg z) => z.length == 36 | _ => false) = true := by kernel_rfl
  split at h
  · rename_i z hz; exact ⟨z, hz, by simpa using h⟩
  · simp at h
theorem expr_call (v : V) (l : List Nd) (hv : IsN v l) (hl : l.length ≤ 4000) (cv : V) (cs : List Col) (hc : IsC cv cs) (ok : OkC cs) (hcl : cs.length ≤ 1000) (hw : ∀ i, i < cs.length → (cs.getD i Col.none).ws.length ≤ 1000) (cond : Bool) (σ : S) :
    callFn env (ev env) 48 [v, cv, .bool cond] σ = some (.int .i64 (exprE l cs cond), σ) := by
  refine callFn_pure rfl rfl (by simp [V.closed, V.closed.closedL, closed_C hc ok, closed_N hv]) at48 rfl (by simp [Tryd.f48]) (by simp [Tryd.f48]) (G_start ?_) σ
  by_cases h200 : (200 : Int) < (l.length : Int)
  · have he : exprE l cs cond = 4 := by unfold exprE; rw [if_pos (by omega)]
    rw [he]
    simp -implicitDefEqProofs only [Tryd.f48,Wa,Wb,Wc,Wd,We,Wf,Wg,Wh,Wi,Wj,Wk,Wl,Wm,Wn,Zo,Zp,evalT,Nat.reduceLT,Nat.reduceEqDiff,if_true,if_false,reduceIte,Ys,ofVal,ofCell,argT,resT,setT,Y0,Int.reduceEq,Int.reduceLT,Int.reduceLE,Int.reduceNeg,mb,Nat.reduceBEq,tys,stb,tysn,len_N hv,h200]
    rfl
  have he : exprE l cs cond = lastE (exprL l cs l.length 0 []) cond := by unfold exprE; rw [if_neg (by omega)]
  rw [he]
  clear he
  obtain ⟨z, hz, hzl⟩ := zv107
  have hd36 : List.drop 36 z = [] := List.drop_of_length_le (by omega)
  have build111 : buildO env 111 [] = some (.agg [.nilsl]) := by kernel_rfl
  have hcl2 := ops_cells
  have hol := ops_len
  simp -implicitDefEqProofs only [Tryd.f48,Wa,Wb,Wc,Wd,We,Wf,Wg,Wh,Wi,Wj,Wk,Wl,Wm,Wn,Zo,Zp,evalT,Nat.reduceLT,Nat.reduceEqDiff,if_true,if_false,reduceIte,Ys,ofVal,ofCell,argT,resT,setT,Y0,Int.reduceEq,Int.reduceLT,Int.reduceLE,Int.reduceNeg,mb,Nat.reduceBEq,tys,stb,Va,storeList,Nat.reduceAdd,Nat.reduceLeDiff,tysn,empty_mk,len_N hv,h200,operations_call,hz,YW,hcl2,hol,hzl,hd36,build111,YH]
  generalize hR : exprL l cs l.length 0 [] = R
  refine loop_rule (fun m T D σ => D = [] ∧ T 0 = v ∧ T 1 = cv ∧ T 2 = .bool cond ∧ T 7 = .ptr 0 0 ∧ T 8 = .ptr 1 0 ∧ T 20 = .int .i64 l.length ∧ ∃ (L : List AObj) (ts : List Nat) (i : Nat) (st : List Int), σ = ⟨L, ts⟩ ∧ L[0]? = some (.cells opsL 107) ∧ StkO L 1 st ∧
    T 21 = .int .i64 i ∧ i ≤ l.length ∧ m = l.length - i ∧ st.length ≤ i ∧ exprL l cs (l.length - i) i st = R) ?_ (l.length - 0) _ _ _ ⟨rfl, rfl, rfl, rfl, rfl, rfl, rfl, _, _, 0, [], rfl, rfl, ⟨.nilsl, rfl, .nil _ _ _, by simp [blkOf]⟩, rfl, by omega, rfl, by simp, hR⟩
  clear hR
  rintro m T D σ ⟨rfl, t0, t1, t2, t7, t8, t20, L, ts, i, st, rfl, p0, hS, t21, hi, rfl, hsl, hR⟩
  refine G_start ?_
  have p1lt : 1 < L.length := by obtain ⟨_, h, _⟩ := hS; exact lt_get h
  by_cases hlt : i < l.length
  · have c1 : (i : Int) < (l.length : Int) := by omega
    have e1 : IntKind.i64.wrap ((i : Int) + 1) = ((i + 1 : Nat) : Int) := by rw [wrap_i64 (by omega) (by omega)]; omega
    have hx := idx_N hv hlt
    have hN := node_call v l hv hl i hlt cv cs hc ok hcl hw
    obtain ⟨q, hq⟩ : ∃ q, l.length - i = q + 1 := ⟨l.length - i - 1, by omega⟩
    have hq2 : q = l.length - (i + 1) := by omega
    rw [hq] at hR
    simp only [exprL] at hR
    by_cases hn : nodeE l i cs = 0
    · rw [if_pos hn] at hR
      obtain ⟨o1, o2⟩ := nodeE_op hn
      rw [hn] at hN
      have ho := idx_ops (gN l i).op (by omega) o2
      have hld := ld_ops p0 (gN l i).op (by omega) o2
      change vIndexAddr 3 v (.int .i64 i) = some (.rptr (.int .i64 (gN l i).op :: _)) at hx
      generalize (gN l i).op = op at *
      have htl := takes_len op
      generalize hk : takesN op = tk at *
      obtain ⟨want, out⟩ := tk
      simp only at hld hR htl
      have hoc : ∀ X : AObj, (L ++ [X])[1]? = L[1]? := fun X => List.getElem?_append_left p1lt
      have hS1 : StkO (L ++ [AObj.cells [rowK want, V.int .i64 out] 106]) 1 st := by
        obtain ⟨u, g1, g2, g3⟩ := hS
        exact ⟨u, by rw [hoc]; exact g1, g2.move fun b hb => by rw [List.getElem?_append_left (g2.lt hb)], g3⟩
      have hrc := rowK_cell want
      have hrcs := rowK_cells want
      cases hp : popN st want with
      | none =>
        rw [hp] at hR
        simp only at hR
        have hP := pop_none _ ts 1 st want hS1 (by omega) (by omega) hp
        simp -implicitDefEqProofs only [Wa,Wb,Wc,Wd,We,Wf,Wg,Wh,Wi,Wj,Wk,Wl,Wm,Wn,Zo,Zp,evalT,Nat.reduceLT,Nat.reduceEqDiff,if_true,if_false,reduceIte,Ys,ofVal,ofCell,argT,resT,setT,Y0,Int.reduceEq,Int.reduceLT,Int.reduceLE,Int.reduceNeg,mb,Nat.reduceBEq,tys,stb,Va,storeList,Nat.reduceAdd,Nat.reduceLeDiff,tysn,t0,t1,t2,t7,t8,t20,t21,c1,hN,hx,load_hd,ho,hld,z106,set_end,heap_end,YW,YH,isCell_int,hrc,hP,Bool.not_false,Bool.not_true]
        subst hR
        simp [oneOr, sealDepth, sealV_int, lastE]
      | some ys =>
        rw [hp] at hR
        simp only at hR
        obtain ⟨L2, hP, hS2, hK2⟩ := pop_some _ ts 1 st want ys hS1 (by omega) (by omega) hp
        have hyl := popN_len hp
        have k2 := hK2 L.length _ (heap_end _ _) (by omega) (fun _ h => by cases h)
        obtain ⟨L3, hU, hS3, hK3⟩ := push_call L2 ts 1 ys out hS2 (by omega)
        have p3 : L3[0]? = some (.cells opsL 107) := hK3 0 _ (hK2 0 _ (by rw [List.getElem?_append_left (by omega)]; exact p0) (by omega) (fun _ h => by cases h)) (by omega) (fun _ h => by cases h)
        simp -implicitDefEqProofs only [Wa,Wb,Wc,Wd,We,Wf,Wg,Wh,Wi,Wj,Wk,Wl,Wm,Wn,Zo,Zp,evalT,Nat.reduceLT,Nat.reduceEqDiff,if_true,if_false,reduceIte,Ys,ofVal,ofCell,argT,resT,setT,Y0,Int.reduceEq,Int.reduceLT,Int.reduceLE,Int.reduceNeg,mb,Nat.reduceBEq,tys,stb,Va,storeList,Nat.reduceAdd,Nat.reduceLeDiff,tysn,t0,t1,t2,t7,t8,t20,t21,c1,e1,hN,hx,load_hd,ho,hld,z106,set_end,heap_end,YW,YH,isCell_int,hrc,hP,k2,hU,Bool.not_false,Bool.not_true]
        exact ⟨l.length - (i + 1), by omega, L3, ts, i + 1, ys ++ [out], rfl, p3, hS3, rfl, by omega, rfl, by simp; omega, by rw [← hq2]; exact hR⟩
    · rw [if_neg hn] at hR
      have hn1 : ((nodeE l i cs : Int) = 0) = False := eq_false hn
      simp -implicitDefEqProofs only [Wa,Wb,Wc,Wd,We,Wf,Wg,Wh,Wi,Wj,Wk,Wl,Wm,Wn,Zo,Zp,evalT,Nat.reduceLT,Nat.reduceEqDiff,if_true,if_false,reduceIte,Ys,ofVal,ofCell,argT,resT,setT,Y0,Int.reduceEq,Int.reduceLT,Int.reduceLE,Int.reduceNeg,mb,Nat.reduceBEq,tys,stb,Va,storeList,Nat.reduceAdd,Nat.reduceLeDiff,tysn,t0,t1,t2,t7,t8,t20,t21,c1,hN,hn1]
      subst hR
      simp [oneOr, sealDepth, sealV_int, lastE, hn]
  · have hil : i = l.length := by omega
    subst hil
    rw [Nat.sub_self] at hR
    simp only [exprL] at hR
    have c1 : ¬ (l.length : Int) < (l.length : Int) := by omega
    obtain ⟨u, g1, g2, g3⟩ := hS
    have hE := fun k : Int => equal_call u (.row [.int .i64 k] 1 .full) st [k] L ts g2.rd (RdS.row L 1 [.int .i64 k] 1 .full rfl) (by omega) (by simp)
    have r1 : ∀ k : Int, rowO env 103 1 [(0, .int .i64 k)] = some (.row [.int .i64 k] 1 .full) := fun k => by kernel_rfl
    subst hR
    cases cond with
    | true =>
      have hE := hE 1
      by_cases hd : st = [1]
      · rw [decide_eq_true hd] at hE
        simp -implicitDefEqProofs only [Wa,Wb,Wc,Wd,We,Wf,Wg,Wh,Wi,Wj,Wk,Wl,Wm,Wn,Zo,Zp,evalT,Nat.reduceLT,Nat.reduceEqDiff,if_true,if_false,reduceIte,Ys,ofVal,ofCell,argT,resT,setT,Y0,Int.reduceEq,Int.reduceLT,Int.reduceLE,Int.reduceNeg,mb,Nat.reduceBEq,tys,stb,Va,storeList,Nat.reduceAdd,Nat.reduceLeDiff,tysn,t0,t1,t2,t7,t8,t20,t21,c1,opT_nilCheck,nilO_ptr,g1,opT_rowO,r1,hE,Bool.not_false,Bool.not_true]
        simp [oneOr, sealDepth, sealV_int, lastE, hd]
      · rw [decide_eq_false hd] at hE
        simp -implicitDefEqProofs only [Wa,Wb,Wc,Wd,We,Wf,Wg,Wh,Wi,Wj,Wk,Wl,Wm,Wn,Zo,Zp,evalT,Nat.reduceLT,Nat.reduceEqDiff,if_true,if_false,reduceIte,Ys,ofVal,ofCell,argT,resT,setT,Y0,Int.reduceEq,Int.reduceLT,Int.reduceLE,Int.reduceNeg,mb,Nat.reduceBEq,tys,stb,Va,storeList,Nat.reduceAdd,Nat.reduceLeDiff,tysn,t0,t1,t2,t7,t8,t20,t21,c1,opT_nilCheck,nilO_ptr,g1,opT_rowO,r1,hE,Bool.not_false,Bool.not_true]
        simp [oneOr, sealDepth, sealV_int, lastE, hd]
    | false =>
      have hE := hE 0
      by_cases hd : st = [0]
      · rw [decide_eq_true hd] at hE
        simp -implicitDefEqProofs only [Wa,Wb,Wc,Wd,We,Wf,Wg,Wh,Wi,Wj,Wk,Wl,Wm,Wn,Zo,Zp,evalT,Nat.reduceLT,Nat.reduceEqDiff,if_true,if_false,reduceIte,Ys,ofVal,ofCell,argT,resT,setT,Y0,Int.reduceEq,Int.reduceLT,Int.reduceLE,Int.reduceNeg,mb,Nat.reduceBEq,tys,stb,Va,storeList,Nat.reduceAdd,Nat.reduceLeDiff,tysn,t0,t1,t2,t7,t8,t20,t21,c1,opT_nilCheck,nilO_ptr,g1,opT_rowO,r1,hE,Bool.not_false,Bool.not_true]
        simp [oneOr, sealDepth, sealV_int, lastE, hd]
      · rw [decide_eq_false hd] at hE
        simp -implicitDefEqProofs only [Wa,Wb,Wc,Wd,We,Wf,Wg,Wh,Wi,Wj,Wk,Wl,Wm,Wn,Zo,Zp,evalT,Nat.reduceLT,Nat.reduceEqDiff,if_true,if_false,reduceIte,Ys,ofVal,ofCell,argT,resT,setT,Y0,Int.reduceEq,Int.reduceLT,Int.reduceLE,Int.reduceNeg,mb,Nat.reduceBEq,tys,stb,Va,storeList,Nat.reduceAdd,Nat.reduceLeDiff,tysn,t0,t1,t2,t7,t8,t20,t21,c1,opT_nilCheck,nilO_ptr,g1,opT_rowO,r1,hE,Bool.not_false,Bool.not_true]
        simp [oneOr, sealDepth, sealV_int, lastE, hd]
end Go.Proofs.YtcjapamldllleaaDoor
