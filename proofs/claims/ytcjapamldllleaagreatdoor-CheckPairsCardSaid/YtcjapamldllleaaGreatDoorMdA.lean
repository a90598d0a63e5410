/- Proved here: the law, with expressions that are drawn. Conditions: those of each theorem; no statement of the seat is proved in this text. -/
import Derived.Test.YtcjapamldllleaaGreatDoorMaA
namespace Go.Proofs.YtcjapamldllleaaGreatDoor.N
open Go.Ab
set_option maxHeartbeats 4000000
set_option maxHeartbeats 4000000
set_option maxRecDepth 100000
set_option linter.unusedSimpArgs false
set_option linter.unusedVariables false
set_option linter.unusedSectionVars false
set_option linter.unusedSectionVars false
theorem at13 : env.P.funcs[13]? = some Tryz.f13 := by kernel_rfl
theorem at14 : env.P.funcs[14]? = some Tryz.f14 := by kernel_rfl
theorem at15 : env.P.funcs[15]? = some Tryz.f15 := by kernel_rfl
theorem tysp : env.P.underlying 75 = some (.slice 22) ∧ env.P.underlying 28 = some (.int .i64) ∧ (∀ h p, aload env h 22 p = (loadCellsV h 1 p).bind (·[0]?)) := by
  have g22 : aggT env 22 = some false := by kernel_rfl
  exact ⟨by kernel_rfl, by kernel_rfl, fun _ _ => aload_one g22⟩
theorem one_call (n : Int) (σ : S) : callFn env (ev env) 14 [.int .i64 n] σ = some (.row (flatN [opN n]) 1 .unk, σ) := by
  refine callFn_pure rfl rfl rfl at14 rfl (by simp [Tryz.f14]) (by simp [Tryz.f14]) (G_start ?_) σ
  simp -implicitDefEqProofs only [Tryz.f14,Wa,Wb,Wc,Wd,We,Wf,Wg,Wh,Wi,Wj,Wk,Wl,Wm,Wn,Zo,Zp,evalT,Nat.reduceLT,Nat.reduceEqDiff,if_true,if_false,reduceIte,Ys,ofVal,ofCell,argT,resT,setT,Y0,Int.reduceEq,Int.reduceLT,Int.reduceLE,Int.reduceNeg,mb,Nat.reduceBEq,tys,stb,Va,storeList,Nat.reduceAdd,Nat.reduceLeDiff,build52o,opT_rowO,rowN1]
  rfl
structure Rd (v : V) (l : List Nd) : Prop where
  len : vLen v = some l.length
  cells : ∀ h, vCells h 3 l.length v = some (flatN l)
  cell : v.isCell = true
  small : l.length ≤ 400
theorem Rd.grow {base : Nat} {ts : List Nat} {v : V} {l : List Nd} (g : GN base ts v l) (h : l.length ≤ 400) : Rd v l := ⟨g.vlen, g.vcells, g.cells.2, h⟩
theorem Rd.one (n : Int) : Rd (.row (flatN [opN n]) 1 .unk) [opN n] := ⟨rfl, fun _ => rfl, rfl, by simp⟩
theorem own2_call {v : V} {l : List Nd} (h : Rd v l) (L : List AObj) (ts : List Nat) : ∃ v' σ', callFn env (ev env) 15 [v] ⟨L, ts⟩ = some (v', σ') ∧ ∃ ts', σ' = ⟨L, ts'⟩ ∧ GN ts.length ts' v' l ∧ Ext ts.length ts ts' := by
  refine callFn_any rfl rfl at15 rfl (by simp [Tryz.f15]) (by simp [Tryz.f15]) (G_start ?_)
  have e0 : rowO env 22 0 [] = some (.row [] 0 .full) := by kernel_rfl
  have hs := h.small
  obtain ⟨v', ts', h1, h2, h3⟩ := GN.append (hp := L) (GN.full ts.length ts []) (Nat.le_refl _) h.len (h.cells L) (by simp) (by omega)
  rw [List.nil_append] at h2
  have h1 : appO env false ⟨L, ts⟩ 22 22 (.row [] 0 .full) v = some (v', ⟨L, ts'⟩) := h1
  simp -implicitDefEqProofs only [Tryz.f15,Wa,Wb,Wc,Wd,We,Wf,Wg,Wh,Wi,Wj,Wk,Wl,Wm,Wn,Zo,Zp,evalT,Nat.reduceLT,Nat.reduceEqDiff,if_true,if_false,reduceIte,Ys,ofVal,ofCell,argT,resT,setT,Y0,Int.reduceEq,Int.reduceLT,Int.reduceLE,Int.reduceNeg,mb,Nat.reduceBEq,tys,stb,Va,storeList,Nat.reduceAdd,Nat.reduceLeDiff,opT_rowO,e0,Z3,h1]
  exact ⟨_, rfl, h2, h3⟩
def catN (ps : List (V × List Nd)) : List Nd := (ps.map (·.2)).flatten
theorem catN_add {ps : List (V × List Nd)} {i : Nat} (h : i < ps.length) : catN (ps.take (i + 1)) = catN (ps.take i) ++ (ps[i]).2 := by
  unfold catN
  rw [List.take_succ_eq_append_getElem h, List.map_append, List.flatten_append]; simp
theorem catN_len (ps : List (V × List Nd)) (h : ∀ p ∈ ps, p.2.length ≤ 400) : (catN ps).length ≤ 400 * ps.length := by
  induction ps with
  | nil => simp [catN]
  | cons p ps ih =>
    have h1 := h p (by simp)
    have h2 := ih (fun q hq => h q (by simp [hq]))
    unfold catN at *
    simp only [List.map_cons, List.flatten_cons, List.length_append, List.length_cons]; omega
theorem idx_P {ps : List (V × List Nd)} {i : Nat} (h : i < ps.length) (q : RCap) : ∃ r, vIndexAddr 1 (.row (ps.map (·.1)) ps.length q) (.int .i64 (i : Nat)) = some (.rptr ((ps[i]).1 :: r)) := by
  refine ⟨(ps.map (·.1)).drop (i + 1), ?_⟩
  rw [Ys, if_pos (by omega), Int.toNat_natCast, Nat.mul_one, List.drop_eq_getElem_cons (by simpa using h)]
  simp
theorem fine_call {cs : List Col} (q : RCap) (ok : OkC cs) (h1 : 1 ≤ cs.length) (h2 : cs.length ≤ 1000) (hws : ∀ i, i < cs.length → (cs.getD i Col.none).ws.length ≤ 1000) (cond : Bool) (ps : List (V × List Nd)) (hps : ∀ p ∈ ps, Rd p.1 p.2) (hpl : ps.length ≤ 4) (hal : (catN ps).length ≤ 1000) (q' : RCap) {e : Ex} (he : WF cs e) (hk : e.kind = if cond then 1 else 0) (hcat : catN ps = e.post)
    (L : List AObj) (ts : List Nat) : ∃ v σ', callFn env (ev env) 13 [.row (flatC cs) cs.length q, .bool cond, .row (ps.map (·.1)) ps.length q'] ⟨L, ts⟩ = some (v, σ') ∧ ∃ ts', v = .bool true ∧ σ' = ⟨L, ts'⟩ ∧ Ext ts.length ts ts' := by
  refine callFn_any rfl rfl at13 rfl (by simp [Tryz.f13]) (by simp [Tryz.f13]) (G_start ?_)
  simp -implicitDefEqProofs only [Tryz.f13,Wa,Wb,Wc,Wd,We,Wf,Wg,Wh,Wi,Wj,Wk,Wl,Wm,Wn,Zo,Zp,evalT,Nat.reduceLT,Nat.reduceEqDiff,if_true,if_false,reduceIte,Ys,ofVal,ofCell,argT,resT,setT,Y0,Int.reduceEq,Int.reduceLT,Int.reduceLE,Int.reduceNeg,mb,Nat.reduceBEq,tys,stb,Va,storeList,Nat.reduceAdd,Nat.reduceLeDiff,empty_mk]
  refine loop_rule (fun m T D σ => D = [] ∧ T 0 = .row (flatC cs) cs.length q ∧ T 1 = .bool cond ∧ T 2 = .row (ps.map (·.1)) ps.length q' ∧ ∃ (i : Nat) (v : V) (ts' : List Nat), σ = ⟨L, ts'⟩ ∧ T 7 = v ∧ GN ts.length ts' v (catN (ps.take i)) ∧ Ext ts.length ts ts' ∧ T 8 = .int .i64 i ∧ i ≤ ps.length ∧ m = ps.length - i) ?_ (ps.length - 0) _ _ _
    ⟨rfl, rfl, rfl, rfl, 0, .nilsl, ts, rfl, rfl, .nil, .rfl' _ _, rfl, by omega, rfl⟩
  rintro m T D σ ⟨rfl, t0, t1, t2, i, v, ts', rfl, t7, hg, hE, t8, hi, rfl⟩
  refine G_start ?_
  by_cases hlt : i < ps.length
  · have c1 : (i : Int) < (ps.length : Int) := by omega
    have e1 : IntKind.i64.wrap ((i : Int) + 1) = ((i + 1 : Nat) : Int) := by rw [wrap_i64 (by omega) (by omega)]; omega
    obtain ⟨r, hx⟩ := idx_P hlt q'
    have hR := hps _ (List.getElem_mem hlt)
    have hs := hR.small
    have hcl := catN_len (ps.take i) (fun p hp => (hps p (List.mem_of_mem_take hp)).small)
    rw [List.length_take] at hcl
    obtain ⟨v', tb, a1, a2, a3⟩ := GN.append (hp := L) hg hE.1 hR.len (hR.cells L) (by omega) (by omega)
    rw [← catN_add hlt] at a2
    simp -implicitDefEqProofs only [Wa,Wb,Wc,Wd,We,Wf,Wg,Wh,Wi,Wj,Wk,Wl,Wm,Wn,Zo,Zp,evalT,Nat.reduceLT,Nat.reduceEqDiff,if_true,if_false,reduceIte,Ys,ofVal,ofCell,argT,resT,setT,Y0,Int.reduceEq,Int.reduceLT,Int.reduceLE,Int.reduceNeg,mb,Nat.reduceBEq,tys,stb,Va,storeList,Nat.reduceAdd,Nat.reduceLeDiff,tysp,t0,t1,t2,t7,t8,c1,e1,-Ys,hx,load_hd,Z3,a1]
    exact ⟨ps.length - (i + 1), by omega, i + 1, v', tb, rfl, rfl, a2, hE.trans a3, rfl, by omega, rfl⟩
  · have hie : i = ps.length := by omega
    subst hie
    rw [List.take_length, hcat] at hg
    rw [hcat] at hal
    have c1 : ¬ (ps.length : Int) < (ps.length : Int) := by omega
    have F : Fit v e.post (.row (flatC cs) cs.length q) cs := ⟨RN.grow hg, by omega, RC.row ok q, ok, by omega, hws⟩
    have hA := expr_call F cond
    have hB := expr_call F !cond
    have w1 := Ex.whole he cond
    have w2 := Ex.whole he !cond
    have hvl := hg.len 42
    by_cases hlong : 200 < e.post.length
    · rw [if_pos hlong] at w1 w2
      rw [w1] at hA
      have c2 : (200 : Int) < (e.post.length : Int) := by omega
      simp -implicitDefEqProofs only [Wa,Wb,Wc,Wd,We,Wf,Wg,Wh,Wi,Wj,Wk,Wl,Wm,Wn,Zo,Zp,evalT,Nat.reduceLT,Nat.reduceEqDiff,if_true,if_false,reduceIte,Ys,ofVal,ofCell,argT,resT,setT,Y0,Int.reduceEq,Int.reduceLT,Int.reduceLE,Int.reduceNeg,mb,Nat.reduceBEq,tys,stb,Va,storeList,Nat.reduceAdd,Nat.reduceLeDiff,tysp,t0,t1,t2,t7,t8,c1,hA,hvl,c2]
      exact ⟨_, rfl, rfl, hE⟩
    · rw [if_neg hlong] at w1 w2
      rw [if_pos hk] at w1
      rw [if_neg (by rw [hk]; cases cond <;> simp)] at w2
      rw [w1] at hA
      rw [w2] at hB
      have c2 : ¬ (200 : Int) < (e.post.length : Int) := by omega
      have hnot : vUn .not (.bool cond) = some (.bool !cond) := rfl
      simp -implicitDefEqProofs only [Wa,Wb,Wc,Wd,We,Wf,Wg,Wh,Wi,Wj,Wk,Wl,Wm,Wn,Zo,Zp,evalT,Nat.reduceLT,Nat.reduceEqDiff,if_true,if_false,reduceIte,Ys,ofVal,ofCell,argT,resT,setT,Y0,Int.reduceEq,Int.reduceLT,Int.reduceLE,Int.reduceNeg,mb,Nat.reduceBEq,tys,stb,Va,storeList,Nat.reduceAdd,Nat.reduceLeDiff,tysp,t0,t1,t2,t7,t8,c1,hA,hB,hvl,c2,hnot]
      exact ⟨_, rfl, rfl, hE⟩
end Go.Proofs.YtcjapamldllleaaGreatDoor.N
namespace Go.Proofs.YtcjapamldllleaaGreatDoor.N
open Go.Ab
set_option maxHeartbeats 4000000
set_option maxHeartbeats 4000000
set_option maxRecDepth 100000
set_option linter.unusedSimpArgs false
set_option linter.unusedVariables false
set_option linter.unusedSectionVars false
theorem at4 : env.P.funcs[4]? = some Tryz.f4 := by kernel_rfl
theorem Schemas_call {xv : V} {xs : List Int} (K : Tk xv xs) (L : List AObj) (ts : List Nat) :
    ∃ v L' ts' n cells ds, callFn env (ev env) 10 [xv] ⟨L, ts⟩ = some (v, ⟨L', ts'⟩) ∧ GrowV ts.length ts' 4 v n cells ∧ 1 ≤ n ∧ n ≤ 4 ∧ LastS cells n ds ∧ Kits ds ∧ 1 ≤ ds.length ∧ ds.length ≤ 5 ∧ Kp L L' L.length := by
  have hH : Has (L ++ [tk xv 0]) L.length xv xs := ⟨0, Nat.zero_le _, heap_end _ _⟩
  obtain ⟨v, _, hc, L', ts', n, cells, ds, rfl, g1, g2, g2', g3, g4, g5, g6, g7⟩ := schemas_call K hH ts
  have hc : callFn env (ev env) 28 [.ptr L.length 0] ⟨L ++ [.cells [xv, .int .i64 0] 36], ts⟩ = some (v, ⟨L', ts'⟩) := hc
  have b39 := build39 K.hx
  have cx := isCell_I K.hx
  have key : ∃ v' σ', callFn env (ev env) 10 [xv] ⟨L, ts⟩ = some (v', σ') ∧ (v' = v ∧ σ' = ⟨L', ts'⟩) := by
    refine callFn_any rfl rfl at10 rfl (by simp [Tryz.f10]) (by simp [Tryz.f10]) (G_start ?_)
    simp -implicitDefEqProofs only [Tryz.f10,Wa,Wb,Wc,Wd,We,Wf,Wg,Wh,Wi,Wj,Wk,Wl,Wm,Wn,Zo,Zp,evalT,Nat.reduceLT,Nat.reduceEqDiff,if_true,if_false,reduceIte,Ys,ofVal,ofCell,argT,resT,setT,Y0,Int.reduceEq,Int.reduceLT,Int.reduceLE,Int.reduceNeg,mb,Nat.reduceBEq,tys,stb,b39,cx,hc]
    first | exact ⟨rfl, trivial⟩ | exact ⟨rfl, rfl⟩ | trivial
  obtain ⟨_, _, e, rfl, rfl⟩ := key
  exact ⟨_, _, _, n, cells, ds, e, g1, g2, g2', g3, g4, g5, g6, (Kp.app [tk xv 0] L.length).trans g7⟩
theorem isI_get {n : Nat} {cells : List V} {ds : List Col} {base : Nat} {ts : List Nat} {v : V} (g : GrowV base ts 4 v n cells) (h1 : 1 ≤ n) (hl : LastS cells n ds) : ∃ a b c q r, vIndexAddr 4 v (.int .i64 ((n - 1 : Nat) : Int)) = some (.rptr (a :: b :: c :: .row (flatC ds) ds.length q :: r)) := by
  obtain ⟨q', rfl⟩ := g.isrow h1
  obtain ⟨a, b, c, q, hd⟩ := hl
  refine ⟨a, b, c, q, [], ?_⟩
  rw [Ys, if_pos (by omega), Int.toNat_natCast, hd]
theorem load_3 (h : List AObj) (a b c d : V) (r : List V) : vFieldAddr 3 (.rptr (a :: b :: c :: d :: r)) = some (.rptr (d :: r)) := by simp [vFieldAddr]
theorem Has.keep {L L' : List AObj} {b c : Nat} {xv : V} {xs : List Int} (h : Has L c xv xs) (k : Kp L L' b) (hn : c ≠ b) : Has L' c xv xs := by
  have hl := h.lt
  obtain ⟨a, h1, h2⟩ := h
  exact ⟨a, h1, by rw [k.2 c hl hn]; exact h2⟩
def IsR (v : V) : Prop := v = .nilsl ∨ ∃ cs n q, v = .row cs n q
theorem GrowV.isR {base w n : Nat} {ts : List Nat} {v : V} {cs : List V} (g : GrowV base ts w v n cs) : IsR v := by
  cases g with
  | nil => exact .inl rfl
  | full _ _ hl => exact .inr ⟨_, _, _, rfl⟩
  | tok _ _ k e hl hb ht => exact .inr ⟨_, _, _, rfl⟩
theorem rowP1 {a : V} (h : IsR a) : rowO env 75 1 [(0, a)] = some (.row [a] 1 .full) := by
  rcases h with rfl | ⟨_, _, _, rfl⟩ <;> kernel_rfl
theorem rowP3 {a b c : V} (h : IsR a) (h2 : IsR b) (h3 : IsR c) : rowO env 75 3 [(0, a), (1, b), (2, c)] = some (.row [a, b, c] 3 .full) := by
  rcases h with rfl | ⟨_, _, _, rfl⟩ <;> rcases h2 with rfl | ⟨_, _, _, rfl⟩ <;> rcases h3 with rfl | ⟨_, _, _, rfl⟩ <;> kernel_rfl
theorem rowP4 {a b c d : V} (h : IsR a) (h2 : IsR b) (h3 : IsR c) (h4 : IsR d) : rowO env 75 4 [(0, a), (1, b), (2, c), (3, d)] = some (.row [a, b, c, d] 4 .full) := by
  rcases h with rfl | ⟨_, _, _, rfl⟩ <;> rcases h2 with rfl | ⟨_, _, _, rfl⟩ <;> rcases h3 with rfl | ⟨_, _, _, rfl⟩ <;> rcases h4 with rfl | ⟨_, _, _, rfl⟩ <;> kernel_rfl
theorem rowOne (n : Int) : rowO env 22 1 [(0, .agg [.int .i64 n, .int .i64 0, .str []])] = some (.row [.int .i64 n, .int .i64 0, .str []] 1 .full) := rowN1 _ _ _
theorem pairs_found {xv yv zv : V} {xs ys zs : List Int} (Kx : Tk xv xs) (Ky : Tk yv ys) (Kz : Tk zv zs) : Go.Ab.Found env 4 [xv, yv, zv] := by
  refine found_of_wp at4 rfl (by simp [Tryz.f4]) (by simp [Tryz.f4]) (G_start ?_)
  have hK := known_call
  obtain ⟨v, L1, ts1, n, cells, cs, hS, g1, g2, g2', g3, g4, g5, g6, _⟩ := Schemas_call Kx [] []
  have hvl := g1.len 26
  obtain ⟨a, b, c, q, r, hix⟩ := isI_get g1 g2 g3
  have en : IntKind.i64.wrap ((n : Int) - 1) = ((n - 1 : Nat) : Int) := by rw [wrap_i64 (by omega) (by omega)]; omega
  have b39y := build39 Ky.hx
  have cy := isCell_I Ky.hx
  have b39z := build39 Kz.hx
  have cz := isCell_I Kz.hx
  have ne : (L1 ++ [tk yv 0]).length ≠ L1.length := by simp
  have hHt : Has (L1 ++ [tk yv 0] ++ [tk zv 0]) L1.length yv ys := Has.app ⟨0, Nat.zero_le _, heap_end _ _⟩ _
  have hHu : Has (L1 ++ [tk yv 0] ++ [tk zv 0]) (L1 ++ [tk yv 0]).length zv zs := ⟨0, Nat.zero_le _, heap_end _ _⟩
  obtain ⟨w1, _, hO1, e1, L2, ts2, rfl, hT2, hK2, gw1, x1, wf1, kd1, ln1⟩ := operand_call Ky q g4.ok g5 (by omega) g4.ws _ _ ts1 hHt
  have hU2 := hHu.keep hK2 ne
  obtain ⟨w2, _, hO2, e2, L3, ts3, rfl, hU3, hK3, gw2, x2, wf2, kd2, ln2⟩ := operand_call Kz q g4.ok g5 (by omega) g4.ws _ _ ts2 hU2
  have hT3 := hT2.keep hK3 ne.symm
  obtain ⟨w3, _, hC1, e3, L4, ts4, rfl, hT4, hK4, gw3, x3, wf3, kd3, ln3⟩ := condition_call Ky q g4.ok g5 (by omega) g4.ws _ _ ts3 hT3
  have hU4 := hU3.keep hK4 ne
  obtain ⟨w4, _, hC2, e4, L5, ts5, rfl, hU5, hK5, gw4, x4, wf4, kd4, ln4⟩ := condition_call Kz q g4.ok g5 (by omega) g4.ws _ _ ts4 hU4
  have hO1 : callFn env (ev env) 11 [.ptr L1.length 0, .row (flatC cs) cs.length q, .int .i64 3] ⟨L1 ++ [.cells [yv, .int .i64 0] 36] ++ [.cells [zv, .int .i64 0] 36], ts1⟩ = some (w1, ⟨L2, ts2⟩) := hO1
  have hO2 : callFn env (ev env) 11 [.ptr (L1 ++ [AObj.cells [yv, V.int IntKind.i64 0] 36]).length 0, .row (flatC cs) cs.length q, .int .i64 3] ⟨L2, ts2⟩ = some (w2, ⟨L3, ts3⟩) := hO2
  have hC1 : callFn env (ev env) 12 [.ptr L1.length 0, .row (flatC cs) cs.length q, .int .i64 3] ⟨L3, ts3⟩ = some (w3, ⟨L4, ts4⟩) := hC1
  have hC2 : callFn env (ev env) 12 [.ptr (L1 ++ [AObj.cells [yv, V.int IntKind.i64 0] 36]).length 0, .row (flatC cs) cs.length q, .int .i64 3] ⟨L4, ts4⟩ = some (w4, ⟨L5, ts5⟩) := hC2
  have hb3 : bnd 3 = 94 := by decide
  rw [hb3] at ln1 ln2 ln3 ln4
  have r1 := Rd.grow gw1 (by omega)
  have r2 := Rd.grow gw2 (by omega)
  have r3 := Rd.grow gw3 (by omega)
  have r4 := Rd.grow gw4 (by omega)
  have i1 := GrowV.isR gw1
  have i2 := GrowV.isR gw2
  have i3 := GrowV.isR gw3
  have i4 := GrowV.isR gw4
  have i5 : ∀ n, IsR (.row (flatN [opN n]) 1 .unk) := fun n => .inr ⟨_, _, _, rfl⟩
  have F := fun cond ps h1 h2 h3 (e : Ex) h4 h5 h6 ts => fine_call (cs := cs) q g4.ok g5 (by omega) g4.ws cond ps h1 h2 h3 .full (e := e) h4 h5 h6 L5 ts
  obtain ⟨_, _, f1, t1, rfl, rfl, y1⟩ := F false [(w1, e1.post)] (by simp [r1]) (by simp) (by simp [catN]; omega) e1 wf1 (by simpa using kd1) (by simp [catN]) ts5
  obtain ⟨_, _, f2, t2, rfl, rfl, y2⟩ := F true [(w3, e3.post)] (by simp [r3]) (by simp) (by simp [catN]; omega) e3 wf3 (by simpa using kd3) (by simp [catN]) t1
  obtain ⟨_, _, f3, t3, rfl, rfl, y3⟩ := F false [(w1, e1.post), (w2, e2.post), (.row (flatN [opN 4]) 1 .unk, [opN 4])] (by simp [r1, r2, Rd.one]) (by simp) (by simp [catN]; omega) (.bin 4 e1 e2) ⟨wf1, wf2, by omega, by rw [kd1, kd2]; rfl⟩ rfl (by simp [catN, Ex.post]) t2
  obtain ⟨_, _, f4, t4, rfl, rfl, y4⟩ := F true [(w1, e1.post), (w2, e2.post), (.row (flatN [opN 12]) 1 .unk, [opN 12])] (by simp [r1, r2, Rd.one]) (by simp) (by simp [catN]; omega) (.bin 12 e1 e2) ⟨wf1, wf2, by omega, by rw [kd1, kd2]; rfl⟩ rfl (by simp [catN, Ex.post]) t3
  obtain ⟨_, _, f5, t5, rfl, rfl, y5⟩ := F true [(w3, e3.post), (w4, e4.post), (.row (flatN [opN 15]) 1 .unk, [opN 15])] (by simp [r3, r4, Rd.one]) (by simp) (by simp [catN]; omega) (.bin 15 e3 e4) ⟨wf3, wf4, by omega, by rw [kd3, kd4]; rfl⟩ rfl (by simp [catN, Ex.post]) t4
  obtain ⟨_, _, f6, t6, rfl, rfl, y6⟩ := F false [(w3, e3.post), (w1, e1.post), (w2, e2.post), (.row (flatN [opN 8]) 1 .unk, [opN 8])] (by simp [r1, r2, r3, Rd.one]) (by simp) (by simp [catN]; omega) (.ite e3 e1 e2) ⟨wf3, wf1, wf2, kd3, kd1, kd2⟩ rfl (by simp [catN, Ex.post]) t5
  obtain ⟨w7, _, f7, t7, rfl, g7, y7⟩ := own2_call r1 L5 t6
  obtain ⟨w8, t8, f8, g8, y8⟩ := GN.push (hp := L5) g7 y7.1 (opN 17) .full (by omega)
  have FF : Fit w8 (e1.post ++ [opN 17]) (.row (flatC cs) cs.length q) cs := ⟨RN.grow g8, by simp; omega, RC.row g4.ok q, g4.ok, by omega, g4.ws⟩
  have f9 := expr_call FF true ⟨L5, t8⟩
  rw [Ex.noted wf1 kd1 (by omega) true] at f9
  have f1 : callFn env (ev env) 13 [.row (flatC cs) cs.length q, .bool false, .row [w1] 1 .full] ⟨L5, ts5⟩ = some (.bool true, ⟨L5, t1⟩) := f1
  have f2 : callFn env (ev env) 13 [.row (flatC cs) cs.length q, .bool true, .row [w3] 1 .full] ⟨L5, t1⟩ = some (.bool true, ⟨L5, t2⟩) := f2
  have f3 : callFn env (ev env) 13 [.row (flatC cs) cs.length q, .bool false, .row [w1, w2, .row (flatN [opN 4]) 1 .unk] 3 .full] ⟨L5, t2⟩ = some (.bool true, ⟨L5, t3⟩) := f3
  have f4 : callFn env (ev env) 13 [.row (flatC cs) cs.length q, .bool true, .row [w1, w2, .row (flatN [opN 12]) 1 .unk] 3 .full] ⟨L5, t3⟩ = some (.bool true, ⟨L5, t4⟩) := f4
  have f5 : callFn env (ev env) 13 [.row (flatC cs) cs.length q, .bool true, .row [w3, w4, .row (flatN [opN 15]) 1 .unk] 3 .full] ⟨L5, t4⟩ = some (.bool true, ⟨L5, t5⟩) := f5
  have f6 : callFn env (ev env) 13 [.row (flatC cs) cs.length q, .bool false, .row [w3, w1, w2, .row (flatN [opN 8]) 1 .unk] 4 .full] ⟨L5, t5⟩ = some (.bool true, ⟨L5, t6⟩) := f6
  have f8 : appO env false ⟨L5, t7⟩ 22 22 w7 (.row [.int .i64 17, .int .i64 0, .str []] 1 .full) = some (w8, ⟨L5, t8⟩) := f8
  have p1 := rowP1 i1
  have p2 := rowP1 i3
  have p3 := rowP3 i1 i2 (i5 4)
  have p4 := rowP3 i1 i2 (i5 12)
  have p5 := rowP3 i3 i4 (i5 15)
  have p6 := rowP4 i3 i1 i2 (i5 8)
  clear F FF hHt hHu hT2 hU2 hT3 hU3 hT4 hU4 hU5 r1 r2 r3 r4 i1 i2 i3 i4 i5
  simp -implicitDefEqProofs only [Tryz.f4,Wa,Wb,Wc,Wd,We,Wf,Wg,Wh,Wi,Wj,Wk,Wl,Wm,Wn,Zo,Zp,evalT,Nat.reduceLT,Nat.reduceEqDiff,if_true,if_false,reduceIte,Ys,ofVal,ofCell,argT,resT,setT,Y0,Int.reduceEq,Int.reduceLT,Int.reduceLE,Int.reduceNeg,mb,Nat.reduceBEq,tys,stb,Va,storeList,Nat.reduceAdd,Nat.reduceLeDiff,tysc,tysp,empty_mk,-Ys,hK,hS,hvl,en,hix,load_3,load_hd,b39y,cy,b39z,cz,hO1,hO2,hC1,hC2,one_call,opT_rowO,Z3,p1,p2,p3,p4,p5,p6,f1,f2,f3,f4,f5,f6,f7,f8,f9,build52o,rowOne]
  rfl
theorem u31i : env.P.underlying 31 = some (.slice 3) := by kernel_rfl
theorem flatI1 : ∀ xs : List Int, (xs.map fun x => [V.int .i64 x]).flatten = xs.map (V.int .i64)
  | [] => rfl
  | x :: xs => by simp only [List.map_cons, List.flatten_cons, flatI1 xs]; rfl
theorem tyd_IS {v : V} {k : Nat} (h : Tyd env.P (k + 2) 31 [v]) : ∃ xs, IsI v xs ∧ xs.length < 2 ^ 63 ∧ ∀ x ∈ xs, In64 x := by
  rcases tyd_slice h u31i with h | ⟨vss, h, hl, _, ht⟩
  · simp only [List.cons.injEq, and_true] at h
    exact ⟨[], .inl ⟨h, rfl⟩, by simp, fun x hx => by simp at hx⟩
  · simp only [List.cons.injEq, and_true] at h
    obtain ⟨xs, rfl⟩ := tyd_map (f := fun x : {x : Int // In64 x} => [V.int .i64 x.1]) (fun x hx => by
      obtain ⟨n, rfl, h1, h2⟩ := tyd_int hx u3; exact ⟨⟨n, h1, h2⟩, rfl⟩) ht
    have e : (xs.map fun x => [V.int .i64 x.1]) = ((xs.map (·.1)).map fun x => [V.int .i64 x]) := by simp
    have hm := maxLen_lt
    refine ⟨xs.map (·.1), .inr (.inl ?_), by simp only [List.length_map] at hl ⊢; omega, fun x hx => ?_⟩
    · rw [h, e, flatI1]; simp
    · obtain ⟨y, _, rfl⟩ := List.mem_map.1 hx; exact y.2
theorem pairs_foundt {u v w : V} (h : Tyd Tryz.prog 6 31 [u]) (h2 : Tyd Tryz.prog 6 31 [v]) (h3 : Tyd Tryz.prog 6 31 [w]) : Go.Ab.Found env 4 [u, v, w] := by
  obtain ⟨xs, a1, a2, a3⟩ := tyd_IS (k := 4) h
  obtain ⟨ys, b1, b2, b3⟩ := tyd_IS (k := 4) h2
  obtain ⟨zs, c1, c2, c3⟩ := tyd_IS (k := 4) h3
  exact pairs_found ⟨a1, a3, a2⟩ ⟨b1, b3, b2⟩ ⟨c1, c3, c2⟩
end Go.Proofs.YtcjapamldllleaaGreatDoor.N
