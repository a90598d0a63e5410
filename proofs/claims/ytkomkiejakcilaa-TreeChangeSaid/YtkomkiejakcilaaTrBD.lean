/- Proved here: contracts of Prefix, and of its reference. Conditions: those of each theorem; no statement of the seat is proved in this text. -/
import Derived.Test.YtkomkiejakcilaaTrBB
namespace Go.Proofs.Ytkomkiejakcilaa
open Go.Ab
set_option maxRecDepth 100000
set_option linter.unusedSimpArgs false
set_option linter.unusedVariables false
theorem at11 : env.P.funcs[11]? = some Try.f11 := by kernel_rfl

/-- the nodes with some numbers, added up with wraparound -/
def wsum (zs : List Int) (l : List Int) : Int := l.foldl (fun s k => IntKind.i64.wrap (s + zs.getD k.toNat 0)) 0
theorem wsum_snoc (zs acc : List Int) (k : Nat) : wsum zs (acc ++ [(k : Int)]) = IntKind.i64.wrap (wsum zs acc + zs.getD k 0) := by simp [wsum]

theorem zv3 : zeroV env 3 = some (.int .i64 0) := by kernel_rfl
theorem app_at {α : Type} (l r : List α) (k : Nat) : (l ++ r)[l.length + k]? = r[k]? := by
  rw [List.getElem?_append_right (by omega), Nat.add_sub_cancel_left]
theorem app_at0 {α : Type} (l r : List α) : (l ++ r)[l.length]? = r[0]? := app_at l r 0
theorem app_set0 {α : Type} (l r : List α) (a b : α) : (l ++ a :: r).set l.length b = l ++ b :: r := by simp
theorem app_old {α : Type} (l r : List α) {k : Nat} (h : k < l.length) : (l ++ r)[k]? = l[k]? := List.getElem?_append_left h
theorem store1 (a b : V) : storeList [a] 0 [b] = [b] := rfl
theorem takeDfs_ok : ∀ (D : List Nat) (h : List AObj), D.Nodup → (∀ b ∈ D, h[b]? = some (.defd true)) → ∃ h', takeDfs h D = some h'
  | [], h, _, _ => ⟨h, rfl⟩
  | b :: D, h, hn, hd => by
    rw [List.nodup_cons] at hn
    simp only [takeDfs, hd b (by simp)]
    refine takeDfs_ok D _ hn.2 fun c hc => ?_
    have hne : b ≠ c := fun e => hn.1 (e ▸ hc)
    rw [List.getElem?_set_ne hne]
    exact hd c (by simp [hc])

abbrev sums (h : Nat) (zs : List Int) (n : Nat) : List Int := (List.range n).map fun i => wsum zs (cov h 0 0 (i + 1))
theorem sums_snoc (h : Nat) (zs : List Int) (n : Nat) : sums h zs (n + 1) = sums h zs n ++ [wsum zs (cov h 0 0 (n + 1))] := by
  simp [sums, List.range_succ]

set_option maxHeartbeats 2000000 in
theorem prefix_ok (zs : List Int) (n : Nat) (h1 : 1 ≤ n) (h2 : n ≤ 128) (hl : zs.length = 2 ^ (hgt n + 1) - 1) (hw : Within zs 288230376151711744) (σ : S) :
    callFn env (ev env) 11 [rowI zs, .int .i64 n] σ = some (.tup [rowI (sums (hgt n) zs n), .int .i64 0], σ) := by
  refine callFn_pure rfl rfl (by simp [ints_closed, V.closed]) at11 rfl (by simp [Try.f11]) (by simp [Try.f11]) (G_start ?_) σ
  have hh := hgt_le n
  have hp := pow_le (hgt n) hh
  have e2 : 2 ^ (hgt n + 1) = 2 * 2 ^ hgt n := by rw [Nat.pow_succ]; omega
  have e1 : IntKind.i64.wrap ((hgt n : Nat) + 1 : Int) = ((hgt n + 1 : Nat) : Int) := by rw [wrap_i64 (by omega) (by omega)]; omega
  have hc := pow_cast (hgt n + 1)
  have hl' : ((zs.length : Nat) : Int) = 2 ^ (hgt n + 1) - 1 := by omega
  have hwc : callFn env (ev env) 24 [rowI zs, .int .i64 288230376151711744] = fun σ => some (.bool true, σ) := by
    funext σ; rw [within_call zs _ (by omega) (by omega) σ]; simp [hw]
  simp only [Try.f11, G_seq, G_block, G_skip_code, G_skip_blk, G_skip_nil, G_exit_code, G_exit_blk, G_exit_nil, G_ret_code, G_ret_blk, G_ret_nil, G_cond, G_cond_const, G_loop, G_region, G_draw, GL_nil, GL_op, GL_none, GL_guard, GS_some, GS_ite, GS_nite, GN_some, GN_ite, GN_nite, GB_true, GB_false, GB_dec, GG_true_true, GG_true_false, GG_false_true, GG_false_false, GG_true_dec, GG_false_dec, opT_move, opT_assign, opT_pick, pickO_true, pickO_false, opT_binOp, binO_some, opT_unOp, opT_extract, extrO_tup, opT_indexAddr, idxO_slice, opT_load, opT_call, opT_len, opT_append, opT_convert, convO_int, callV_func, evalT, upd_at, Nat.reduceLT, Nat.reduceEqDiff, if_true, if_false, reduceIte, true_and, map_mk, bind_mk, map_ite', map_nite, bind_ite', bind_nite, vBin_add, vBin_sub, vBin_mul, vBin_eql, vBin_neq, vBin_lss, vBin_leq, vBin_gtr, vBin_geq, vBin_rem, vBin_quo, vBin_beql, vBin_bneq, vUn_not, vUn_true, vUn_false, index_row, len_row, len_nilsl, listO_nil, listO_cons, ofVal, ofCell, argT, List.getD_cons_zero, List.getD_cons_succ, List.getElem?_toArray, List.getElem?_cons_zero, List.getElem?_cons_succ, List.nil_append, List.cons_append, List.append_nil, resT, wpR_nil, V1_some, Nat.mul_one, load_row, load_ptr, cellAt_some, opT_store, store_ptr, storeAt_some, cells_row, isCell_row, cells_nilsl, push_mk, set_mk, setT, vUn_neg, opT_max, opT_min, max_two, min_two, List.append_eq, opT_makeFunc, opT_fieldAddr, opT_build, partsO_nil, partsO_cons, faddr_ptr, faddr_rptr, cells_agg, push_last, Nat.add_zero, opT_box, opT_alloc, ints_get, post_norm, post_exit, post_ret, Int.toNat_natCast, Bool.false_eq_true, Int.reduceEq, Int.reduceLT, Int.reduceLE, Int.reduceNeg, not_false_eq_true, and_self, map_nothing, bind_nothing, Int.natCast_one, Int.cast_ofNat_Int, not_true_eq_false, decide_true, decide_false, true_implies, false_implies, Int.toNat_zero, List.length_cons, List.length_nil, Nat.zero_add, mb, Nat.reduceBEq, Bool.false_and, Bool.and_false, cells_int, tys, stb, GK_nil, GK_op, GKS_some, GKS_none, GKS_ite, GKS_nite, Bool.or_false, Bool.false_or, Bool.true_and, Bool.or_true, Bool.true_or, empty_mk, hwc, height_ok n (by omega) (by omega), e1, leaf_call (hgt n + 1) (by omega), hl', eq_self]
  refine ⟨by kernel_rfl, ?_⟩
  generalize hgt n = h at *
  refine loop_rule (fun m T D σ => T 2 = .ptr 0 0 ∧ σ.heap[0]? = some (.cells [rowI zs] 22) ∧ D.Nodup ∧ (∀ b ∈ D, σ.heap[b]? = some (.defd true)) ∧ T 6 = .int .i64 h ∧ T 30 = .int .i64 n ∧ ∃ i v, T 31 = .int .i64 (i : Nat) ∧ i ≤ n ∧ m = n - i ∧ T 8 = v ∧ Grow σ.toks v ((sums h zs i).map (V.int .i64)) ∧ (v = .nilsl → i = 0)) ?_ _ _ _ _ ⟨rfl, rfl, List.nodup_nil, fun b hb => by simp at hb, rfl, rfl, 0, .nilsl, rfl, by omega, rfl, rfl, .nil, fun _ => rfl⟩
  rintro m T D ⟨hp0, ts⟩ ⟨t2, hb0, hD, hDd, t6, t30, i, v, t31, hi, hm, t8, g, hv⟩
  refine G_start ?_
  simp only at hb0 hDd g
  by_cases hin : (i : Int) < (n : Int)
  · have e3 : IntKind.i64.wrap ((i : Int) + 1) = ((i + 1 : Nat) : Int) := by rw [wrap_i64 (by omega) (by omega)]; omega
    simp only [G_seq, G_block, G_skip_code, G_skip_blk, G_skip_nil, G_exit_code, G_exit_blk, G_exit_nil, G_ret_code, G_ret_blk, G_ret_nil, G_cond, G_cond_const, G_loop, G_region, G_draw, GL_nil, GL_op, GL_none, GL_guard, GS_some, GS_ite, GS_nite, GN_some, GN_ite, GN_nite, GB_true, GB_false, GB_dec, GG_true_true, GG_true_false, GG_false_true, GG_false_false, GG_true_dec, GG_false_dec, opT_move, opT_assign, opT_pick, pickO_true, pickO_false, opT_binOp, binO_some, opT_unOp, opT_extract, extrO_tup, opT_indexAddr, idxO_slice, opT_load, opT_call, opT_len, opT_append, opT_convert, convO_int, callV_func, evalT, upd_at, Nat.reduceLT, Nat.reduceEqDiff, if_true, if_false, reduceIte, true_and, map_mk, bind_mk, map_ite', map_nite, bind_ite', bind_nite, vBin_add, vBin_sub, vBin_mul, vBin_eql, vBin_neq, vBin_lss, vBin_leq, vBin_gtr, vBin_geq, vBin_rem, vBin_quo, vBin_beql, vBin_bneq, vUn_not, vUn_true, vUn_false, index_row, len_row, len_nilsl, listO_nil, listO_cons, ofVal, ofCell, argT, List.getD_cons_zero, List.getD_cons_succ, List.getElem?_toArray, List.getElem?_cons_zero, List.getElem?_cons_succ, List.nil_append, List.cons_append, List.append_nil, resT, wpR_nil, V1_some, Nat.mul_one, load_row, load_ptr, cellAt_some, opT_store, store_ptr, storeAt_some, cells_row, isCell_row, cells_nilsl, push_mk, set_mk, setT, vUn_neg, opT_max, opT_min, max_two, min_two, List.append_eq, opT_makeFunc, opT_fieldAddr, opT_build, partsO_nil, partsO_cons, faddr_ptr, faddr_rptr, cells_agg, push_last, Nat.add_zero, opT_box, opT_alloc, ints_get, post_norm, post_exit, post_ret, Int.toNat_natCast, Bool.false_eq_true, Int.reduceEq, Int.reduceLT, Int.reduceLE, Int.reduceNeg, not_false_eq_true, and_self, map_nothing, bind_nothing, Int.natCast_one, Int.cast_ofNat_Int, not_true_eq_false, decide_true, decide_false, true_implies, false_implies, Int.toNat_zero, List.length_cons, List.length_nil, Nat.zero_add, mb, Nat.reduceBEq, Bool.false_and, Bool.and_false, cells_int, tys, stb, GK_nil, GK_op, GKS_some, GKS_none, GKS_ite, GKS_nite, Bool.or_false, Bool.false_or, Bool.true_and, Bool.or_true, Bool.true_or, t2, t6, t30, t31, t8, hin, e3, covers_call, zv3, app_at0, app_set0, isCell_int, List.all_cons, List.all_nil, Bool.and_true, storeList, List.take_zero, List.drop_succ_cons, List.drop_zero, List.drop_nil, List.length_append, Nat.le_refl]
    refine G_range rfl ?_
    intro tmps lo lx hr hlo hlx
    simp only [List.length_append, List.length_cons, List.length_nil, Nat.zero_add, List.append_assoc, List.cons_append, List.nil_append, Nat.reduceAdd, Nat.add_assoc] at *
    have hq := fun (r : List AObj) (k : Nat) => app_at hp0 r k
    have hqo := fun (r : List AObj) (k : Nat) (hk : k < hp0.length) => app_old hp0 r hk
    have hq0 := fun (r : List AObj) => app_at0 hp0 r
    have hpl : ∀ r : List AObj, (hp0 ++ r).length = hp0.length + r.length := fun r => by simp
    have hL0 : 0 < hp0.length := by
      rcases Nat.lt_or_ge 0 hp0.length with h | h
      · exact h
      · rw [List.getElem?_eq_none (by omega)] at hb0; simp at hb0
    generalize hL : hp0.length = L at *
    have hy : Yield (.yld (L + 4)) (L + 5) (2 ^ (h + 1) - 1) fun acc σ => L + 5 ≤ σ.heap.length ∧ (∀ b, b < L → σ.heap[b]? = hp0[b]?) ∧ σ.heap[L]? = some (.cells [.int .i64 (wsum zs acc)] 3) ∧ σ.heap[L + 3]? = some (.defd true) ∧ σ.heap[L + 4]? = some lo ∧ σ.toks = ts := by
      refine ⟨?_, ?_⟩
      · rintro acc σ o hN ⟨h1, h2, h3, h4, h5, h6⟩
        exact ⟨by rw [push_len]; omega, fun b hb => by rw [push_old _ _ (by omega)]; exact h2 b hb, by rw [push_old _ _ (by omega)]; exact h3, by rw [push_old _ _ (by omega)]; exact h4, by rw [push_old _ _ (by omega)]; exact h5, h6⟩
      · rintro acc ⟨hq', tq⟩ k hk hacc hN ⟨g1, g2, g3, g4, g5, g6⟩
        simp only at g1 g2 g3 g4 g5 g6 hN
        subst g6
        refine round_rule hlo g5 hr rfl (by simp) ?_
        intro lb hlb
        clear hlb
        have c1 : (hq'.set (L + 4) lb)[L]? = some (.cells [.int .i64 (wsum zs acc)] 3) := by rw [List.getElem?_set_ne (by omega)]; exact g3
        have c2 : (hq'.set (L + 4) lb)[L + 4]? = some lb := List.getElem?_set_self (by omega)
        have c3 : (hq'.set (L + 4) lb)[0]? = some (.cells [rowI zs] 22) := by rw [List.getElem?_set_ne (by omega), g2 0 hL0]; exact hb0
        have hkl : (k : Int) < (zs.length : Int) := by omega
        have hkl2 : k < zs.length := by omega
        refine G_start ?_
        simp only [G_seq, G_block, G_skip_code, G_skip_blk, G_skip_nil, G_exit_code, G_exit_blk, G_exit_nil, G_ret_code, G_ret_blk, G_ret_nil, G_cond, G_cond_const, G_loop, G_region, G_draw, GL_nil, GL_op, GL_none, GL_guard, GS_some, GS_ite, GS_nite, GN_some, GN_ite, GN_nite, GB_true, GB_false, GB_dec, GG_true_true, GG_true_false, GG_false_true, GG_false_false, GG_true_dec, GG_false_dec, opT_move, opT_assign, opT_pick, pickO_true, pickO_false, opT_binOp, binO_some, opT_unOp, opT_extract, extrO_tup, opT_indexAddr, idxO_slice, opT_load, opT_call, opT_len, opT_append, opT_convert, convO_int, callV_func, evalT, upd_at, Nat.reduceLT, Nat.reduceEqDiff, if_true, if_false, reduceIte, true_and, map_mk, bind_mk, map_ite', map_nite, bind_ite', bind_nite, vBin_add, vBin_sub, vBin_mul, vBin_eql, vBin_neq, vBin_lss, vBin_leq, vBin_gtr, vBin_geq, vBin_rem, vBin_quo, vBin_beql, vBin_bneq, vUn_not, vUn_true, vUn_false, index_row, len_row, len_nilsl, listO_nil, listO_cons, ofVal, ofCell, argT, List.getD_cons_zero, List.getD_cons_succ, List.getElem?_toArray, List.getElem?_cons_zero, List.getElem?_cons_succ, List.nil_append, List.cons_append, List.append_nil, resT, wpR_nil, V1_some, Nat.mul_one, load_row, load_ptr, cellAt_some, opT_store, store_ptr, storeAt_some, cells_row, isCell_row, cells_nilsl, push_mk, set_mk, setT, vUn_neg, opT_max, opT_min, max_two, min_two, List.append_eq, opT_makeFunc, opT_fieldAddr, opT_build, partsO_nil, partsO_cons, faddr_ptr, faddr_rptr, cells_agg, push_last, Nat.add_zero, opT_box, opT_alloc, ints_get, post_norm, post_exit, post_ret, Int.toNat_natCast, Bool.false_eq_true, Int.reduceEq, Int.reduceLT, Int.reduceLE, Int.reduceNeg, not_false_eq_true, and_self, map_nothing, bind_nothing, Int.natCast_one, Int.cast_ofNat_Int, not_true_eq_false, decide_true, decide_false, true_implies, false_implies, Int.toNat_zero, List.length_cons, List.length_nil, Nat.zero_add, mb, Nat.reduceBEq, Bool.false_and, Bool.and_false, cells_int, tys, stb, GK_nil, GK_op, GKS_some, GKS_none, GKS_ite, GKS_nite, Bool.or_false, Bool.false_or, Bool.true_and, Bool.or_true, Bool.true_or, List.zip_cons_cons, List.zip_nil_right, g5, c1, c2, c3, t2, store1, hkl2]
        have d0 : ∀ c c' b, b ≠ L → b ≠ L + 4 → (((hq'.set (L + 4) lb).set L c).set (L + 4) c')[b]? = hq'[b]? := fun c c' b h1 h2 => by
          rw [List.getElem?_set_ne (by omega), List.getElem?_set_ne (by omega), List.getElem?_set_ne (by omega)]
        refine ⟨by kernel_rfl, ?_⟩
        clear hlo hlx hr
        have len1 : L < (hq'.set (L + 4) lb).length := by simp; omega
        have len2 : ∀ c, L + 4 < ((hq'.set (L + 4) lb).set L c).length := fun c => by simp; omega
        refine ⟨⟨by omega, by omega⟩, ⟨by decide, by simp [V.isCell]⟩, ?_, ⟨?_, ?_, ?_, ?_, ?_, trivial⟩, ?_, ?_⟩
        · rw [List.getElem?_set_ne (by omega)]; exact c2
        · simp; omega
        · intro b hb
          rw [d0 _ _ _ (by omega) (by omega), g2 b hb]
        · rw [List.getElem?_set_ne (by omega), List.getElem?_set_self len1, wsum_snoc]
        · rw [d0 _ _ _ (by omega) (by omega)]; exact g4
        · exact List.getElem?_set_self (len2 _)
        · simp
        · intro b h7 h8
          exact d0 _ _ _ (by omega) (by omega)
    obtain ⟨σ2, hcc, ⟨j1, j2, j3, j4, j5, j6⟩, hll, hf⟩ := covers1_call h hh (i + 1) (by omega) hy (L + 1) (L + 2) ⟨hp0 ++ [AObj.cells [V.int IntKind.i64 0] 3, AObj.cells [V.int IntKind.i64 h] 3, AObj.cells [V.int IntKind.i64 (i + 1 : Nat)] 3, .defd true, lo], ts⟩
      (hq _ 1) (hq _ 2) (by simp only; rw [hpl]; simp) ⟨by simp only; rw [hpl]; simp, fun b hb => hqo _ b hb, hq0 _, hq _ 3, hq _ 4, rfl⟩
    refine ⟨_, σ2, callFn_ev rfl rfl hcc, j5, ?_⟩
    obtain ⟨hq2, tq⟩ := σ2
    simp only at j1 j2 j3 j4 j5 j6
    subst j6
    have k3 : ∀ c, (hq2.set (L + 4) c)[L]? = some (.cells [.int .i64 (wsum zs (cov h 0 0 (i + 1)))] 3) := fun c => by rw [List.getElem?_set_ne (by omega)]; exact j3
    have k4 : ∀ c b, b < L + 4 → (hq2.set (L + 4) c)[b]? = hq2[b]? := fun c b hb => by rw [List.getElem?_set_ne (by omega)]
    obtain ⟨tk, te, ts', happ, htk⟩ := Grow.append one22 (hp := hq2.set (L + 4) lx) g (new := [wsum zs (cov h 0 0 (i + 1))].map (V.int .i64)) (c := .full) (by simp) (ints_cells _) (by simp [lim]; omega) (by simp [lim]; omega)
    rw [ints_app, ← sums_snoc] at happ
    simp only [List.map_cons, List.map_nil, List.length_cons, List.length_nil, Nat.zero_add] at happ
    simp only [G_seq, G_block, G_skip_code, G_skip_blk, G_skip_nil, G_exit_code, G_exit_blk, G_exit_nil, G_ret_code, G_ret_blk, G_ret_nil, G_cond, G_cond_const, G_loop, G_region, G_draw, GL_nil, GL_op, GL_none, GL_guard, GS_some, GS_ite, GS_nite, GN_some, GN_ite, GN_nite, GB_true, GB_false, GB_dec, GG_true_true, GG_true_false, GG_false_true, GG_false_false, GG_true_dec, GG_false_dec, opT_move, opT_assign, opT_pick, pickO_true, pickO_false, opT_binOp, binO_some, opT_unOp, opT_extract, extrO_tup, opT_indexAddr, idxO_slice, opT_load, opT_call, opT_len, opT_append, opT_convert, convO_int, callV_func, evalT, upd_at, Nat.reduceLT, Nat.reduceEqDiff, if_true, if_false, reduceIte, true_and, map_mk, bind_mk, map_ite', map_nite, bind_ite', bind_nite, vBin_add, vBin_sub, vBin_mul, vBin_eql, vBin_neq, vBin_lss, vBin_leq, vBin_gtr, vBin_geq, vBin_rem, vBin_quo, vBin_beql, vBin_bneq, vUn_not, vUn_true, vUn_false, index_row, len_row, len_nilsl, listO_nil, listO_cons, ofVal, ofCell, argT, List.getD_cons_zero, List.getD_cons_succ, List.getElem?_toArray, List.getElem?_cons_zero, List.getElem?_cons_succ, List.nil_append, List.cons_append, List.append_nil, resT, wpR_nil, V1_some, Nat.mul_one, load_row, load_ptr, cellAt_some, opT_store, store_ptr, storeAt_some, cells_row, isCell_row, cells_nilsl, push_mk, set_mk, setT, vUn_neg, opT_max, opT_min, max_two, min_two, List.append_eq, opT_makeFunc, opT_fieldAddr, opT_build, partsO_nil, partsO_cons, faddr_ptr, faddr_rptr, cells_agg, push_last, Nat.add_zero, opT_box, opT_alloc, ints_get, post_norm, post_exit, post_ret, Int.toNat_natCast, Bool.false_eq_true, Int.reduceEq, Int.reduceLT, Int.reduceLE, Int.reduceNeg, not_false_eq_true, and_self, map_nothing, bind_nothing, Int.natCast_one, Int.cast_ofNat_Int, not_true_eq_false, decide_true, decide_false, true_implies, false_implies, Int.toNat_zero, List.length_cons, List.length_nil, Nat.zero_add, mb, Nat.reduceBEq, Bool.false_and, Bool.and_false, cells_int, tys, stb, GK_nil, GK_op, GKS_some, GKS_none, GKS_ite, GKS_nite, Bool.or_false, Bool.false_or, Bool.true_and, Bool.or_true, Bool.true_or, k3, bs1, t8, t31, t30, t6, t2, happ, e3]
    have hLD : ∀ b ∈ D, b < L := fun b hb => by
      rcases Nat.lt_or_ge b L with h | h
      · exact h
      · have := hDd b hb; rw [List.getElem?_eq_none (by omega)] at this; simp at this
    refine ⟨n - (i + 1), by omega, ?_, ?_, ?_, i + 1, _, rfl, by omega, rfl, rfl, .tok _ tk te htk, fun h => by cases h⟩
    · rw [k4 _ _ (by omega), j2 0 hL0]; exact hb0
    · rw [List.nodup_cons]; exact ⟨fun hm => by have := hLD _ hm; omega, hD⟩
    · intro b hb
      rcases List.mem_cons.1 hb with rfl | hb
      · rw [k4 _ _ (by omega)]; exact j4
      · have := hLD b hb
        rw [k4 _ _ (by omega), j2 b this]; exact hDd b hb
  · have : i = n := by omega
    subst this
    obtain ⟨h', hd⟩ := takeDfs_ok D hp0 hD hDd
    have hne : sums h zs i ≠ [] := fun e => by have := congrArg List.length e; simp at this; omega
    simp only [G_seq, G_block, G_skip_code, G_skip_blk, G_skip_nil, G_exit_code, G_exit_blk, G_exit_nil, G_ret_code, G_ret_blk, G_ret_nil, G_cond, G_cond_const, G_loop, G_region, G_draw, GL_nil, GL_op, GL_none, GL_guard, GS_some, GS_ite, GS_nite, GN_some, GN_ite, GN_nite, GB_true, GB_false, GB_dec, GG_true_true, GG_true_false, GG_false_true, GG_false_false, GG_true_dec, GG_false_dec, opT_move, opT_assign, opT_pick, pickO_true, pickO_false, opT_binOp, binO_some, opT_unOp, opT_extract, extrO_tup, opT_indexAddr, idxO_slice, opT_load, opT_call, opT_len, opT_append, opT_convert, convO_int, callV_func, evalT, upd_at, Nat.reduceLT, Nat.reduceEqDiff, if_true, if_false, reduceIte, true_and, map_mk, bind_mk, map_ite', map_nite, bind_ite', bind_nite, vBin_add, vBin_sub, vBin_mul, vBin_eql, vBin_neq, vBin_lss, vBin_leq, vBin_gtr, vBin_geq, vBin_rem, vBin_quo, vBin_beql, vBin_bneq, vUn_not, vUn_true, vUn_false, index_row, len_row, len_nilsl, listO_nil, listO_cons, ofVal, ofCell, argT, List.getD_cons_zero, List.getD_cons_succ, List.getElem?_toArray, List.getElem?_cons_zero, List.getElem?_cons_succ, List.nil_append, List.cons_append, List.append_nil, resT, wpR_nil, V1_some, Nat.mul_one, load_row, load_ptr, cellAt_some, opT_store, store_ptr, storeAt_some, cells_row, isCell_row, cells_nilsl, push_mk, set_mk, setT, vUn_neg, opT_max, opT_min, max_two, min_two, List.append_eq, opT_makeFunc, opT_fieldAddr, opT_build, partsO_nil, partsO_cons, faddr_ptr, faddr_rptr, cells_agg, push_last, Nat.add_zero, opT_box, opT_alloc, ints_get, post_norm, post_exit, post_ret, Int.toNat_natCast, Bool.false_eq_true, Int.reduceEq, Int.reduceLT, Int.reduceLE, Int.reduceNeg, not_false_eq_true, and_self, map_nothing, bind_nothing, Int.natCast_one, Int.cast_ofNat_Int, not_true_eq_false, decide_true, decide_false, true_implies, false_implies, Int.toNat_zero, List.length_cons, List.length_nil, Nat.zero_add, mb, Nat.reduceBEq, Bool.false_and, Bool.and_false, cells_int, tys, stb, GK_nil, GK_op, GKS_some, GKS_none, GKS_ite, GKS_nite, Bool.or_false, Bool.false_or, Bool.true_and, Bool.or_true, Bool.true_or, t2, t6, t30, t31, t8, hin, wpR, hd]
    exact seal_grow2 g hne _ _
end Go.Proofs.Ytkomkiejakcilaa

namespace Go.Proofs.Ytkomkiejakcilaa
open Go.Ab
set_option maxRecDepth 100000
set_option linter.unusedSimpArgs false
set_option linter.unusedVariables false

theorem within_nil_run (most : Int) (h : most = 288230376151711744 ∨ most = 1125899906842624) : Go.Ab.isTrue (run env 60 (.call 24 [.nilsl, .int .i64 most] S.empty)) = true := by
  rcases h with rfl | rfl <;> kernel_rfl
theorem within_nil (most : Int) (h : most = 288230376151711744 ∨ most = 1125899906842624) (σ : S) : callFn env (ev env) 24 [.nilsl, .int .i64 most] σ = some (.bool true, σ) := by
  obtain ⟨σ', hr⟩ := isTrue_eq (within_nil_run most h)
  exact callFn_run rfl rfl rfl hr rfl σ

/-- a slice of integers that came in -/
def InI (v : V) (zs : List Int) : Prop := v = rowI zs ∨ (v = .nilsl ∧ zs = [])
theorem InI.closed {v : V} {zs : List Int} (h : InI v zs) : v.closed = true := by
  rcases h with rfl | ⟨rfl, _⟩
  · exact closed_ints _ _ _
  · rfl
theorem InI.cells {v : V} {zs : List Int} (h : InI v zs) : v.cells = [v] := by rcases h with rfl | ⟨rfl, _⟩ <;> rfl
theorem InI.len {v : V} {zs : List Int} (h : InI v zs) (e : TypeId) : vLenT (some (.slice e)) v = some (.int .i64 zs.length) := by
  rcases h with rfl | ⟨rfl, rfl⟩ <;> rfl
theorem InI.within {v : V} {zs : List Int} (h : InI v zs) (hl : zs.length ≤ 2 ^ 20) (most : Int) (hm : most = 288230376151711744 ∨ most = 1125899906842624) (σ : S) :
    callFn env (ev env) 24 [v, .int .i64 most] σ = some (.bool (decide (Within zs most)), σ) := by
  rcases h with rfl | ⟨rfl, rfl⟩
  · exact within_call zs most (by omega) hl σ
  · rw [within_nil most hm]
    have : Within [] most := fun z hz => by simp at hz
    simp [this]

theorem prefix_range {v : V} {zs : List Int} (hv : InI v zs) (hl : zs.length ≤ 2 ^ 20) (n : Int) (h : ¬ Within zs 288230376151711744 ∨ n < 1 ∨ 128 < n) (σ : S) :
    callFn env (ev env) 11 [v, .int .i64 n] σ = some (.tup [.nilsl, .int .i64 2], σ) := by
  refine callFn_pure rfl rfl (by simp [hv.closed, V.closed]) at11 rfl (by simp [Try.f11]) (by simp [Try.f11]) (G_start ?_) σ
  have hw := hv.within hl 288230376151711744 (.inl rfl)
  by_cases hn : n < 1 ∨ 128 < n
  · by_cases hww : Within zs 288230376151711744
    · simp only [Try.f11, G_seq, G_block, G_skip_code, G_skip_blk, G_skip_nil, G_exit_code, G_exit_blk, G_exit_nil, G_ret_code, G_ret_blk, G_ret_nil, G_cond, G_cond_const, G_loop, G_region, G_draw, GL_nil, GL_op, GL_none, GL_guard, GS_some, GS_ite, GS_nite, GN_some, GN_ite, GN_nite, GB_true, GB_false, GB_dec, GG_true_true, GG_true_false, GG_false_true, GG_false_false, GG_true_dec, GG_false_dec, opT_move, opT_assign, opT_pick, pickO_true, pickO_false, opT_binOp, binO_some, opT_unOp, opT_extract, extrO_tup, opT_indexAddr, idxO_slice, opT_load, opT_call, opT_len, opT_append, opT_convert, convO_int, callV_func, evalT, upd_at, Nat.reduceLT, Nat.reduceEqDiff, if_true, if_false, reduceIte, true_and, map_mk, bind_mk, map_ite', map_nite, bind_ite', bind_nite, vBin_add, vBin_sub, vBin_mul, vBin_eql, vBin_neq, vBin_lss, vBin_leq, vBin_gtr, vBin_geq, vBin_rem, vBin_quo, vBin_beql, vBin_bneq, vUn_not, vUn_true, vUn_false, index_row, len_row, len_nilsl, listO_nil, listO_cons, ofVal, ofCell, argT, List.getD_cons_zero, List.getD_cons_succ, List.getElem?_toArray, List.getElem?_cons_zero, List.getElem?_cons_succ, List.nil_append, List.cons_append, List.append_nil, resT, wpR_nil, V1_some, Nat.mul_one, load_row, load_ptr, cellAt_some, opT_store, store_ptr, storeAt_some, cells_row, isCell_row, cells_nilsl, push_mk, set_mk, setT, vUn_neg, opT_max, opT_min, max_two, min_two, List.append_eq, opT_makeFunc, opT_fieldAddr, opT_build, partsO_nil, partsO_cons, faddr_ptr, faddr_rptr, cells_agg, push_last, Nat.add_zero, opT_box, opT_alloc, ints_get, post_norm, post_exit, post_ret, Int.toNat_natCast, Bool.false_eq_true, Int.reduceEq, Int.reduceLT, Int.reduceLE, Int.reduceNeg, not_false_eq_true, and_self, map_nothing, bind_nothing, Int.natCast_one, Int.cast_ofNat_Int, not_true_eq_false, decide_true, decide_false, true_implies, false_implies, Int.toNat_zero, List.length_cons, List.length_nil, Nat.zero_add, mb, Nat.reduceBEq, Bool.false_and, Bool.and_false, cells_int, tys, stb, GK_nil, GK_op, GKS_some, GKS_none, GKS_ite, GKS_nite, Bool.or_false, Bool.false_or, Bool.true_and, Bool.or_true, Bool.true_or, empty_mk, height_bad n hn, hw, hww, hv.cells]
      rfl
    · simp only [Try.f11, G_seq, G_block, G_skip_code, G_skip_blk, G_skip_nil, G_exit_code, G_exit_blk, G_exit_nil, G_ret_code, G_ret_blk, G_ret_nil, G_cond, G_cond_const, G_loop, G_region, G_draw, GL_nil, GL_op, GL_none, GL_guard, GS_some, GS_ite, GS_nite, GN_some, GN_ite, GN_nite, GB_true, GB_false, GB_dec, GG_true_true, GG_true_false, GG_false_true, GG_false_false, GG_true_dec, GG_false_dec, opT_move, opT_assign, opT_pick, pickO_true, pickO_false, opT_binOp, binO_some, opT_unOp, opT_extract, extrO_tup, opT_indexAddr, idxO_slice, opT_load, opT_call, opT_len, opT_append, opT_convert, convO_int, callV_func, evalT, upd_at, Nat.reduceLT, Nat.reduceEqDiff, if_true, if_false, reduceIte, true_and, map_mk, bind_mk, map_ite', map_nite, bind_ite', bind_nite, vBin_add, vBin_sub, vBin_mul, vBin_eql, vBin_neq, vBin_lss, vBin_leq, vBin_gtr, vBin_geq, vBin_rem, vBin_quo, vBin_beql, vBin_bneq, vUn_not, vUn_true, vUn_false, index_row, len_row, len_nilsl, listO_nil, listO_cons, ofVal, ofCell, argT, List.getD_cons_zero, List.getD_cons_succ, List.getElem?_toArray, List.getElem?_cons_zero, List.getElem?_cons_succ, List.nil_append, List.cons_append, List.append_nil, resT, wpR_nil, V1_some, Nat.mul_one, load_row, load_ptr, cellAt_some, opT_store, store_ptr, storeAt_some, cells_row, isCell_row, cells_nilsl, push_mk, set_mk, setT, vUn_neg, opT_max, opT_min, max_two, min_two, List.append_eq, opT_makeFunc, opT_fieldAddr, opT_build, partsO_nil, partsO_cons, faddr_ptr, faddr_rptr, cells_agg, push_last, Nat.add_zero, opT_box, opT_alloc, ints_get, post_norm, post_exit, post_ret, Int.toNat_natCast, Bool.false_eq_true, Int.reduceEq, Int.reduceLT, Int.reduceLE, Int.reduceNeg, not_false_eq_true, and_self, map_nothing, bind_nothing, Int.natCast_one, Int.cast_ofNat_Int, not_true_eq_false, decide_true, decide_false, true_implies, false_implies, Int.toNat_zero, List.length_cons, List.length_nil, Nat.zero_add, mb, Nat.reduceBEq, Bool.false_and, Bool.and_false, cells_int, tys, stb, GK_nil, GK_op, GKS_some, GKS_none, GKS_ite, GKS_nite, Bool.or_false, Bool.false_or, Bool.true_and, Bool.or_true, Bool.true_or, empty_mk, height_bad n hn, hw, hww, hv.cells]
      rfl
  · have hww : ¬ Within zs 288230376151711744 := by
      rcases h with h | h
      · exact h
      · exact absurd h hn
    simp only [Try.f11, G_seq, G_block, G_skip_code, G_skip_blk, G_skip_nil, G_exit_code, G_exit_blk, G_exit_nil, G_ret_code, G_ret_blk, G_ret_nil, G_cond, G_cond_const, G_loop, G_region, G_draw, GL_nil, GL_op, GL_none, GL_guard, GS_some, GS_ite, GS_nite, GN_some, GN_ite, GN_nite, GB_true, GB_false, GB_dec, GG_true_true, GG_true_false, GG_false_true, GG_false_false, GG_true_dec, GG_false_dec, opT_move, opT_assign, opT_pick, pickO_true, pickO_false, opT_binOp, binO_some, opT_unOp, opT_extract, extrO_tup, opT_indexAddr, idxO_slice, opT_load, opT_call, opT_len, opT_append, opT_convert, convO_int, callV_func, evalT, upd_at, Nat.reduceLT, Nat.reduceEqDiff, if_true, if_false, reduceIte, true_and, map_mk, bind_mk, map_ite', map_nite, bind_ite', bind_nite, vBin_add, vBin_sub, vBin_mul, vBin_eql, vBin_neq, vBin_lss, vBin_leq, vBin_gtr, vBin_geq, vBin_rem, vBin_quo, vBin_beql, vBin_bneq, vUn_not, vUn_true, vUn_false, index_row, len_row, len_nilsl, listO_nil, listO_cons, ofVal, ofCell, argT, List.getD_cons_zero, List.getD_cons_succ, List.getElem?_toArray, List.getElem?_cons_zero, List.getElem?_cons_succ, List.nil_append, List.cons_append, List.append_nil, resT, wpR_nil, V1_some, Nat.mul_one, load_row, load_ptr, cellAt_some, opT_store, store_ptr, storeAt_some, cells_row, isCell_row, cells_nilsl, push_mk, set_mk, setT, vUn_neg, opT_max, opT_min, max_two, min_two, List.append_eq, opT_makeFunc, opT_fieldAddr, opT_build, partsO_nil, partsO_cons, faddr_ptr, faddr_rptr, cells_agg, push_last, Nat.add_zero, opT_box, opT_alloc, ints_get, post_norm, post_exit, post_ret, Int.toNat_natCast, Bool.false_eq_true, Int.reduceEq, Int.reduceLT, Int.reduceLE, Int.reduceNeg, not_false_eq_true, and_self, map_nothing, bind_nothing, Int.natCast_one, Int.cast_ofNat_Int, not_true_eq_false, decide_true, decide_false, true_implies, false_implies, Int.toNat_zero, List.length_cons, List.length_nil, Nat.zero_add, mb, Nat.reduceBEq, Bool.false_and, Bool.and_false, cells_int, tys, stb, GK_nil, GK_op, GKS_some, GKS_none, GKS_ite, GKS_nite, Bool.or_false, Bool.false_or, Bool.true_and, Bool.or_true, Bool.true_or, empty_mk, height_ok n (by omega) (by omega), hw, hww, hv.cells]
    rfl

theorem prefix_short {v : V} {zs : List Int} (hv : InI v zs) (hl : zs.length ≤ 2 ^ 20) (n : Int) (hw : Within zs 288230376151711744) (h1 : 1 ≤ n) (h2 : n ≤ 128) (hne : zs.length ≠ 2 ^ (hgt n + 1) - 1) (σ : S) :
    callFn env (ev env) 11 [v, .int .i64 n] σ = some (.tup [.nilsl, .int .i64 16], σ) := by
  refine callFn_pure rfl rfl (by simp [hv.closed, V.closed]) at11 rfl (by simp [Try.f11]) (by simp [Try.f11]) (G_start ?_) σ
  have hwc := hv.within hl 288230376151711744 (.inl rfl)
  have hlen := hv.len 3
  have hh := hgt_le n
  have hp := pow_le (hgt n) hh
  have e1 : IntKind.i64.wrap ((hgt n : Nat) + 1 : Int) = ((hgt n + 1 : Nat) : Int) := by rw [wrap_i64 (by omega) (by omega)]; omega
  have hc := pow_cast (hgt n + 1)
  have e2 : 2 ^ (hgt n + 1) = 2 * 2 ^ hgt n := by rw [Nat.pow_succ]; omega
  have hl' : ¬ ((zs.length : Nat) : Int) = 2 ^ (hgt n + 1) - 1 := by omega
  simp only [Try.f11, G_seq, G_block, G_skip_code, G_skip_blk, G_skip_nil, G_exit_code, G_exit_blk, G_exit_nil, G_ret_code, G_ret_blk, G_ret_nil, G_cond, G_cond_const, G_loop, G_region, G_draw, GL_nil, GL_op, GL_none, GL_guard, GS_some, GS_ite, GS_nite, GN_some, GN_ite, GN_nite, GB_true, GB_false, GB_dec, GG_true_true, GG_true_false, GG_false_true, GG_false_false, GG_true_dec, GG_false_dec, opT_move, opT_assign, opT_pick, pickO_true, pickO_false, opT_binOp, binO_some, opT_unOp, opT_extract, extrO_tup, opT_indexAddr, idxO_slice, opT_load, opT_call, opT_len, opT_append, opT_convert, convO_int, callV_func, evalT, upd_at, Nat.reduceLT, Nat.reduceEqDiff, if_true, if_false, reduceIte, true_and, map_mk, bind_mk, map_ite', map_nite, bind_ite', bind_nite, vBin_add, vBin_sub, vBin_mul, vBin_eql, vBin_neq, vBin_lss, vBin_leq, vBin_gtr, vBin_geq, vBin_rem, vBin_quo, vBin_beql, vBin_bneq, vUn_not, vUn_true, vUn_false, index_row, len_row, len_nilsl, listO_nil, listO_cons, ofVal, ofCell, argT, List.getD_cons_zero, List.getD_cons_succ, List.getElem?_toArray, List.getElem?_cons_zero, List.getElem?_cons_succ, List.nil_append, List.cons_append, List.append_nil, resT, wpR_nil, V1_some, Nat.mul_one, load_row, load_ptr, cellAt_some, opT_store, store_ptr, storeAt_some, cells_row, isCell_row, cells_nilsl, push_mk, set_mk, setT, vUn_neg, opT_max, opT_min, max_two, min_two, List.append_eq, opT_makeFunc, opT_fieldAddr, opT_build, partsO_nil, partsO_cons, faddr_ptr, faddr_rptr, cells_agg, push_last, Nat.add_zero, opT_box, opT_alloc, ints_get, post_norm, post_exit, post_ret, Int.toNat_natCast, Bool.false_eq_true, Int.reduceEq, Int.reduceLT, Int.reduceLE, Int.reduceNeg, not_false_eq_true, and_self, map_nothing, bind_nothing, Int.natCast_one, Int.cast_ofNat_Int, not_true_eq_false, decide_true, decide_false, true_implies, false_implies, Int.toNat_zero, List.length_cons, List.length_nil, Nat.zero_add, mb, Nat.reduceBEq, Bool.false_and, Bool.and_false, cells_int, tys, stb, GK_nil, GK_op, GKS_some, GKS_none, GKS_ite, GKS_nite, Bool.or_false, Bool.false_or, Bool.true_and, Bool.or_true, Bool.true_or, empty_mk, height_ok n h1 h2, hwc, hw, e1, leaf_call (hgt n + 1) (by omega), hlen, hl', hv.cells]
  exact ⟨by kernel_rfl, rfl⟩

theorem wsum_exact (zs : List Int) (hw : Within zs 288230376151711744) : ∀ (l : List Int), l.length ≤ 15 → wsum zs l = (l.map fun k => zs.getD k.toNat 0).sum ∧ -(288230376151711744 * l.length) ≤ wsum zs l ∧ wsum zs l ≤ 288230376151711744 * l.length := by
  have hz : ∀ k : Nat, -288230376151711744 ≤ zs.getD k 0 ∧ zs.getD k 0 ≤ 288230376151711744 := fun k => by
    by_cases hk : k < zs.length
    · have : zs.getD k 0 ∈ zs := by simp [List.getD, hk]
      exact hw _ this
    · simp [List.getD, List.getElem?_eq_none (Nat.le_of_not_lt hk)]
  have key : ∀ (l : List Int) (a : Int) (n : Nat), l.length + n ≤ 15 → -(288230376151711744 * n) ≤ a → a ≤ 288230376151711744 * n →
      l.foldl (fun s k => IntKind.i64.wrap (s + zs.getD k.toNat 0)) a = a + (l.map fun k => zs.getD k.toNat 0).sum ∧
      -(288230376151711744 * (l.length + n : Nat)) ≤ a + (l.map fun k => zs.getD k.toNat 0).sum ∧ a + (l.map fun k => zs.getD k.toNat 0).sum ≤ 288230376151711744 * (l.length + n : Nat) := by
    intro l
    induction l with
    | nil => intro a n h1 h2 h3; simp; omega
    | cons x l ih =>
      intro a n h1 h2 h3
      simp only [List.length_cons] at h1
      have := hz x.toNat
      obtain ⟨i1, i2, i3⟩ := ih (a + zs.getD x.toNat 0) (n + 1) (by omega) (by omega) (by omega)
      simp only [List.foldl_cons, List.map_cons, List.sum_cons, List.length_cons]
      rw [wrap_i64 (by omega) (by omega), i1]
      refine ⟨by omega, by omega, by omega⟩
  intro l hl
  obtain ⟨k1, k2, k3⟩ := key l 0 0 (by omega) (by omega) (by omega)
  unfold wsum
  rw [k1]
  simp only [Int.zero_add, Nat.add_zero] at *
  exact ⟨trivial, k2, k3⟩
end Go.Proofs.Ytkomkiejakcilaa

namespace Go.Proofs.Ytkomkiejakcilaa
open Go.Ab
set_option maxRecDepth 100000
set_option linter.unusedSimpArgs false
set_option linter.unusedVariables false
theorem at23 : env.P.funcs[23]? = some Try.f23 := by kernel_rfl

/-- what Prefix returns -/
def prefV (zs : List Int) (n : Int) : V :=
  if ¬ Within zs 288230376151711744 ∨ n < 1 ∨ 128 < n then .tup [.nilsl, .int .i64 2]
  else if zs.length ≠ 2 ^ (hgt n + 1) - 1 then .tup [.nilsl, .int .i64 16]
  else .tup [rowI (sums (hgt n) zs n.toNat), .int .i64 0]

theorem prefix_call {v : V} {zs : List Int} (hv : InI v zs) (hl : zs.length ≤ 2 ^ 20) (n : Int) (σ : S) : callFn env (ev env) 11 [v, .int .i64 n] σ = some (prefV zs n, σ) := by
  unfold prefV
  by_cases h1 : ¬ Within zs 288230376151711744 ∨ n < 1 ∨ 128 < n
  · rw [if_pos h1]; exact prefix_range hv hl n h1 σ
  · rw [if_neg h1]
    have hw : Within zs 288230376151711744 := Classical.not_not.1 fun h => h1 (.inl h)
    by_cases h2 : zs.length ≠ 2 ^ (hgt n + 1) - 1
    · rw [if_pos h2]; exact prefix_short hv hl n hw (by omega) (by omega) h2 σ
    · rw [if_neg h2]
      have hp := pow_le (hgt n) (hgt_le n)
      have e2 : 2 ^ (hgt n + 1) = 2 * 2 ^ hgt n := by rw [Nat.pow_succ]; omega
      have hvr : v = rowI zs := by
        rcases hv with h | ⟨_, h⟩
        · exact h
        · rw [h] at h2; simp at h2; omega
      subst hvr
      have hn : n = ((n.toNat : Nat) : Int) := by omega
      have := prefix_ok zs n.toNat (by omega) (by omega) (by rw [← hn]; omega) hw σ
      rw [← hn] at this
      exact this

theorem within_iff (zs : List Int) (M : Int) : Within zs M ↔ ∀ j : Nat, j < zs.length → -M ≤ zs.getD j 0 ∧ zs.getD j 0 ≤ M := by
  constructor
  · intro h j hj
    exact h _ (by simp [List.getD, hj])
  · intro h z hz
    obtain ⟨j, hj, rfl⟩ := List.getElem_of_mem hz
    have := h j hj
    simpa [List.getD, hj] using this

theorem cov_lt : ∀ (d node at' i : Nat), ∀ x ∈ cov d node at' i, ∃ k : Nat, x = k ∧ k + 2 ≤ (node + 2) * 2 ^ d
  | 0, node, at', i, x, h => by
    simp only [cov] at h
    split at h
    · simp at h
    · simp at h; exact ⟨node, h, by omega⟩
  | d + 1, node, at', i, x, h => by
    have hp : 1 ≤ 2 ^ d := Nat.one_le_two_pow
    have e2 : 2 ^ (d + 1) = 2 * 2 ^ d := by rw [Nat.pow_succ]; omega
    have e3 : (node + 2) * 2 ^ (d + 1) = (2 * node + 4) * 2 ^ d := by rw [e2, ← Nat.mul_assoc]; congr 1; omega
    simp only [cov] at h
    split at h
    · simp at h
    · split at h
      · simp at h
        refine ⟨node, h, ?_⟩
        have : (node + 2) * 1 ≤ (node + 2) * 2 ^ (d + 1) := Nat.mul_le_mul_left _ Nat.one_le_two_pow
        omega
      · rcases List.mem_append.1 h with h | h
        · obtain ⟨k, h1, h2⟩ := cov_lt d _ _ _ x h
          refine ⟨k, h1, ?_⟩
          have : (2 * node + 1 + 2) * 2 ^ d ≤ (2 * node + 4) * 2 ^ d := Nat.mul_le_mul_right _ (by omega)
          omega
        · obtain ⟨k, h1, h2⟩ := cov_lt d _ _ _ x h
          refine ⟨k, h1, ?_⟩
          rw [e3, show 2 * node + 4 = 2 * node + 2 + 2 by omega]
          exact h2

theorem wsum_take (zs l : List Int) (k : Nat) (hk : k < l.length) : wsum zs (l.take (k + 1)) = IntKind.i64.wrap (wsum zs (l.take k) + zs.getD (l.getD k 0).toNat 0) := by
  have e : l.getD k 0 = l[k] := by simp [List.getD, hk]
  rw [List.take_add_one, List.getElem?_eq_getElem hk, e]
  simp only [wsum, List.foldl_append, Option.toList, List.foldl_cons, List.foldl_nil]

set_option maxHeartbeats 4000000 in
theorem rprefix_call {v : V} {zs : List Int} (hv : InI v zs) (hl : zs.length ≤ 2 ^ 20) (n : Int) (σ : S) : callFn env (ev env) 23 [v, .int .i64 n] σ = some (prefV zs n, σ) := by
  refine callFn_pure rfl rfl (by simp [hv.closed, V.closed]) at23 rfl (by simp [Try.f23]) (by simp [Try.f23]) (G_start ?_) σ
  have hlen := hv.len 3
  simp only [Try.f23, G_seq, G_block, G_skip_code, G_skip_blk, G_skip_nil, G_exit_code, G_exit_blk, G_exit_nil, G_ret_code, G_ret_blk, G_ret_nil, G_cond, G_cond_const, G_loop, G_region, G_draw, GL_nil, GL_op, GL_none, GL_guard, GS_some, GS_ite, GS_nite, GN_some, GN_ite, GN_nite, GB_true, GB_false, GB_dec, GG_true_true, GG_true_false, GG_false_true, GG_false_false, GG_true_dec, GG_false_dec, opT_move, opT_assign, opT_pick, pickO_true, pickO_false, opT_binOp, binO_some, opT_unOp, opT_extract, extrO_tup, opT_indexAddr, idxO_slice, opT_load, opT_call, opT_len, opT_append, opT_convert, convO_int, callV_func, evalT, upd_at, Nat.reduceLT, Nat.reduceEqDiff, if_true, if_false, reduceIte, true_and, map_mk, bind_mk, map_ite', map_nite, bind_ite', bind_nite, vBin_add, vBin_sub, vBin_mul, vBin_eql, vBin_neq, vBin_lss, vBin_leq, vBin_gtr, vBin_geq, vBin_rem, vBin_quo, vBin_beql, vBin_bneq, vUn_not, vUn_true, vUn_false, index_row, len_row, len_nilsl, listO_nil, listO_cons, ofVal, ofCell, argT, List.getD_cons_zero, List.getD_cons_succ, List.getElem?_toArray, List.getElem?_cons_zero, List.getElem?_cons_succ, List.nil_append, List.cons_append, List.append_nil, resT, wpR_nil, V1_some, Nat.mul_one, load_row, load_ptr, cellAt_some, opT_store, store_ptr, storeAt_some, cells_row, isCell_row, cells_nilsl, push_mk, set_mk, setT, vUn_neg, opT_max, opT_min, max_two, min_two, List.append_eq, opT_makeFunc, opT_fieldAddr, opT_build, partsO_nil, partsO_cons, faddr_ptr, faddr_rptr, cells_agg, push_last, Nat.add_zero, opT_box, opT_alloc, ints_get, post_norm, post_exit, post_ret, Int.toNat_natCast, Bool.false_eq_true, Int.reduceEq, Int.reduceLT, Int.reduceLE, Int.reduceNeg, not_false_eq_true, and_self, map_nothing, bind_nothing, Int.natCast_one, Int.cast_ofNat_Int, not_true_eq_false, decide_true, decide_false, true_implies, false_implies, Int.toNat_zero, List.length_cons, List.length_nil, Nat.zero_add, mb, Nat.reduceBEq, Bool.false_and, Bool.and_false, cells_int, tys, stb, GK_nil, GK_op, GKS_some, GKS_none, GKS_ite, GKS_nite, Bool.or_false, Bool.false_or, Bool.true_and, Bool.or_true, Bool.true_or]
  refine loop_rule (fun m T D σ => D = [] ∧ σ = S.empty ∧ T 0 = v ∧ T 1 = .int .i64 n ∧ ∃ i : Nat, T 6 = .int .i64 i ∧ i ≤ zs.length ∧ m = zs.length - i ∧ (∀ j : Nat, j < i → -288230376151711744 ≤ zs.getD j 0 ∧ zs.getD j 0 ≤ 288230376151711744)) ?_ _ _ _ _ ⟨rfl, rfl, rfl, rfl, 0, rfl, by omega, rfl, fun j h => by omega⟩
  rintro m T D σ ⟨rfl, rfl, t0, t1, i, t6, hi, hm, hj⟩
  refine G_start ?_
  by_cases hin : (i : Int) < (zs.length : Int)
  · have hlt : i < zs.length := by omega
    have hvr : v = rowI zs := by
      rcases hv with h | ⟨_, h⟩
      · exact h
      · rw [h] at hlt; simp at hlt
    subst hvr
    have e3 : IntKind.i64.wrap ((i : Int) + 1) = ((i + 1 : Nat) : Int) := by rw [wrap_i64 (by omega) (by omega)]; omega
    simp only [G_seq, G_block, G_skip_code, G_skip_blk, G_skip_nil, G_exit_code, G_exit_blk, G_exit_nil, G_ret_code, G_ret_blk, G_ret_nil, G_cond, G_cond_const, G_loop, G_region, G_draw, GL_nil, GL_op, GL_none, GL_guard, GS_some, GS_ite, GS_nite, GN_some, GN_ite, GN_nite, GB_true, GB_false, GB_dec, GG_true_true, GG_true_false, GG_false_true, GG_false_false, GG_true_dec, GG_false_dec, opT_move, opT_assign, opT_pick, pickO_true, pickO_false, opT_binOp, binO_some, opT_unOp, opT_extract, extrO_tup, opT_indexAddr, idxO_slice, opT_load, opT_call, opT_len, opT_append, opT_convert, convO_int, callV_func, evalT, upd_at, Nat.reduceLT, Nat.reduceEqDiff, if_true, if_false, reduceIte, true_and, map_mk, bind_mk, map_ite', map_nite, bind_ite', bind_nite, vBin_add, vBin_sub, vBin_mul, vBin_eql, vBin_neq, vBin_lss, vBin_leq, vBin_gtr, vBin_geq, vBin_rem, vBin_quo, vBin_beql, vBin_bneq, vUn_not, vUn_true, vUn_false, index_row, len_row, len_nilsl, listO_nil, listO_cons, ofVal, ofCell, argT, List.getD_cons_zero, List.getD_cons_succ, List.getElem?_toArray, List.getElem?_cons_zero, List.getElem?_cons_succ, List.nil_append, List.cons_append, List.append_nil, resT, wpR_nil, V1_some, Nat.mul_one, load_row, load_ptr, cellAt_some, opT_store, store_ptr, storeAt_some, cells_row, isCell_row, cells_nilsl, push_mk, set_mk, setT, vUn_neg, opT_max, opT_min, max_two, min_two, List.append_eq, opT_makeFunc, opT_fieldAddr, opT_build, partsO_nil, partsO_cons, faddr_ptr, faddr_rptr, cells_agg, push_last, Nat.add_zero, opT_box, opT_alloc, ints_get, post_norm, post_exit, post_ret, Int.toNat_natCast, Bool.false_eq_true, Int.reduceEq, Int.reduceLT, Int.reduceLE, Int.reduceNeg, not_false_eq_true, and_self, map_nothing, bind_nothing, Int.natCast_one, Int.cast_ofNat_Int, not_true_eq_false, decide_true, decide_false, true_implies, false_implies, Int.toNat_zero, List.length_cons, List.length_nil, Nat.zero_add, mb, Nat.reduceBEq, Bool.false_and, Bool.and_false, cells_int, tys, stb, GK_nil, GK_op, GKS_some, GKS_none, GKS_ite, GKS_nite, Bool.or_false, Bool.false_or, Bool.true_and, Bool.or_true, Bool.true_or, t0, t1, t6, hin, hlen, e3, hlt]
    refine ⟨⟨by omega, trivial⟩, fun hlo => ?_, fun hlo => ⟨⟨by omega, trivial⟩, fun hhi => ?_, fun hhi => ?_⟩⟩
    · have : ¬ Within zs 288230376151711744 := fun hw => by have := (within_iff _ _).1 hw i hlt; omega
      have hpv : prefV zs n = .tup [.nilsl, .int .i64 2] := by unfold prefV; rw [if_pos (.inl this)]
      rw [hpv]; rfl
    · have : ¬ Within zs 288230376151711744 := fun hw => by have := (within_iff _ _).1 hw i hlt; omega
      have hpv : prefV zs n = .tup [.nilsl, .int .i64 2] := by unfold prefV; rw [if_pos (.inl this)]
      rw [hpv]; rfl
    · refine ⟨zs.length - (i + 1), by omega, i + 1, rfl, by omega, rfl, fun j h => ?_⟩
      rcases Nat.lt_or_ge j i with h2 | h2
      · exact hj j h2
      · have : j = i := by omega
        subst this; omega
  · have hw : Within zs 288230376151711744 := (within_iff _ _).2 fun j h => hj j (by omega)
    by_cases hb : n < 1 ∨ 128 < n
    · have hpv : prefV zs n = .tup [.nilsl, .int .i64 2] := by unfold prefV; rw [if_pos (.inr hb)]
      simp only [G_seq, G_block, G_skip_code, G_skip_blk, G_skip_nil, G_exit_code, G_exit_blk, G_exit_nil, G_ret_code, G_ret_blk, G_ret_nil, G_cond, G_cond_const, G_loop, G_region, G_draw, GL_nil, GL_op, GL_none, GL_guard, GS_some, GS_ite, GS_nite, GN_some, GN_ite, GN_nite, GB_true, GB_false, GB_dec, GG_true_true, GG_true_false, GG_false_true, GG_false_false, GG_true_dec, GG_false_dec, opT_move, opT_assign, opT_pick, pickO_true, pickO_false, opT_binOp, binO_some, opT_unOp, opT_extract, extrO_tup, opT_indexAddr, idxO_slice, opT_load, opT_call, opT_len, opT_append, opT_convert, convO_int, callV_func, evalT, upd_at, Nat.reduceLT, Nat.reduceEqDiff, if_true, if_false, reduceIte, true_and, map_mk, bind_mk, map_ite', map_nite, bind_ite', bind_nite, vBin_add, vBin_sub, vBin_mul, vBin_eql, vBin_neq, vBin_lss, vBin_leq, vBin_gtr, vBin_geq, vBin_rem, vBin_quo, vBin_beql, vBin_bneq, vUn_not, vUn_true, vUn_false, index_row, len_row, len_nilsl, listO_nil, listO_cons, ofVal, ofCell, argT, List.getD_cons_zero, List.getD_cons_succ, List.getElem?_toArray, List.getElem?_cons_zero, List.getElem?_cons_succ, List.nil_append, List.cons_append, List.append_nil, resT, wpR_nil, V1_some, Nat.mul_one, load_row, load_ptr, cellAt_some, opT_store, store_ptr, storeAt_some, cells_row, isCell_row, cells_nilsl, push_mk, set_mk, setT, vUn_neg, opT_max, opT_min, max_two, min_two, List.append_eq, opT_makeFunc, opT_fieldAddr, opT_build, partsO_nil, partsO_cons, faddr_ptr, faddr_rptr, cells_agg, push_last, Nat.add_zero, opT_box, opT_alloc, ints_get, post_norm, post_exit, post_ret, Int.toNat_natCast, Bool.false_eq_true, Int.reduceEq, Int.reduceLT, Int.reduceLE, Int.reduceNeg, not_false_eq_true, and_self, map_nothing, bind_nothing, Int.natCast_one, Int.cast_ofNat_Int, not_true_eq_false, decide_true, decide_false, true_implies, false_implies, Int.toNat_zero, List.length_cons, List.length_nil, Nat.zero_add, mb, Nat.reduceBEq, Bool.false_and, Bool.and_false, cells_int, tys, stb, GK_nil, GK_op, GKS_some, GKS_none, GKS_ite, GKS_nite, Bool.or_false, Bool.false_or, Bool.true_and, Bool.or_true, Bool.true_or, t0, t1, t6, hin, hlen, rheight_bad n hb, hpv]
      rfl
    · have hh := hgt_le n
      have hp := pow_le (hgt n) hh
      have e2 : 2 ^ (hgt n + 1) = 2 * 2 ^ hgt n := by rw [Nat.pow_succ]; omega
      have hc := pow_cast (hgt n)
      have e4 : IntKind.i64.wrap (2 * 2 ^ hgt n - 1) = 2 * 2 ^ hgt n - 1 := by rw [wrap_i64 (by omega) (by omega)]
      by_cases hs : ((zs.length : Nat) : Int) = 2 * 2 ^ hgt n - 1
      · have hin' : ¬ (i : Int) < 2 * 2 ^ hgt n - 1 := by omega
        have hvr : v = rowI zs := by
          rcases hv with h | ⟨_, h⟩
          · exact h
          · rw [h] at hs; simp at hs; omega
        subst hvr
        have hpv : prefV zs n = .tup [rowI (sums (hgt n) zs n.toNat), .int .i64 0] := by unfold prefV; rw [if_neg (by simp [hw]; omega), if_neg (by omega)]
        simp only [G_seq, G_block, G_skip_code, G_skip_blk, G_skip_nil, G_exit_code, G_exit_blk, G_exit_nil, G_ret_code, G_ret_blk, G_ret_nil, G_cond, G_cond_const, G_loop, G_region, G_draw, GL_nil, GL_op, GL_none, GL_guard, GS_some, GS_ite, GS_nite, GN_some, GN_ite, GN_nite, GB_true, GB_false, GB_dec, GG_true_true, GG_true_false, GG_false_true, GG_false_false, GG_true_dec, GG_false_dec, opT_move, opT_assign, opT_pick, pickO_true, pickO_false, opT_binOp, binO_some, opT_unOp, opT_extract, extrO_tup, opT_indexAddr, idxO_slice, opT_load, opT_call, opT_len, opT_append, opT_convert, convO_int, callV_func, evalT, upd_at, Nat.reduceLT, Nat.reduceEqDiff, if_true, if_false, reduceIte, true_and, map_mk, bind_mk, map_ite', map_nite, bind_ite', bind_nite, vBin_add, vBin_sub, vBin_mul, vBin_eql, vBin_neq, vBin_lss, vBin_leq, vBin_gtr, vBin_geq, vBin_rem, vBin_quo, vBin_beql, vBin_bneq, vUn_not, vUn_true, vUn_false, index_row, len_row, len_nilsl, listO_nil, listO_cons, ofVal, ofCell, argT, List.getD_cons_zero, List.getD_cons_succ, List.getElem?_toArray, List.getElem?_cons_zero, List.getElem?_cons_succ, List.nil_append, List.cons_append, List.append_nil, resT, wpR_nil, V1_some, Nat.mul_one, load_row, load_ptr, cellAt_some, opT_store, store_ptr, storeAt_some, cells_row, isCell_row, cells_nilsl, push_mk, set_mk, setT, vUn_neg, opT_max, opT_min, max_two, min_two, List.append_eq, opT_makeFunc, opT_fieldAddr, opT_build, partsO_nil, partsO_cons, faddr_ptr, faddr_rptr, cells_agg, push_last, Nat.add_zero, opT_box, opT_alloc, ints_get, post_norm, post_exit, post_ret, Int.toNat_natCast, Bool.false_eq_true, Int.reduceEq, Int.reduceLT, Int.reduceLE, Int.reduceNeg, not_false_eq_true, and_self, map_nothing, bind_nothing, Int.natCast_one, Int.cast_ofNat_Int, not_true_eq_false, decide_true, decide_false, true_implies, false_implies, Int.toNat_zero, List.length_cons, List.length_nil, Nat.zero_add, mb, Nat.reduceBEq, Bool.false_and, Bool.and_false, cells_int, tys, stb, GK_nil, GK_op, GKS_some, GKS_none, GKS_ite, GKS_nite, Bool.or_false, Bool.false_or, Bool.true_and, Bool.or_true, Bool.true_or, t0, t1, t6, hin', hlen, rheight_ok n (by omega) (by omega), shl_small (hgt n) (by omega) 2 (.inr rfl), e4, hs, hpv]
        have hn : n = ((n.toNat : Nat) : Int) := by omega
        have hrc := fun (i : Nat) (hi : (i : Int) ≤ n) => rcover_ok n (by omega) (by omega) i hi
        have hn1 : 1 ≤ n := by omega
        have hn2 : n ≤ 128 := by omega
        have hzl : zs.length = 2 * 2 ^ hgt n - 1 := by omega
        clear hpv e4 hs hc hin' hb hin hj hm hi t6 hv hlen
        generalize hgt n = h at *
        refine loop_rule (fun m T D σ => D = [] ∧ T 0 = rowI zs ∧ T 1 = .int .i64 n ∧ ∃ i u, T 10 = .int .i64 ((i + 1 : Nat) : Int) ∧ (i : Int) ≤ n ∧ m = n.toNat - i ∧ T 9 = u ∧ Grow σ.toks u ((sums h zs i).map (V.int .i64)) ∧ σ.heap = []) ?_ _ _ _ _ ⟨rfl, t0, t1, 0, .nilsl, rfl, by omega, rfl, rfl, .nil, rfl⟩
        clear t0 t1
        rintro m T D ⟨hp0, ts⟩ ⟨rfl, t0, t1, i, u, t10, hi, hm, t9, g, he⟩
        simp only at g he
        subst he
        refine G_start ?_
        by_cases hin : ((i + 1 : Nat) : Int) ≤ n
        · have hcne := cov_ne h 0 0 (i + 1) (by omega)
          have hcl := cov_len2 h 0 0 (i + 1)
          have hrow : rowN (cov h 0 0 (i + 1)) = rowI (cov h 0 0 (i + 1)) := by simp [rowN, hcne]
          have hclt := cov_lt h 0 0 (i + 1)
          simp only [G_seq, G_block, G_skip_code, G_skip_blk, G_skip_nil, G_exit_code, G_exit_blk, G_exit_nil, G_ret_code, G_ret_blk, G_ret_nil, G_cond, G_cond_const, G_loop, G_region, G_draw, GL_nil, GL_op, GL_none, GL_guard, GS_some, GS_ite, GS_nite, GN_some, GN_ite, GN_nite, GB_true, GB_false, GB_dec, GG_true_true, GG_true_false, GG_false_true, GG_false_false, GG_true_dec, GG_false_dec, opT_move, opT_assign, opT_pick, pickO_true, pickO_false, opT_binOp, binO_some, opT_unOp, opT_extract, extrO_tup, opT_indexAddr, idxO_slice, opT_load, opT_call, opT_len, opT_append, opT_convert, convO_int, callV_func, evalT, upd_at, Nat.reduceLT, Nat.reduceEqDiff, if_true, if_false, reduceIte, true_and, map_mk, bind_mk, map_ite', map_nite, bind_ite', bind_nite, vBin_add, vBin_sub, vBin_mul, vBin_eql, vBin_neq, vBin_lss, vBin_leq, vBin_gtr, vBin_geq, vBin_rem, vBin_quo, vBin_beql, vBin_bneq, vUn_not, vUn_true, vUn_false, index_row, len_row, len_nilsl, listO_nil, listO_cons, ofVal, ofCell, argT, List.getD_cons_zero, List.getD_cons_succ, List.getElem?_toArray, List.getElem?_cons_zero, List.getElem?_cons_succ, List.nil_append, List.cons_append, List.append_nil, resT, wpR_nil, V1_some, Nat.mul_one, load_row, load_ptr, cellAt_some, opT_store, store_ptr, storeAt_some, cells_row, isCell_row, cells_nilsl, push_mk, set_mk, setT, vUn_neg, opT_max, opT_min, max_two, min_two, List.append_eq, opT_makeFunc, opT_fieldAddr, opT_build, partsO_nil, partsO_cons, faddr_ptr, faddr_rptr, cells_agg, push_last, Nat.add_zero, opT_box, opT_alloc, ints_get, post_norm, post_exit, post_ret, Int.toNat_natCast, Bool.false_eq_true, Int.reduceEq, Int.reduceLT, Int.reduceLE, Int.reduceNeg, not_false_eq_true, and_self, map_nothing, bind_nothing, Int.natCast_one, Int.cast_ofNat_Int, not_true_eq_false, decide_true, decide_false, true_implies, false_implies, Int.toNat_zero, List.length_cons, List.length_nil, Nat.zero_add, mb, Nat.reduceBEq, Bool.false_and, Bool.and_false, cells_int, tys, stb, GK_nil, GK_op, GKS_some, GKS_none, GKS_ite, GKS_nite, Bool.or_false, Bool.false_or, Bool.true_and, Bool.or_true, Bool.true_or, t0, t1, t10, t9, hin, hrc (i + 1) hin, hrow]
          have hsn := sums_snoc h zs i
          generalize cov h 0 0 (i + 1) = l at *
          refine loop_rule (fun m T D σ => D = [] ∧ T 0 = rowI zs ∧ T 1 = .int .i64 n ∧ T 10 = .int .i64 ((i + 1 : Nat) : Int) ∧ T 9 = u ∧ T 11 = rowI l ∧ σ = ⟨[], ts⟩ ∧ ∃ k : Nat, T 14 = .int .i64 k ∧ k ≤ l.length ∧ m = l.length - k ∧ T 13 = .int .i64 (wsum zs (l.take k))) ?_ _ _ _ _ ⟨rfl, t0, t1, t10, t9, rfl, rfl, 0, rfl, by omega, rfl, rfl⟩
          clear t0 t1 t10 t9
          rintro m2 T D σ ⟨rfl, t0, t1, t10, t9, t11, rfl, k, t14, hk, hm2, t13⟩
          refine G_start ?_
          by_cases hkl : (k : Int) < (l.length : Int)
          · have hkl2 : k < l.length := by omega
            have e5 : IntKind.i64.wrap ((k : Int) + 1) = ((k + 1 : Nat) : Int) := by rw [wrap_i64 (by omega) (by omega)]; omega
            have hx : l.getD k 0 ∈ l := by simp [List.getD, hkl2]
            obtain ⟨c, hc1, hc2⟩ := hclt _ hx
            have hcz : c < zs.length := by omega
            have hwt := wsum_take zs l k hkl2
            rw [hc1, Int.toNat_natCast] at hwt
            simp only [G_seq, G_block, G_skip_code, G_skip_blk, G_skip_nil, G_exit_code, G_exit_blk, G_exit_nil, G_ret_code, G_ret_blk, G_ret_nil, G_cond, G_cond_const, G_loop, G_region, G_draw, GL_nil, GL_op, GL_none, GL_guard, GS_some, GS_ite, GS_nite, GN_some, GN_ite, GN_nite, GB_true, GB_false, GB_dec, GG_true_true, GG_true_false, GG_false_true, GG_false_false, GG_true_dec, GG_false_dec, opT_move, opT_assign, opT_pick, pickO_true, pickO_false, opT_binOp, binO_some, opT_unOp, opT_extract, extrO_tup, opT_indexAddr, idxO_slice, opT_load, opT_call, opT_len, opT_append, opT_convert, convO_int, callV_func, evalT, upd_at, Nat.reduceLT, Nat.reduceEqDiff, if_true, if_false, reduceIte, true_and, map_mk, bind_mk, map_ite', map_nite, bind_ite', bind_nite, vBin_add, vBin_sub, vBin_mul, vBin_eql, vBin_neq, vBin_lss, vBin_leq, vBin_gtr, vBin_geq, vBin_rem, vBin_quo, vBin_beql, vBin_bneq, vUn_not, vUn_true, vUn_false, index_row, len_row, len_nilsl, listO_nil, listO_cons, ofVal, ofCell, argT, List.getD_cons_zero, List.getD_cons_succ, List.getElem?_toArray, List.getElem?_cons_zero, List.getElem?_cons_succ, List.nil_append, List.cons_append, List.append_nil, resT, wpR_nil, V1_some, Nat.mul_one, load_row, load_ptr, cellAt_some, opT_store, store_ptr, storeAt_some, cells_row, isCell_row, cells_nilsl, push_mk, set_mk, setT, vUn_neg, opT_max, opT_min, max_two, min_two, List.append_eq, opT_makeFunc, opT_fieldAddr, opT_build, partsO_nil, partsO_cons, faddr_ptr, faddr_rptr, cells_agg, push_last, Nat.add_zero, opT_box, opT_alloc, ints_get, post_norm, post_exit, post_ret, Int.toNat_natCast, Bool.false_eq_true, Int.reduceEq, Int.reduceLT, Int.reduceLE, Int.reduceNeg, not_false_eq_true, and_self, map_nothing, bind_nothing, Int.natCast_one, Int.cast_ofNat_Int, not_true_eq_false, decide_true, decide_false, true_implies, false_implies, Int.toNat_zero, List.length_cons, List.length_nil, Nat.zero_add, mb, Nat.reduceBEq, Bool.false_and, Bool.and_false, cells_int, tys, stb, GK_nil, GK_op, GKS_some, GKS_none, GKS_ite, GKS_nite, Bool.or_false, Bool.false_or, Bool.true_and, Bool.or_true, Bool.true_or, t0, t1, t10, t9, t11, t13, t14, hkl, hkl2, hc1, hcz, e5, ← hwt]
            refine ⟨⟨by omega, trivial⟩, ⟨by omega, by omega⟩, ?_⟩
            exact ⟨l.length - (k + 1), by omega, k + 1, rfl, by omega, rfl, rfl⟩
          · have hkeq : k = l.length := by omega
            subst hkeq
            rw [List.take_length] at t13
            obtain ⟨tk, te, ts', happ, htk⟩ := Grow.append one22 (hp := []) g (new := [wsum zs l].map (V.int .i64)) (c := .full) (by simp) (ints_cells _) (by simp [lim]; omega) (by simp [lim]; omega)
            rw [ints_app, ← hsn] at happ
            simp only [List.map_cons, List.map_nil, List.length_cons, List.length_nil, Nat.zero_add] at happ
            have e6 : IntKind.i64.wrap (((i + 1 : Nat) : Int) + 1) = ((i + 1 + 1 : Nat) : Int) := by rw [wrap_i64 (by omega) (by omega)]; omega
            simp only [G_seq, G_block, G_skip_code, G_skip_blk, G_skip_nil, G_exit_code, G_exit_blk, G_exit_nil, G_ret_code, G_ret_blk, G_ret_nil, G_cond, G_cond_const, G_loop, G_region, G_draw, GL_nil, GL_op, GL_none, GL_guard, GS_some, GS_ite, GS_nite, GN_some, GN_ite, GN_nite, GB_true, GB_false, GB_dec, GG_true_true, GG_true_false, GG_false_true, GG_false_false, GG_true_dec, GG_false_dec, opT_move, opT_assign, opT_pick, pickO_true, pickO_false, opT_binOp, binO_some, opT_unOp, opT_extract, extrO_tup, opT_indexAddr, idxO_slice, opT_load, opT_call, opT_len, opT_append, opT_convert, convO_int, callV_func, evalT, upd_at, Nat.reduceLT, Nat.reduceEqDiff, if_true, if_false, reduceIte, true_and, map_mk, bind_mk, map_ite', map_nite, bind_ite', bind_nite, vBin_add, vBin_sub, vBin_mul, vBin_eql, vBin_neq, vBin_lss, vBin_leq, vBin_gtr, vBin_geq, vBin_rem, vBin_quo, vBin_beql, vBin_bneq, vUn_not, vUn_true, vUn_false, index_row, len_row, len_nilsl, listO_nil, listO_cons, ofVal, ofCell, argT, List.getD_cons_zero, List.getD_cons_succ, List.getElem?_toArray, List.getElem?_cons_zero, List.getElem?_cons_succ, List.nil_append, List.cons_append, List.append_nil, resT, wpR_nil, V1_some, Nat.mul_one, load_row, load_ptr, cellAt_some, opT_store, store_ptr, storeAt_some, cells_row, isCell_row, cells_nilsl, push_mk, set_mk, setT, vUn_neg, opT_max, opT_min, max_two, min_two, List.append_eq, opT_makeFunc, opT_fieldAddr, opT_build, partsO_nil, partsO_cons, faddr_ptr, faddr_rptr, cells_agg, push_last, Nat.add_zero, opT_box, opT_alloc, ints_get, post_norm, post_exit, post_ret, Int.toNat_natCast, Bool.false_eq_true, Int.reduceEq, Int.reduceLT, Int.reduceLE, Int.reduceNeg, not_false_eq_true, and_self, map_nothing, bind_nothing, Int.natCast_one, Int.cast_ofNat_Int, not_true_eq_false, decide_true, decide_false, true_implies, false_implies, Int.toNat_zero, List.length_cons, List.length_nil, Nat.zero_add, mb, Nat.reduceBEq, Bool.false_and, Bool.and_false, cells_int, tys, stb, GK_nil, GK_op, GKS_some, GKS_none, GKS_ite, GKS_nite, Bool.or_false, Bool.false_or, Bool.true_and, Bool.or_true, Bool.true_or, t0, t1, t10, t9, t11, t13, t14, hkl, bs1, happ, e6]
            exact ⟨n.toNat - (i + 1), by omega, i + 1, _, rfl, by omega, rfl, rfl, .tok _ tk te htk, trivial⟩
        · have hie : i = n.toNat := by omega
          have hne : sums h zs n.toNat ≠ [] := fun e => by have := congrArg List.length e; simp at this; omega
          rw [hie] at g
          simp only [G_seq, G_block, G_skip_code, G_skip_blk, G_skip_nil, G_exit_code, G_exit_blk, G_exit_nil, G_ret_code, G_ret_blk, G_ret_nil, G_cond, G_cond_const, G_loop, G_region, G_draw, GL_nil, GL_op, GL_none, GL_guard, GS_some, GS_ite, GS_nite, GN_some, GN_ite, GN_nite, GB_true, GB_false, GB_dec, GG_true_true, GG_true_false, GG_false_true, GG_false_false, GG_true_dec, GG_false_dec, opT_move, opT_assign, opT_pick, pickO_true, pickO_false, opT_binOp, binO_some, opT_unOp, opT_extract, extrO_tup, opT_indexAddr, idxO_slice, opT_load, opT_call, opT_len, opT_append, opT_convert, convO_int, callV_func, evalT, upd_at, Nat.reduceLT, Nat.reduceEqDiff, if_true, if_false, reduceIte, true_and, map_mk, bind_mk, map_ite', map_nite, bind_ite', bind_nite, vBin_add, vBin_sub, vBin_mul, vBin_eql, vBin_neq, vBin_lss, vBin_leq, vBin_gtr, vBin_geq, vBin_rem, vBin_quo, vBin_beql, vBin_bneq, vUn_not, vUn_true, vUn_false, index_row, len_row, len_nilsl, listO_nil, listO_cons, ofVal, ofCell, argT, List.getD_cons_zero, List.getD_cons_succ, List.getElem?_toArray, List.getElem?_cons_zero, List.getElem?_cons_succ, List.nil_append, List.cons_append, List.append_nil, resT, wpR_nil, V1_some, Nat.mul_one, load_row, load_ptr, cellAt_some, opT_store, store_ptr, storeAt_some, cells_row, isCell_row, cells_nilsl, push_mk, set_mk, setT, vUn_neg, opT_max, opT_min, max_two, min_two, List.append_eq, opT_makeFunc, opT_fieldAddr, opT_build, partsO_nil, partsO_cons, faddr_ptr, faddr_rptr, cells_agg, push_last, Nat.add_zero, opT_box, opT_alloc, ints_get, post_norm, post_exit, post_ret, Int.toNat_natCast, Bool.false_eq_true, Int.reduceEq, Int.reduceLT, Int.reduceLE, Int.reduceNeg, not_false_eq_true, and_self, map_nothing, bind_nothing, Int.natCast_one, Int.cast_ofNat_Int, not_true_eq_false, decide_true, decide_false, true_implies, false_implies, Int.toNat_zero, List.length_cons, List.length_nil, Nat.zero_add, mb, Nat.reduceBEq, Bool.false_and, Bool.and_false, cells_int, tys, stb, GK_nil, GK_op, GKS_some, GKS_none, GKS_ite, GKS_nite, Bool.or_false, Bool.false_or, Bool.true_and, Bool.or_true, Bool.true_or, t0, t1, t10, t9, hin]
          exact seal_grow2 g hne _ _
      · have hpv : prefV zs n = .tup [.nilsl, .int .i64 16] := by unfold prefV; rw [if_neg (by simp [hw]; omega), if_pos (by omega)]
        simp only [G_seq, G_block, G_skip_code, G_skip_blk, G_skip_nil, G_exit_code, G_exit_blk, G_exit_nil, G_ret_code, G_ret_blk, G_ret_nil, G_cond, G_cond_const, G_loop, G_region, G_draw, GL_nil, GL_op, GL_none, GL_guard, GS_some, GS_ite, GS_nite, GN_some, GN_ite, GN_nite, GB_true, GB_false, GB_dec, GG_true_true, GG_true_false, GG_false_true, GG_false_false, GG_true_dec, GG_false_dec, opT_move, opT_assign, opT_pick, pickO_true, pickO_false, opT_binOp, binO_some, opT_unOp, opT_extract, extrO_tup, opT_indexAddr, idxO_slice, opT_load, opT_call, opT_len, opT_append, opT_convert, convO_int, callV_func, evalT, upd_at, Nat.reduceLT, Nat.reduceEqDiff, if_true, if_false, reduceIte, true_and, map_mk, bind_mk, map_ite', map_nite, bind_ite', bind_nite, vBin_add, vBin_sub, vBin_mul, vBin_eql, vBin_neq, vBin_lss, vBin_leq, vBin_gtr, vBin_geq, vBin_rem, vBin_quo, vBin_beql, vBin_bneq, vUn_not, vUn_true, vUn_false, index_row, len_row, len_nilsl, listO_nil, listO_cons, ofVal, ofCell, argT, List.getD_cons_zero, List.getD_cons_succ, List.getElem?_toArray, List.getElem?_cons_zero, List.getElem?_cons_succ, List.nil_append, List.cons_append, List.append_nil, resT, wpR_nil, V1_some, Nat.mul_one, load_row, load_ptr, cellAt_some, opT_store, store_ptr, storeAt_some, cells_row, isCell_row, cells_nilsl, push_mk, set_mk, setT, vUn_neg, opT_max, opT_min, max_two, min_two, List.append_eq, opT_makeFunc, opT_fieldAddr, opT_build, partsO_nil, partsO_cons, faddr_ptr, faddr_rptr, cells_agg, push_last, Nat.add_zero, opT_box, opT_alloc, ints_get, post_norm, post_exit, post_ret, Int.toNat_natCast, Bool.false_eq_true, Int.reduceEq, Int.reduceLT, Int.reduceLE, Int.reduceNeg, not_false_eq_true, and_self, map_nothing, bind_nothing, Int.natCast_one, Int.cast_ofNat_Int, not_true_eq_false, decide_true, decide_false, true_implies, false_implies, Int.toNat_zero, List.length_cons, List.length_nil, Nat.zero_add, mb, Nat.reduceBEq, Bool.false_and, Bool.and_false, cells_int, tys, stb, GK_nil, GK_op, GKS_some, GKS_none, GKS_ite, GKS_nite, Bool.or_false, Bool.false_or, Bool.true_and, Bool.or_true, Bool.true_or, t0, t1, t6, hin, hlen, rheight_ok n (by omega) (by omega), shl_small (hgt n) (by omega) 2 (.inr rfl), e4, hs, hpv]
        rfl
end Go.Proofs.Ytkomkiejakcilaa
