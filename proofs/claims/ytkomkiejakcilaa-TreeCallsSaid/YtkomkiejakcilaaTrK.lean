/- Proved here: what the law TreeCalls comes to. Conditions: those of each theorem; no statement of the seat is proved in this text. -/
import Derived.Test.YtkomkiejakcilaaTrE
namespace Go.Proofs.Ytkomkiejakcilaa
open Go.Ab
set_option maxRecDepth 100000
set_option linter.unusedSimpArgs false
set_option linter.unusedVariables false
theorem at20 : env.P.funcs[20]? = some Try.f20 := by kernel_rfl

theorem list_ext0 {a b : List Int} (hl : a.length = b.length) (h : ∀ k, k < a.length → a.getD k 0 = b.getD k 0) : a = b := by
  apply List.ext_getElem hl
  intro j h1 h2
  have := h j h1
  simpa [List.getD, h1, h2] using this

theorem seal_out0 (cs : List AObj) (zs : List Int) (hb : cs[0]? = some (.cells (zs.map (V.int .i64)) 3)) (x : Int) : sealV cs 12 (.tup [.hsl 0 0 zs.length zs.length true, .int .i64 x]) = some (.tup [rowI zs, .int .i64 x]) := by
  have h1 : sealV cs 11 (.hsl 0 0 zs.length zs.length true) = some (rowI zs) := by
    rw [sealV_hsl cs 10 0 0 zs.length zs.length true _ _ hb (Nat.le_refl _), List.drop_zero, mapM_seal_ints]
    rfl
  rw [sealV_tup, mapM_seal_cons, h1, mapM_seal_cons, sealV_int, mapM_seal_nil]
  rfl
theorem getD_rep0 (n k : Nat) : (List.replicate n (0 : Int)).getD k 0 = 0 := by
  simp only [List.getD, List.getElem?_replicate]
  split <;> rfl
theorem empty_push (o : AObj) : S.push S.empty o = ⟨[o], []⟩ := rfl

set_option maxHeartbeats 4000000 in
theorem rnodes_call {v : V} {zs : List Int} (hv : InI v zs) (hl : zs.length ≤ 2 ^ 20) (σ : S) : callFn env (ev env) 20 [v] σ = some (nodesV zs, σ) := by
  refine callFn_pure rfl rfl (by simp [hv.closed]) at20 rfl (by simp [Try.f20]) (by simp [Try.f20]) (G_start ?_) σ
  have hlen := hv.len 3
  by_cases h0 : zs.length = 0
  · have e : nodesV zs = .tup [.nilsl, .int .i64 2] := by simp only [nodesV, h0, if_true]
    have c : ((zs.length : Nat) : Int) = 0 := by omega
    simp only [Try.f20, G_seq, G_block, G_skip_code, G_skip_blk, G_skip_nil, G_exit_code, G_exit_blk, G_exit_nil, G_ret_code, G_ret_blk, G_ret_nil, G_cond, G_cond_const, G_loop, G_region, G_draw, GL_nil, GL_op, GL_none, GL_guard, GS_some, GS_ite, GS_nite, GN_some, GN_ite, GN_nite, GB_true, GB_false, GB_dec, GG_true_true, GG_true_false, GG_false_true, GG_false_false, GG_true_dec, GG_false_dec, opT_move, opT_assign, opT_pick, pickO_true, pickO_false, opT_binOp, binO_some, opT_unOp, opT_extract, extrO_tup, opT_indexAddr, idxO_slice, opT_load, opT_call, opT_len, opT_append, opT_convert, convO_int, callV_func, evalT, upd_at, Nat.reduceLT, Nat.reduceEqDiff, if_true, if_false, reduceIte, true_and, map_mk, bind_mk, map_ite', map_nite, bind_ite', bind_nite, vBin_add, vBin_sub, vBin_mul, vBin_eql, vBin_neq, vBin_lss, vBin_leq, vBin_gtr, vBin_geq, vBin_rem, vBin_quo, vBin_beql, vBin_bneq, vUn_not, vUn_true, vUn_false, index_row, len_row, len_nilsl, listO_nil, listO_cons, ofVal, ofCell, argT, List.getD_cons_zero, List.getD_cons_succ, List.getElem?_toArray, List.getElem?_cons_zero, List.getElem?_cons_succ, List.nil_append, List.cons_append, List.append_nil, resT, wpR_nil, V1_some, Nat.mul_one, load_row, load_ptr, cellAt_some, opT_store, store_ptr, storeAt_some, cells_row, isCell_row, cells_nilsl, push_mk, set_mk, setT, vUn_neg, opT_max, opT_min, max_two, min_two, List.append_eq, opT_makeFunc, opT_fieldAddr, opT_build, partsO_nil, partsO_cons, faddr_ptr, faddr_rptr, cells_agg, push_last, Nat.add_zero, opT_box, opT_alloc, ints_get, post_norm, post_exit, post_ret, Int.toNat_natCast, Bool.false_eq_true, Int.reduceEq, Int.reduceLT, Int.reduceLE, Int.reduceNeg, not_false_eq_true, and_self, map_nothing, bind_nothing, Int.natCast_one, Int.cast_ofNat_Int, not_true_eq_false, decide_true, decide_false, true_implies, false_implies, Int.toNat_zero, List.length_cons, List.length_nil, Nat.zero_add, mb, Nat.reduceBEq, Bool.false_and, Bool.and_false, cells_int, tys, stb, GK_nil, GK_op, GKS_some, GKS_none, GKS_ite, GKS_nite, Bool.or_false, Bool.false_or, Bool.true_and, Bool.or_true, Bool.true_or, hlen, c, e]
    rfl
  have c0 : ¬ ((zs.length : Nat) : Int) = 0 := by omega
  have hvr : v = rowI zs := by
    rcases hv with h | ⟨_, h⟩
    · exact h
    · rw [h] at h0; simp at h0
  subst hvr
  by_cases h1 : 128 < zs.length
  · have e : nodesV zs = .tup [.nilsl, .int .i64 4] := by simp only [nodesV, h0, if_false, h1, if_true]
    have c : 128 < ((zs.length : Nat) : Int) := by omega
    simp only [Try.f20, G_seq, G_block, G_skip_code, G_skip_blk, G_skip_nil, G_exit_code, G_exit_blk, G_exit_nil, G_ret_code, G_ret_blk, G_ret_nil, G_cond, G_cond_const, G_loop, G_region, G_draw, GL_nil, GL_op, GL_none, GL_guard, GS_some, GS_ite, GS_nite, GN_some, GN_ite, GN_nite, GB_true, GB_false, GB_dec, GG_true_true, GG_true_false, GG_false_true, GG_false_false, GG_true_dec, GG_false_dec, opT_move, opT_assign, opT_pick, pickO_true, pickO_false, opT_binOp, binO_some, opT_unOp, opT_extract, extrO_tup, opT_indexAddr, idxO_slice, opT_load, opT_call, opT_len, opT_append, opT_convert, convO_int, callV_func, evalT, upd_at, Nat.reduceLT, Nat.reduceEqDiff, if_true, if_false, reduceIte, true_and, map_mk, bind_mk, map_ite', map_nite, bind_ite', bind_nite, vBin_add, vBin_sub, vBin_mul, vBin_eql, vBin_neq, vBin_lss, vBin_leq, vBin_gtr, vBin_geq, vBin_rem, vBin_quo, vBin_beql, vBin_bneq, vUn_not, vUn_true, vUn_false, index_row, len_row, len_nilsl, listO_nil, listO_cons, ofVal, ofCell, argT, List.getD_cons_zero, List.getD_cons_succ, List.getElem?_toArray, List.getElem?_cons_zero, List.getElem?_cons_succ, List.nil_append, List.cons_append, List.append_nil, resT, wpR_nil, V1_some, Nat.mul_one, load_row, load_ptr, cellAt_some, opT_store, store_ptr, storeAt_some, cells_row, isCell_row, cells_nilsl, push_mk, set_mk, setT, vUn_neg, opT_max, opT_min, max_two, min_two, List.append_eq, opT_makeFunc, opT_fieldAddr, opT_build, partsO_nil, partsO_cons, faddr_ptr, faddr_rptr, cells_agg, push_last, Nat.add_zero, opT_box, opT_alloc, ints_get, post_norm, post_exit, post_ret, Int.toNat_natCast, Bool.false_eq_true, Int.reduceEq, Int.reduceLT, Int.reduceLE, Int.reduceNeg, not_false_eq_true, and_self, map_nothing, bind_nothing, Int.natCast_one, Int.cast_ofNat_Int, not_true_eq_false, decide_true, decide_false, true_implies, false_implies, Int.toNat_zero, List.length_cons, List.length_nil, Nat.zero_add, mb, Nat.reduceBEq, Bool.false_and, Bool.and_false, cells_int, tys, stb, GK_nil, GK_op, GKS_some, GKS_none, GKS_ite, GKS_nite, Bool.or_false, Bool.false_or, Bool.true_and, Bool.or_true, Bool.true_or, c0, c, e]
    rfl
  have c1 : ¬ 128 < ((zs.length : Nat) : Int) := by omega
  have hbad : ¬ Within zs 1125899906842624 → nodesV zs = .tup [.nilsl, .int .i64 2] := fun hw => by simp only [nodesV, h0, if_false, h1, hw]
  have hgood : Within zs 1125899906842624 → nodesV zs = .tup [rowI (nodesL (hgt zs.length) zs), .int .i64 0] := fun hw => by simp only [nodesV, h0, if_false, h1, hw, if_true]
  have hh := hgt_le zs.length
  have hpw := hgt_pow zs.length (by omega) (by omega)
  have hrh := rheight_ok zs.length (by omega) (by omega)
  have hcast := pow_cast (hgt zs.length)
  simp only [Try.f20, G_seq, G_block, G_skip_code, G_skip_blk, G_skip_nil, G_exit_code, G_exit_blk, G_exit_nil, G_ret_code, G_ret_blk, G_ret_nil, G_cond, G_cond_const, G_loop, G_region, G_draw, GL_nil, GL_op, GL_none, GL_guard, GS_some, GS_ite, GS_nite, GN_some, GN_ite, GN_nite, GB_true, GB_false, GB_dec, GG_true_true, GG_true_false, GG_false_true, GG_false_false, GG_true_dec, GG_false_dec, opT_move, opT_assign, opT_pick, pickO_true, pickO_false, opT_binOp, binO_some, opT_unOp, opT_extract, extrO_tup, opT_indexAddr, idxO_slice, opT_load, opT_call, opT_len, opT_append, opT_convert, convO_int, callV_func, evalT, upd_at, Nat.reduceLT, Nat.reduceEqDiff, if_true, if_false, reduceIte, true_and, map_mk, bind_mk, map_ite', map_nite, bind_ite', bind_nite, vBin_add, vBin_sub, vBin_mul, vBin_eql, vBin_neq, vBin_lss, vBin_leq, vBin_gtr, vBin_geq, vBin_rem, vBin_quo, vBin_beql, vBin_bneq, vUn_not, vUn_true, vUn_false, index_row, len_row, len_nilsl, listO_nil, listO_cons, ofVal, ofCell, argT, List.getD_cons_zero, List.getD_cons_succ, List.getElem?_toArray, List.getElem?_cons_zero, List.getElem?_cons_succ, List.nil_append, List.cons_append, List.append_nil, resT, wpR_nil, V1_some, Nat.mul_one, load_row, load_ptr, cellAt_some, opT_store, store_ptr, storeAt_some, cells_row, isCell_row, cells_nilsl, push_mk, set_mk, setT, vUn_neg, opT_max, opT_min, max_two, min_two, List.append_eq, opT_makeFunc, opT_fieldAddr, opT_build, partsO_nil, partsO_cons, faddr_ptr, faddr_rptr, cells_agg, push_last, Nat.add_zero, opT_box, opT_alloc, ints_get, post_norm, post_exit, post_ret, Int.toNat_natCast, Bool.false_eq_true, Int.reduceEq, Int.reduceLT, Int.reduceLE, Int.reduceNeg, not_false_eq_true, and_self, map_nothing, bind_nothing, Int.natCast_one, Int.cast_ofNat_Int, not_true_eq_false, decide_true, decide_false, true_implies, false_implies, Int.toNat_zero, List.length_cons, List.length_nil, Nat.zero_add, mb, Nat.reduceBEq, Bool.false_and, Bool.and_false, cells_int, tys, stb, GK_nil, GK_op, GKS_some, GKS_none, GKS_ite, GKS_nite, Bool.or_false, Bool.false_or, Bool.true_and, Bool.or_true, Bool.true_or, c0, c1]
  refine loop_rule (fun m T D σ => D = [] ∧ σ = S.empty ∧ T 0 = rowI zs ∧ ∃ i : Nat, T 4 = .int .i64 i ∧ i ≤ zs.length ∧ m = zs.length - i ∧ (∀ j : Nat, j < i → -1125899906842624 ≤ zs.getD j 0 ∧ zs.getD j 0 ≤ 1125899906842624)) ?_ _ _ _ _ ⟨rfl, rfl, rfl, 0, rfl, by omega, rfl, fun j h => by omega⟩
  rintro m T D σ ⟨rfl, rfl, t0, i, t4, hi, hm, hj⟩
  refine G_start ?_
  by_cases hin : (i : Int) < (zs.length : Int)
  · have hlt : i < zs.length := by omega
    have e3 : IntKind.i64.wrap ((i : Int) + 1) = ((i + 1 : Nat) : Int) := by rw [wrap_i64 (by omega) (by omega)]; omega
    simp only [G_seq, G_block, G_skip_code, G_skip_blk, G_skip_nil, G_exit_code, G_exit_blk, G_exit_nil, G_ret_code, G_ret_blk, G_ret_nil, G_cond, G_cond_const, G_loop, G_region, G_draw, GL_nil, GL_op, GL_none, GL_guard, GS_some, GS_ite, GS_nite, GN_some, GN_ite, GN_nite, GB_true, GB_false, GB_dec, GG_true_true, GG_true_false, GG_false_true, GG_false_false, GG_true_dec, GG_false_dec, opT_move, opT_assign, opT_pick, pickO_true, pickO_false, opT_binOp, binO_some, opT_unOp, opT_extract, extrO_tup, opT_indexAddr, idxO_slice, opT_load, opT_call, opT_len, opT_append, opT_convert, convO_int, callV_func, evalT, upd_at, Nat.reduceLT, Nat.reduceEqDiff, if_true, if_false, reduceIte, true_and, map_mk, bind_mk, map_ite', map_nite, bind_ite', bind_nite, vBin_add, vBin_sub, vBin_mul, vBin_eql, vBin_neq, vBin_lss, vBin_leq, vBin_gtr, vBin_geq, vBin_rem, vBin_quo, vBin_beql, vBin_bneq, vUn_not, vUn_true, vUn_false, index_row, len_row, len_nilsl, listO_nil, listO_cons, ofVal, ofCell, argT, List.getD_cons_zero, List.getD_cons_succ, List.getElem?_toArray, List.getElem?_cons_zero, List.getElem?_cons_succ, List.nil_append, List.cons_append, List.append_nil, resT, wpR_nil, V1_some, Nat.mul_one, load_row, load_ptr, cellAt_some, opT_store, store_ptr, storeAt_some, cells_row, isCell_row, cells_nilsl, push_mk, set_mk, setT, vUn_neg, opT_max, opT_min, max_two, min_two, List.append_eq, opT_makeFunc, opT_fieldAddr, opT_build, partsO_nil, partsO_cons, faddr_ptr, faddr_rptr, cells_agg, push_last, Nat.add_zero, opT_box, opT_alloc, ints_get, post_norm, post_exit, post_ret, Int.toNat_natCast, Bool.false_eq_true, Int.reduceEq, Int.reduceLT, Int.reduceLE, Int.reduceNeg, not_false_eq_true, and_self, map_nothing, bind_nothing, Int.natCast_one, Int.cast_ofNat_Int, not_true_eq_false, decide_true, decide_false, true_implies, false_implies, Int.toNat_zero, List.length_cons, List.length_nil, Nat.zero_add, mb, Nat.reduceBEq, Bool.false_and, Bool.and_false, cells_int, tys, stb, GK_nil, GK_op, GKS_some, GKS_none, GKS_ite, GKS_nite, Bool.or_false, Bool.false_or, Bool.true_and, Bool.or_true, Bool.true_or, t0, t4, hin, e3, hlt]
    refine ⟨⟨by omega, trivial⟩, fun hlo => ?_, fun hlo => ⟨⟨by omega, trivial⟩, fun hhi => ?_, fun hhi => ?_⟩⟩
    · rw [hbad fun hw => by have := (within_iff _ _).1 hw i hlt; omega]; rfl
    · rw [hbad fun hw => by have := (within_iff _ _).1 hw i hlt; omega]; rfl
    · refine ⟨zs.length - (i + 1), by omega, i + 1, rfl, by omega, rfl, fun j h => ?_⟩
      rcases Nat.lt_or_ge j i with h2 | h2
      · exact hj j h2
      · have : j = i := by omega
        subst this; omega
  · have hw : Within zs 1125899906842624 := (within_iff _ _).2 fun j h => hj j (by omega)
    rw [hgood hw]
    clear hbad hgood hj
    have hval := fun {d k a : Nat} (l : Lv (hgt zs.length) d k a) => nodes_val (hgt zs.length) hh zs (by omega) hw l
    have hnl := nodesL_len (hgt zs.length) zs (by omega)
    generalize hgt zs.length = h at *
    have hp := pow_le h hh
    have e2 : 2 ^ (h + 1) = 2 * 2 ^ h := by rw [Nat.pow_succ]; omega
    have e4 : IntKind.i64.wrap (2 * 2 ^ h - 1) = ((2 ^ (h + 1) - 1 : Nat) : Int) := by rw [wrap_i64 (by omega) (by omega)]; omega
    have hmk := fun σ => (make_one (E := env) (σ := σ) one22 zv3' rfl (2 ^ (h + 1) - 1) (by omega) (by omega)).resolve_right (by omega)
    have hf : ∀ j, -(2 ^ 51) ≤ zs.getD j 0 ∧ zs.getD j 0 ≤ 2 ^ 51 := fun j => by
      by_cases hj : j < zs.length
      · have := (within_iff _ _).1 hw j hj; omega
      · simp [List.getD, List.getElem?_eq_none (Nat.le_of_not_lt hj)]
    simp only [G_seq, G_block, G_skip_code, G_skip_blk, G_skip_nil, G_exit_code, G_exit_blk, G_exit_nil, G_ret_code, G_ret_blk, G_ret_nil, G_cond, G_cond_const, G_loop, G_region, G_draw, GL_nil, GL_op, GL_none, GL_guard, GS_some, GS_ite, GS_nite, GN_some, GN_ite, GN_nite, GB_true, GB_false, GB_dec, GG_true_true, GG_true_false, GG_false_true, GG_false_false, GG_true_dec, GG_false_dec, opT_move, opT_assign, opT_pick, pickO_true, pickO_false, opT_binOp, binO_some, opT_unOp, opT_extract, extrO_tup, opT_indexAddr, idxO_slice, opT_load, opT_call, opT_len, opT_append, opT_convert, convO_int, callV_func, evalT, upd_at, Nat.reduceLT, Nat.reduceEqDiff, if_true, if_false, reduceIte, true_and, map_mk, bind_mk, map_ite', map_nite, bind_ite', bind_nite, vBin_add, vBin_sub, vBin_mul, vBin_eql, vBin_neq, vBin_lss, vBin_leq, vBin_gtr, vBin_geq, vBin_rem, vBin_quo, vBin_beql, vBin_bneq, vUn_not, vUn_true, vUn_false, index_row, len_row, len_nilsl, listO_nil, listO_cons, ofVal, ofCell, argT, List.getD_cons_zero, List.getD_cons_succ, List.getElem?_toArray, List.getElem?_cons_zero, List.getElem?_cons_succ, List.nil_append, List.cons_append, List.append_nil, resT, wpR_nil, V1_some, Nat.mul_one, load_row, load_ptr, cellAt_some, opT_store, store_ptr, storeAt_some, cells_row, isCell_row, cells_nilsl, push_mk, set_mk, setT, vUn_neg, opT_max, opT_min, max_two, min_two, List.append_eq, opT_makeFunc, opT_fieldAddr, opT_build, partsO_nil, partsO_cons, faddr_ptr, faddr_rptr, cells_agg, push_last, Nat.add_zero, opT_box, opT_alloc, ints_get, post_norm, post_exit, post_ret, Int.toNat_natCast, Bool.false_eq_true, Int.reduceEq, Int.reduceLT, Int.reduceLE, Int.reduceNeg, not_false_eq_true, and_self, map_nothing, bind_nothing, Int.natCast_one, Int.cast_ofNat_Int, not_true_eq_false, decide_true, decide_false, true_implies, false_implies, Int.toNat_zero, List.length_cons, List.length_nil, Nat.zero_add, mb, Nat.reduceBEq, Bool.false_and, Bool.and_false, cells_int, tys, stb, GK_nil, GK_op, GKS_some, GKS_none, GKS_ite, GKS_nite, Bool.or_false, Bool.false_or, Bool.true_and, Bool.or_true, Bool.true_or, t0, t4, hin, hrh, shl_small h (by omega) 2 (.inr rfl), e4, opT_makeSlice, hmk, empty_push]
    refine loop_rule (fun m T D σ => D = [] ∧ T 0 = rowI zs ∧ T 5 = .int .i64 h ∧ T 7 = .hsl 0 0 (2 ^ (h + 1) - 1) (2 ^ (h + 1) - 1) true ∧ ∃ (i : Nat) (w : List Int), T 8 = .int .i64 i ∧ i ≤ zs.length ∧ m = zs.length - i ∧ σ = ⟨[.cells (w.map (V.int .i64)) 3], []⟩ ∧
      w.length = 2 ^ (h + 1) - 1 ∧ ∀ j, j < 2 ^ h → w.getD (2 ^ h - 1 + j) 0 = if j < i then zs.getD j 0 else 0) ?_ _ _ _ _ ⟨rfl, t0, rfl, rfl, 0, List.replicate (2 ^ (h + 1) - 1) 0, rfl, by omega, rfl, by simp [S.empty], by simp, fun j hj => by rw [getD_rep0]; simp⟩
    clear t0 t4
    rintro m T D σ ⟨rfl, t0, t5, t7, i, w, t8, hi, hm, rfl, hwl, hwj⟩
    refine G_start ?_
    by_cases hin2 : (i : Int) < (zs.length : Int)
    · have hlt : i < zs.length := by omega
      have e3 : IntKind.i64.wrap ((i : Int) + 1) = ((i + 1 : Nat) : Int) := by rw [wrap_i64 (by omega) (by omega)]; omega
      have e5 : IntKind.i64.wrap (1 * 2 ^ h - 1) = 2 ^ h - 1 := by rw [wrap_i64 (by omega) (by omega)]; omega
      have e6 : IntKind.i64.wrap (2 ^ h - 1 + (i : Int)) = ((2 ^ h - 1 + i : Nat) : Int) := by rw [wrap_i64 (by omega) (by omega)]; omega
      have hms := map_set w (2 ^ h - 1 + i) (zs.getD i 0) (by omega)
      simp only [G_seq, G_block, G_skip_code, G_skip_blk, G_skip_nil, G_exit_code, G_exit_blk, G_exit_nil, G_ret_code, G_ret_blk, G_ret_nil, G_cond, G_cond_const, G_loop, G_region, G_draw, GL_nil, GL_op, GL_none, GL_guard, GS_some, GS_ite, GS_nite, GN_some, GN_ite, GN_nite, GB_true, GB_false, GB_dec, GG_true_true, GG_true_false, GG_false_true, GG_false_false, GG_true_dec, GG_false_dec, opT_move, opT_assign, opT_pick, pickO_true, pickO_false, opT_binOp, binO_some, opT_unOp, opT_extract, extrO_tup, opT_indexAddr, idxO_slice, opT_load, opT_call, opT_len, opT_append, opT_convert, convO_int, callV_func, evalT, upd_at, Nat.reduceLT, Nat.reduceEqDiff, if_true, if_false, reduceIte, true_and, map_mk, bind_mk, map_ite', map_nite, bind_ite', bind_nite, vBin_add, vBin_sub, vBin_mul, vBin_eql, vBin_neq, vBin_lss, vBin_leq, vBin_gtr, vBin_geq, vBin_rem, vBin_quo, vBin_beql, vBin_bneq, vUn_not, vUn_true, vUn_false, index_row, len_row, len_nilsl, listO_nil, listO_cons, ofVal, ofCell, argT, List.getD_cons_zero, List.getD_cons_succ, List.getElem?_toArray, List.getElem?_cons_zero, List.getElem?_cons_succ, List.nil_append, List.cons_append, List.append_nil, resT, wpR_nil, V1_some, Nat.mul_one, load_row, load_ptr, cellAt_some, opT_store, store_ptr, storeAt_some, cells_row, isCell_row, cells_nilsl, push_mk, set_mk, setT, vUn_neg, opT_max, opT_min, max_two, min_two, List.append_eq, opT_makeFunc, opT_fieldAddr, opT_build, partsO_nil, partsO_cons, faddr_ptr, faddr_rptr, cells_agg, push_last, Nat.add_zero, opT_box, opT_alloc, ints_get, post_norm, post_exit, post_ret, Int.toNat_natCast, Bool.false_eq_true, Int.reduceEq, Int.reduceLT, Int.reduceLE, Int.reduceNeg, not_false_eq_true, and_self, map_nothing, bind_nothing, Int.natCast_one, Int.cast_ofNat_Int, not_true_eq_false, decide_true, decide_false, true_implies, false_implies, Int.toNat_zero, List.length_cons, List.length_nil, Nat.zero_add, mb, Nat.reduceBEq, Bool.false_and, Bool.and_false, cells_int, tys, stb, GK_nil, GK_op, GKS_some, GKS_none, GKS_ite, GKS_nite, Bool.or_false, Bool.false_or, Bool.true_and, Bool.or_true, Bool.true_or, t0, t5, t7, t8, hin2, e3, e5, e6, hlt, shl_small h (by omega) 1 (.inl rfl), index_hsl, hms, List.set_cons_zero]
      refine ⟨by kernel_rfl, ⟨by omega, trivial⟩, ⟨by omega, by omega⟩, ⟨by simp; omega, by simp [V.isCell]⟩, zs.length - (i + 1), by omega, i + 1, w.set (2 ^ h - 1 + i) (zs.getD i 0), rfl, by omega, rfl, rfl, by simp [hwl], fun j hj => ?_⟩
      by_cases hji : j = i
      · subst hji
        rw [getD_set_eq (by omega), if_pos (by omega)]
      · rw [getD_set_ne (by omega), hwj j hj]
        by_cases hj2 : j < i
        · rw [if_pos hj2, if_pos (by omega)]
        · rw [if_neg hj2, if_neg (by omega)]
    · have hieq : i = zs.length := by omega
      subst hieq
      have e5 : IntKind.i64.wrap (1 * 2 ^ h - 2) = ((2 ^ h - 1 : Nat) : Int) - 1 := by rw [wrap_i64 (by omega) (by omega)]; omega
      have hleaf : ∀ j, j < 2 ^ h → w.getD (2 ^ h - 1 + j) 0 = zs.getD j 0 := fun j hj => by
        rw [hwj j hj]
        split
        · rfl
        · simp [List.getD, List.getElem?_eq_none (show zs.length ≤ j by omega)]
      simp only [G_seq, G_block, G_skip_code, G_skip_blk, G_skip_nil, G_exit_code, G_exit_blk, G_exit_nil, G_ret_code, G_ret_blk, G_ret_nil, G_cond, G_cond_const, G_loop, G_region, G_draw, GL_nil, GL_op, GL_none, GL_guard, GS_some, GS_ite, GS_nite, GN_some, GN_ite, GN_nite, GB_true, GB_false, GB_dec, GG_true_true, GG_true_false, GG_false_true, GG_false_false, GG_true_dec, GG_false_dec, opT_move, opT_assign, opT_pick, pickO_true, pickO_false, opT_binOp, binO_some, opT_unOp, opT_extract, extrO_tup, opT_indexAddr, idxO_slice, opT_load, opT_call, opT_len, opT_append, opT_convert, convO_int, callV_func, evalT, upd_at, Nat.reduceLT, Nat.reduceEqDiff, if_true, if_false, reduceIte, true_and, map_mk, bind_mk, map_ite', map_nite, bind_ite', bind_nite, vBin_add, vBin_sub, vBin_mul, vBin_eql, vBin_neq, vBin_lss, vBin_leq, vBin_gtr, vBin_geq, vBin_rem, vBin_quo, vBin_beql, vBin_bneq, vUn_not, vUn_true, vUn_false, index_row, len_row, len_nilsl, listO_nil, listO_cons, ofVal, ofCell, argT, List.getD_cons_zero, List.getD_cons_succ, List.getElem?_toArray, List.getElem?_cons_zero, List.getElem?_cons_succ, List.nil_append, List.cons_append, List.append_nil, resT, wpR_nil, V1_some, Nat.mul_one, load_row, load_ptr, cellAt_some, opT_store, store_ptr, storeAt_some, cells_row, isCell_row, cells_nilsl, push_mk, set_mk, setT, vUn_neg, opT_max, opT_min, max_two, min_two, List.append_eq, opT_makeFunc, opT_fieldAddr, opT_build, partsO_nil, partsO_cons, faddr_ptr, faddr_rptr, cells_agg, push_last, Nat.add_zero, opT_box, opT_alloc, ints_get, post_norm, post_exit, post_ret, Int.toNat_natCast, Bool.false_eq_true, Int.reduceEq, Int.reduceLT, Int.reduceLE, Int.reduceNeg, not_false_eq_true, and_self, map_nothing, bind_nothing, Int.natCast_one, Int.cast_ofNat_Int, not_true_eq_false, decide_true, decide_false, true_implies, false_implies, Int.toNat_zero, List.length_cons, List.length_nil, Nat.zero_add, mb, Nat.reduceBEq, Bool.false_and, Bool.and_false, cells_int, tys, stb, GK_nil, GK_op, GKS_some, GKS_none, GKS_ite, GKS_nite, Bool.or_false, Bool.false_or, Bool.true_and, Bool.or_true, Bool.true_or, t0, t5, t7, t8, hin2, e5, shl_small h (by omega) 1 (.inl rfl)]
      refine loop_rule (fun m T D σ => D = [] ∧ T 7 = .hsl 0 0 (2 ^ (h + 1) - 1) (2 ^ (h + 1) - 1) true ∧ T 9 = .int .i64 ((m : Nat) - 1 : Int) ∧ m ≤ 2 ^ h - 1 ∧ ∃ w : List Int, σ = ⟨[.cells (w.map (V.int .i64)) 3], []⟩ ∧
        w.length = 2 ^ (h + 1) - 1 ∧ ∀ d k a, Lv h d k a → m ≤ k → w.getD k 0 = rsum (fun j => zs.getD j 0) a (2 ^ d)) ?_ (2 ^ h - 1) _ _ _ ⟨rfl, t7, rfl, Nat.le_refl _, w, rfl, hwl, fun d k a l hk => ?_⟩
      · clear t0 t5 t7 t8 hwj hleaf hwl
        clear w
        rintro m T D σ ⟨rfl, t7, t9, hm2, w, rfl, hwl, hwk⟩
        refine G_start ?_
        by_cases hk0 : 0 ≤ (m : Int) - 1
        · obtain ⟨k, rfl⟩ : ∃ k, m = k + 1 := ⟨m - 1, by omega⟩
          have hkk : ((k + 1 : Nat) : Int) - 1 = (k : Int) := by omega
          rw [hkk] at t9 hk0
          obtain ⟨d, a, l⟩ := Lv.exists (h := h) (k := k) (by omega)
          have hd : d ≠ 0 := by
            intro hd
            subst hd
            have := l.at_
            simp at this
            omega
          obtain ⟨d, rfl⟩ : ∃ d', d = d' + 1 := ⟨d - 1, by omega⟩
          have e3 : IntKind.i64.wrap (2 * (k : Int)) = ((2 * k : Nat) : Int) := by rw [wrap_i64 (by omega) (by omega)]; omega
          have e4 : IntKind.i64.wrap (((2 * k : Nat) : Int) + 1) = ((2 * k + 1 : Nat) : Int) := by rw [wrap_i64 (by omega) (by omega)]; omega
          have e5 : IntKind.i64.wrap (((2 * k : Nat) : Int) + 2) = ((2 * k + 2 : Nat) : Int) := by rw [wrap_i64 (by omega) (by omega)]; omega
          have e6 : IntKind.i64.wrap ((k : Int) - 1) = (k : Int) - 1 := by rw [wrap_i64 (by omega) (by omega)]
          have v1 := hwk _ _ _ l.left (by omega)
          have v2 := hwk _ _ _ l.right (by omega)
          have b1 := l.left.bound
          have b2 := l.right.bound
          have r1 : 2 * k + 1 < w.length := by omega
          have r2 : 2 * k + 2 < w.length := by omega
          have hb1 := rsum_bound _ (2 ^ 51) hf a (2 ^ d)
          have hb2 := rsum_bound _ (2 ^ 51) hf (a + 2 ^ d) (2 ^ d)
          have hd7 : 2 ^ d ≤ 2 ^ 7 := Nat.pow_le_pow_right (by omega) (by have := l.le; omega)
          have hsum : IntKind.i64.wrap (rsum (fun j => zs.getD j 0) a (2 ^ d) + rsum (fun j => zs.getD j 0) (a + 2 ^ d) (2 ^ d)) = rsum (fun j => zs.getD j 0) a (2 ^ (d + 1)) := by
            rw [show 2 ^ (d + 1) = 2 ^ d + 2 ^ d by rw [Nat.pow_succ]; omega, rsum_add, wrap_i64 (by omega) (by omega)]
          have hms := map_set w k (rsum (fun j => zs.getD j 0) a (2 ^ (d + 1))) (by omega)
          simp only [G_seq, G_block, G_skip_code, G_skip_blk, G_skip_nil, G_exit_code, G_exit_blk, G_exit_nil, G_ret_code, G_ret_blk, G_ret_nil, G_cond, G_cond_const, G_loop, G_region, G_draw, GL_nil, GL_op, GL_none, GL_guard, GS_some, GS_ite, GS_nite, GN_some, GN_ite, GN_nite, GB_true, GB_false, GB_dec, GG_true_true, GG_true_false, GG_false_true, GG_false_false, GG_true_dec, GG_false_dec, opT_move, opT_assign, opT_pick, pickO_true, pickO_false, opT_binOp, binO_some, opT_unOp, opT_extract, extrO_tup, opT_indexAddr, idxO_slice, opT_load, opT_call, opT_len, opT_append, opT_convert, convO_int, callV_func, evalT, upd_at, Nat.reduceLT, Nat.reduceEqDiff, if_true, if_false, reduceIte, true_and, map_mk, bind_mk, map_ite', map_nite, bind_ite', bind_nite, vBin_add, vBin_sub, vBin_mul, vBin_eql, vBin_neq, vBin_lss, vBin_leq, vBin_gtr, vBin_geq, vBin_rem, vBin_quo, vBin_beql, vBin_bneq, vUn_not, vUn_true, vUn_false, index_row, len_row, len_nilsl, listO_nil, listO_cons, ofVal, ofCell, argT, List.getD_cons_zero, List.getD_cons_succ, List.getElem?_toArray, List.getElem?_cons_zero, List.getElem?_cons_succ, List.nil_append, List.cons_append, List.append_nil, resT, wpR_nil, V1_some, Nat.mul_one, load_row, load_ptr, cellAt_some, opT_store, store_ptr, storeAt_some, cells_row, isCell_row, cells_nilsl, push_mk, set_mk, setT, vUn_neg, opT_max, opT_min, max_two, min_two, List.append_eq, opT_makeFunc, opT_fieldAddr, opT_build, partsO_nil, partsO_cons, faddr_ptr, faddr_rptr, cells_agg, push_last, Nat.add_zero, opT_box, opT_alloc, ints_get, post_norm, post_exit, post_ret, Int.toNat_natCast, Bool.false_eq_true, Int.reduceEq, Int.reduceLT, Int.reduceLE, Int.reduceNeg, not_false_eq_true, and_self, map_nothing, bind_nothing, Int.natCast_one, Int.cast_ofNat_Int, not_true_eq_false, decide_true, decide_false, true_implies, false_implies, Int.toNat_zero, List.length_cons, List.length_nil, Nat.zero_add, mb, Nat.reduceBEq, Bool.false_and, Bool.and_false, cells_int, tys, stb, GK_nil, GK_op, GKS_some, GKS_none, GKS_ite, GKS_nite, Bool.or_false, Bool.false_or, Bool.true_and, Bool.or_true, Bool.true_or, t7, t9, hk0, e3, e4, e5, e6, v1, v2, r1, r2, hsum, index_hsl, hms, List.set_cons_zero]
          refine ⟨by kernel_rfl, ⟨by omega, by omega⟩, ⟨by omega, by omega⟩, by omega, ⟨by simp; omega, by simp [V.isCell]⟩, k, by omega, rfl, by omega, w.set k (rsum (fun j => zs.getD j 0) a (2 ^ (d + 1))), rfl, by simp [hwl], fun d' k' a' l' hk' => ?_⟩
          by_cases hkk' : k' = k
          · subst hkk'
            have hdd := l.inj l'
            subst hdd
            have haa : a = a' := by have := l.at_; have := l'.at_; omega
            subst haa
            exact getD_set_eq (by omega)
          · rw [getD_set_ne (fun e => hkk' e.symm)]
            exact hwk d' k' a' l' (by omega)
        · have hm0 : m = 0 := by omega
          subst hm0
          have hwn : w = nodesL h zs := list_ext0 (by omega) fun k hk => by
            obtain ⟨d, a, l⟩ := Lv.exists (h := h) (k := k) (by omega)
            rw [hwk d k a l (Nat.zero_le _), hval l]
          have hs := seal_out0 [.cells (w.map (V.int .i64)) 3] w rfl 0
          rw [hwl] at hs
          rw [hwn] at hs
          rw [hwn] at *
          simp only [G_seq, G_block, G_skip_code, G_skip_blk, G_skip_nil, G_exit_code, G_exit_blk, G_exit_nil, G_ret_code, G_ret_blk, G_ret_nil, G_cond, G_cond_const, G_loop, G_region, G_draw, GL_nil, GL_op, GL_none, GL_guard, GS_some, GS_ite, GS_nite, GN_some, GN_ite, GN_nite, GB_true, GB_false, GB_dec, GG_true_true, GG_true_false, GG_false_true, GG_false_false, GG_true_dec, GG_false_dec, opT_move, opT_assign, opT_pick, pickO_true, pickO_false, opT_binOp, binO_some, opT_unOp, opT_extract, extrO_tup, opT_indexAddr, idxO_slice, opT_load, opT_call, opT_len, opT_append, opT_convert, convO_int, callV_func, evalT, upd_at, Nat.reduceLT, Nat.reduceEqDiff, if_true, if_false, reduceIte, true_and, map_mk, bind_mk, map_ite', map_nite, bind_ite', bind_nite, vBin_add, vBin_sub, vBin_mul, vBin_eql, vBin_neq, vBin_lss, vBin_leq, vBin_gtr, vBin_geq, vBin_rem, vBin_quo, vBin_beql, vBin_bneq, vUn_not, vUn_true, vUn_false, index_row, len_row, len_nilsl, listO_nil, listO_cons, ofVal, ofCell, argT, List.getD_cons_zero, List.getD_cons_succ, List.getElem?_toArray, List.getElem?_cons_zero, List.getElem?_cons_succ, List.nil_append, List.cons_append, List.append_nil, resT, wpR_nil, V1_some, Nat.mul_one, load_row, load_ptr, cellAt_some, opT_store, store_ptr, storeAt_some, cells_row, isCell_row, cells_nilsl, push_mk, set_mk, setT, vUn_neg, opT_max, opT_min, max_two, min_two, List.append_eq, opT_makeFunc, opT_fieldAddr, opT_build, partsO_nil, partsO_cons, faddr_ptr, faddr_rptr, cells_agg, push_last, Nat.add_zero, opT_box, opT_alloc, ints_get, post_norm, post_exit, post_ret, Int.toNat_natCast, Bool.false_eq_true, Int.reduceEq, Int.reduceLT, Int.reduceLE, Int.reduceNeg, not_false_eq_true, and_self, map_nothing, bind_nothing, Int.natCast_one, Int.cast_ofNat_Int, not_true_eq_false, decide_true, decide_false, true_implies, false_implies, Int.toNat_zero, List.length_cons, List.length_nil, Nat.zero_add, mb, Nat.reduceBEq, Bool.false_and, Bool.and_false, cells_int, tys, stb, GK_nil, GK_op, GKS_some, GKS_none, GKS_ite, GKS_nite, Bool.or_false, Bool.false_or, Bool.true_and, Bool.or_true, Bool.true_or, t7, t9, hk0]
          simp only [oneOr, sealDepth]
          exact ⟨fun h => absurd h (by omega), fun _ => hs⟩
      · have hd : d = 0 := by
          rcases Nat.eq_zero_or_pos d with h3 | h3
          · exact h3
          · have h4 := l.at_
            have h5 := l.fit
            have : (k + 1) * 2 ≤ (k + 1) * 2 ^ d := Nat.mul_le_mul_left _ (by
              have : 2 ^ 1 ≤ 2 ^ d := Nat.pow_le_pow_right (by omega) h3
              omega)
            have hpd : 1 ≤ 2 ^ d := Nat.one_le_two_pow
            omega
        subst hd
        have h4 := l.at_
        have h5 := l.fit
        simp only [Nat.pow_zero, Nat.mul_one] at h4 h5 ⊢
        rw [show k = 2 ^ h - 1 + a by omega, hleaf a (by omega)]
        simp [rsum]
end Go.Proofs.Ytkomkiejakcilaa

namespace Go.Proofs.Ytkomkiejakcilaa
open Go.Ab
set_option maxRecDepth 100000
set_option linter.unusedSimpArgs false
set_option linter.unusedVariables false
theorem own_call (l : List Int) (la : l.length ≤ 2 ^ 20) (σ : S) : callFn env (ev env) 13 [rowI l] σ = some (rowI l, σ) := by
  refine callFn_pure rfl rfl (by simp [closed_ints]) at13 rfl (by simp [Try.f13]) (by simp [Try.f13]) (G_start ?_) σ
  by_cases hn : l = []
  · subst hn
    have ha : appO env false S.empty 22 22 (.row [] 0 .full) (rowI []) = some (.row [] 0 .full, S.empty) := by
      simp [appO, e22, s3, b3, u22, vLen, vCells, z3, aappend]
    simp only [Try.f13, G_seq, G_block, G_skip_code, G_skip_blk, G_skip_nil, G_exit_code, G_exit_blk, G_exit_nil, G_ret_code, G_ret_blk, G_ret_nil, G_cond, G_cond_const, G_loop, G_region, G_draw, GL_nil, GL_op, GL_none, GL_guard, GS_some, GS_ite, GS_nite, GN_some, GN_ite, GN_nite, GB_true, GB_false, GB_dec, GG_true_true, GG_true_false, GG_false_true, GG_false_false, GG_true_dec, GG_false_dec, opT_move, opT_assign, opT_pick, pickO_true, pickO_false, opT_binOp, binO_some, opT_unOp, opT_extract, extrO_tup, opT_indexAddr, idxO_slice, opT_load, opT_call, opT_len, opT_append, opT_convert, convO_int, callV_func, evalT, upd_at, Nat.reduceLT, Nat.reduceEqDiff, if_true, if_false, reduceIte, true_and, map_mk, bind_mk, map_ite', map_nite, bind_ite', bind_nite, vBin_add, vBin_sub, vBin_mul, vBin_eql, vBin_neq, vBin_lss, vBin_leq, vBin_gtr, vBin_geq, vBin_rem, vBin_quo, vBin_beql, vBin_bneq, vUn_not, vUn_true, vUn_false, index_row, len_row, len_nilsl, listO_nil, listO_cons, ofVal, ofCell, argT, List.getD_cons_zero, List.getD_cons_succ, List.getElem?_toArray, List.getElem?_cons_zero, List.getElem?_cons_succ, List.nil_append, List.cons_append, List.append_nil, resT, wpR_nil, V1_some, Nat.mul_one, load_row, load_ptr, cellAt_some, opT_store, store_ptr, storeAt_some, cells_row, isCell_row, cells_nilsl, push_mk, set_mk, setT, vUn_neg, opT_max, opT_min, max_two, min_two, List.append_eq, opT_makeFunc, opT_fieldAddr, opT_build, partsO_nil, partsO_cons, faddr_ptr, faddr_rptr, cells_agg, push_last, Nat.add_zero, opT_box, opT_alloc, ints_get, post_norm, post_exit, post_ret, Int.toNat_natCast, Bool.false_eq_true, Int.reduceEq, Int.reduceLT, Int.reduceLE, Int.reduceNeg, not_false_eq_true, and_self, map_nothing, bind_nothing, Int.natCast_one, Int.cast_ofNat_Int, not_true_eq_false, decide_true, decide_false, true_implies, false_implies, Int.toNat_zero, List.length_cons, List.length_nil, Nat.zero_add, mb, Nat.reduceBEq, Bool.false_and, Bool.and_false, cells_int, tys, stb, GK_nil, GK_op, GKS_some, GKS_none, GKS_ite, GKS_nite, Bool.or_false, Bool.false_or, Bool.true_and, Bool.or_true, Bool.true_or, mb, Nat.reduceBEq, Bool.false_and, bs0, List.map_nil, List.length_nil, ha]
    simp [oneOr, sealDepth, sealV_row]
  · have h0 : l.length ≠ 0 := fun e => hn (List.eq_nil_of_length_eq_zero e)
    obtain ⟨k, e', ts', ha, _⟩ := Grow.append one22 (hp := []) (ts := []) (.full []) (new := l.map (V.int .i64)) (c := .unk) (by simpa using h0) (ints_cells l) (by simp [lim]; omega) (by simp [lim]; omega)
    simp only [List.length_nil, List.nil_append, List.length_map] at ha
    simp only [Try.f13, G_seq, G_block, G_skip_code, G_skip_blk, G_skip_nil, G_exit_code, G_exit_blk, G_exit_nil, G_ret_code, G_ret_blk, G_ret_nil, G_cond, G_cond_const, G_loop, G_region, G_draw, GL_nil, GL_op, GL_none, GL_guard, GS_some, GS_ite, GS_nite, GN_some, GN_ite, GN_nite, GB_true, GB_false, GB_dec, GG_true_true, GG_true_false, GG_false_true, GG_false_false, GG_true_dec, GG_false_dec, opT_move, opT_assign, opT_pick, pickO_true, pickO_false, opT_binOp, binO_some, opT_unOp, opT_extract, extrO_tup, opT_indexAddr, idxO_slice, opT_load, opT_call, opT_len, opT_append, opT_convert, convO_int, callV_func, evalT, upd_at, Nat.reduceLT, Nat.reduceEqDiff, if_true, if_false, reduceIte, true_and, map_mk, bind_mk, map_ite', map_nite, bind_ite', bind_nite, vBin_add, vBin_sub, vBin_mul, vBin_eql, vBin_neq, vBin_lss, vBin_leq, vBin_gtr, vBin_geq, vBin_rem, vBin_quo, vBin_beql, vBin_bneq, vUn_not, vUn_true, vUn_false, index_row, len_row, len_nilsl, listO_nil, listO_cons, ofVal, ofCell, argT, List.getD_cons_zero, List.getD_cons_succ, List.getElem?_toArray, List.getElem?_cons_zero, List.getElem?_cons_succ, List.nil_append, List.cons_append, List.append_nil, resT, wpR_nil, V1_some, Nat.mul_one, load_row, load_ptr, cellAt_some, opT_store, store_ptr, storeAt_some, cells_row, isCell_row, cells_nilsl, push_mk, set_mk, setT, vUn_neg, opT_max, opT_min, max_two, min_two, List.append_eq, opT_makeFunc, opT_fieldAddr, opT_build, partsO_nil, partsO_cons, faddr_ptr, faddr_rptr, cells_agg, push_last, Nat.add_zero, opT_box, opT_alloc, ints_get, post_norm, post_exit, post_ret, Int.toNat_natCast, Bool.false_eq_true, Int.reduceEq, Int.reduceLT, Int.reduceLE, Int.reduceNeg, not_false_eq_true, and_self, map_nothing, bind_nothing, Int.natCast_one, Int.cast_ofNat_Int, not_true_eq_false, decide_true, decide_false, true_implies, false_implies, Int.toNat_zero, List.length_cons, List.length_nil, Nat.zero_add, mb, Nat.reduceBEq, Bool.false_and, Bool.and_false, cells_int, tys, stb, GK_nil, GK_op, GKS_some, GKS_none, GKS_ite, GKS_nite, Bool.or_false, Bool.false_or, Bool.true_and, Bool.or_true, Bool.true_or, mb, Nat.reduceBEq, Bool.false_and, bs0, empty_mk, ha]
    simp only [oneOr, sealDepth, sealV_row, mapM_seal_ints]
    rfl
end Go.Proofs.Ytkomkiejakcilaa

namespace Go.Proofs.Ytkomkiejakcilaa
open Go.Ab
set_option maxRecDepth 100000
set_option linter.unusedSimpArgs false
set_option linter.unusedVariables false
theorem at7 : env.P.funcs[7]? = some Try.f7 := by kernel_rfl
theorem u4 : env.P.underlying 4 = some .bool := by kernel_rfl

theorem same_in {u v : V} {a b : List Int} (hu : InI u a) (hv : InI v b) (la : a.length < 2 ^ 62) (σ : S) : callFn env (ev env) 18 [u, v] σ = some (.bool (decide (a = b)), σ) := by
  refine callFn_pure rfl rfl (by simp [hu.closed, hv.closed]) at18 rfl (by simp [Try.f18]) (by simp [Try.f18]) (G_start ?_) σ
  have hlu := hu.len 3
  have hlv := hv.len 3
  simp only [Try.f18, G_seq, G_block, G_skip_code, G_skip_blk, G_skip_nil, G_exit_code, G_exit_blk, G_exit_nil, G_ret_code, G_ret_blk, G_ret_nil, G_cond, G_cond_const, G_loop, G_region, G_draw, GL_nil, GL_op, GL_none, GL_guard, GS_some, GS_ite, GS_nite, GN_some, GN_ite, GN_nite, GB_true, GB_false, GB_dec, GG_true_true, GG_true_false, GG_false_true, GG_false_false, GG_true_dec, GG_false_dec, opT_move, opT_assign, opT_pick, pickO_true, pickO_false, opT_binOp, binO_some, opT_unOp, opT_extract, extrO_tup, opT_indexAddr, idxO_slice, opT_load, opT_call, opT_len, opT_append, opT_convert, convO_int, callV_func, evalT, upd_at, Nat.reduceLT, Nat.reduceEqDiff, if_true, if_false, reduceIte, true_and, map_mk, bind_mk, map_ite', map_nite, bind_ite', bind_nite, vBin_add, vBin_sub, vBin_mul, vBin_eql, vBin_neq, vBin_lss, vBin_leq, vBin_gtr, vBin_geq, vBin_rem, vBin_quo, vBin_beql, vBin_bneq, vUn_not, vUn_true, vUn_false, index_row, len_row, len_nilsl, listO_nil, listO_cons, ofVal, ofCell, argT, List.getD_cons_zero, List.getD_cons_succ, List.getElem?_toArray, List.getElem?_cons_zero, List.getElem?_cons_succ, List.nil_append, List.cons_append, List.append_nil, resT, wpR_nil, V1_some, Nat.mul_one, load_row, load_ptr, cellAt_some, opT_store, store_ptr, storeAt_some, cells_row, isCell_row, cells_nilsl, push_mk, set_mk, setT, vUn_neg, opT_max, opT_min, max_two, min_two, List.append_eq, opT_makeFunc, opT_fieldAddr, opT_build, partsO_nil, partsO_cons, faddr_ptr, faddr_rptr, cells_agg, push_last, Nat.add_zero, opT_box, opT_alloc, ints_get, post_norm, post_exit, post_ret, Int.toNat_natCast, Bool.false_eq_true, Int.reduceEq, Int.reduceLT, Int.reduceLE, Int.reduceNeg, not_false_eq_true, and_self, map_nothing, bind_nothing, Int.natCast_one, Int.cast_ofNat_Int, not_true_eq_false, decide_true, decide_false, true_implies, false_implies, Int.toNat_zero, List.length_cons, List.length_nil, Nat.zero_add, mb, Nat.reduceBEq, Bool.false_and, Bool.and_false, cells_int, tys, stb, GK_nil, GK_op, GKS_some, GKS_none, GKS_ite, GKS_nite, Bool.or_false, Bool.false_or, Bool.true_and, Bool.or_true, Bool.true_or, hlu, hlv]
  refine ⟨fun h => ?_, fun h => ?_⟩
  · have : a ≠ b := fun e => h (by rw [e])
    simp [oneOr, sealDepth, sealV_bool, this]
  · have hl : a.length = b.length := by omega
    refine loop_rule (fun m T D σ => D = [] ∧ σ = S.empty ∧ T 0 = u ∧ T 1 = v ∧ ∃ i : Nat, T 5 = .int .i64 i ∧ i ≤ a.length ∧ m = a.length - i ∧ (∀ j (h : j < i), a.getD j 0 = b.getD j 0)) ?_ _ _ _ _ ⟨rfl, rfl, rfl, rfl, 0, rfl, by omega, rfl, fun j h => by omega⟩
    rintro m T D σ ⟨rfl, rfl, h0, h1, i, h5, hi, rfl, hj⟩
    refine G_start ?_
    by_cases hin : (i : Int) < (a.length : Int)
    · have hlt : i < a.length := by omega
      have hlt2 : i < b.length := by omega
      have hux : u = rowI a := by
        rcases hu with h | ⟨_, h⟩
        · exact h
        · rw [h] at hlt; simp at hlt
      have hvy : v = rowI b := by
        rcases hv with h | ⟨_, h⟩
        · exact h
        · rw [h] at hlt2; simp at hlt2
      subst hux hvy
      have e3 : IntKind.i64.wrap ((i : Int) + 1) = ((i + 1 : Nat) : Int) := by rw [wrap_i64 (by omega) (by omega)]; omega
      simp only [G_seq, G_block, G_skip_code, G_skip_blk, G_skip_nil, G_exit_code, G_exit_blk, G_exit_nil, G_ret_code, G_ret_blk, G_ret_nil, G_cond, G_cond_const, G_loop, G_region, G_draw, GL_nil, GL_op, GL_none, GL_guard, GS_some, GS_ite, GS_nite, GN_some, GN_ite, GN_nite, GB_true, GB_false, GB_dec, GG_true_true, GG_true_false, GG_false_true, GG_false_false, GG_true_dec, GG_false_dec, opT_move, opT_assign, opT_pick, pickO_true, pickO_false, opT_binOp, binO_some, opT_unOp, opT_extract, extrO_tup, opT_indexAddr, idxO_slice, opT_load, opT_call, opT_len, opT_append, opT_convert, convO_int, callV_func, evalT, upd_at, Nat.reduceLT, Nat.reduceEqDiff, if_true, if_false, reduceIte, true_and, map_mk, bind_mk, map_ite', map_nite, bind_ite', bind_nite, vBin_add, vBin_sub, vBin_mul, vBin_eql, vBin_neq, vBin_lss, vBin_leq, vBin_gtr, vBin_geq, vBin_rem, vBin_quo, vBin_beql, vBin_bneq, vUn_not, vUn_true, vUn_false, index_row, len_row, len_nilsl, listO_nil, listO_cons, ofVal, ofCell, argT, List.getD_cons_zero, List.getD_cons_succ, List.getElem?_toArray, List.getElem?_cons_zero, List.getElem?_cons_succ, List.nil_append, List.cons_append, List.append_nil, resT, wpR_nil, V1_some, Nat.mul_one, load_row, load_ptr, cellAt_some, opT_store, store_ptr, storeAt_some, cells_row, isCell_row, cells_nilsl, push_mk, set_mk, setT, vUn_neg, opT_max, opT_min, max_two, min_two, List.append_eq, opT_makeFunc, opT_fieldAddr, opT_build, partsO_nil, partsO_cons, faddr_ptr, faddr_rptr, cells_agg, push_last, Nat.add_zero, opT_box, opT_alloc, ints_get, post_norm, post_exit, post_ret, Int.toNat_natCast, Bool.false_eq_true, Int.reduceEq, Int.reduceLT, Int.reduceLE, Int.reduceNeg, not_false_eq_true, and_self, map_nothing, bind_nothing, Int.natCast_one, Int.cast_ofNat_Int, not_true_eq_false, decide_true, decide_false, true_implies, false_implies, Int.toNat_zero, List.length_cons, List.length_nil, Nat.zero_add, mb, Nat.reduceBEq, Bool.false_and, Bool.and_false, cells_int, tys, stb, GK_nil, GK_op, GKS_some, GKS_none, GKS_ite, GKS_nite, Bool.or_false, Bool.false_or, Bool.true_and, Bool.or_true, Bool.true_or, h0, h1, h5, hin, hlt, hlt2, e3]
      refine ⟨by kernel_rfl, ⟨by omega, trivial⟩, ⟨by omega, by omega⟩, fun hn => ?_, fun hn => ?_⟩
      · have : a ≠ b := fun e => hn (by rw [e])
        simp [oneOr, sealDepth, sealV_bool, this]
      · refine ⟨a.length - (i + 1), by omega, i + 1, rfl, by omega, rfl, fun j h => ?_⟩
        rcases Nat.lt_or_ge j i with h2 | h2
        · exact hj j h2
        · have : j = i := by omega
          subst this
          exact Classical.not_not.1 hn
    · simp only [G_seq, G_block, G_skip_code, G_skip_blk, G_skip_nil, G_exit_code, G_exit_blk, G_exit_nil, G_ret_code, G_ret_blk, G_ret_nil, G_cond, G_cond_const, G_loop, G_region, G_draw, GL_nil, GL_op, GL_none, GL_guard, GS_some, GS_ite, GS_nite, GN_some, GN_ite, GN_nite, GB_true, GB_false, GB_dec, GG_true_true, GG_true_false, GG_false_true, GG_false_false, GG_true_dec, GG_false_dec, opT_move, opT_assign, opT_pick, pickO_true, pickO_false, opT_binOp, binO_some, opT_unOp, opT_extract, extrO_tup, opT_indexAddr, idxO_slice, opT_load, opT_call, opT_len, opT_append, opT_convert, convO_int, callV_func, evalT, upd_at, Nat.reduceLT, Nat.reduceEqDiff, if_true, if_false, reduceIte, true_and, map_mk, bind_mk, map_ite', map_nite, bind_ite', bind_nite, vBin_add, vBin_sub, vBin_mul, vBin_eql, vBin_neq, vBin_lss, vBin_leq, vBin_gtr, vBin_geq, vBin_rem, vBin_quo, vBin_beql, vBin_bneq, vUn_not, vUn_true, vUn_false, index_row, len_row, len_nilsl, listO_nil, listO_cons, ofVal, ofCell, argT, List.getD_cons_zero, List.getD_cons_succ, List.getElem?_toArray, List.getElem?_cons_zero, List.getElem?_cons_succ, List.nil_append, List.cons_append, List.append_nil, resT, wpR_nil, V1_some, Nat.mul_one, load_row, load_ptr, cellAt_some, opT_store, store_ptr, storeAt_some, cells_row, isCell_row, cells_nilsl, push_mk, set_mk, setT, vUn_neg, opT_max, opT_min, max_two, min_two, List.append_eq, opT_makeFunc, opT_fieldAddr, opT_build, partsO_nil, partsO_cons, faddr_ptr, faddr_rptr, cells_agg, push_last, Nat.add_zero, opT_box, opT_alloc, ints_get, post_norm, post_exit, post_ret, Int.toNat_natCast, Bool.false_eq_true, Int.reduceEq, Int.reduceLT, Int.reduceLE, Int.reduceNeg, not_false_eq_true, and_self, map_nothing, bind_nothing, Int.natCast_one, Int.cast_ofNat_Int, not_true_eq_false, decide_true, decide_false, true_implies, false_implies, Int.toNat_zero, List.length_cons, List.length_nil, Nat.zero_add, mb, Nat.reduceBEq, Bool.false_and, Bool.and_false, cells_int, tys, stb, GK_nil, GK_op, GKS_some, GKS_none, GKS_ite, GKS_nite, Bool.or_false, Bool.false_or, Bool.true_and, Bool.or_true, Bool.true_or, h0, h1, h5, hin, hlu, hlv]
      have : a = b := by
        apply List.ext_getElem hl
        intro j h1 h2
        have := hj j (by omega)
        simpa [List.getD, h1, h2] using this
      simp [oneOr, sealDepth, sealV_bool, this]

theorem own_nil_run : run env 60 (.call 13 [.nilsl] S.empty) = some ⟨.ret, [.row [] 0 .full], [], ⟨[], []⟩⟩ := by kernel_rfl
theorem own_in {u : V} {a : List Int} (hu : InI u a) (la : a.length ≤ 2 ^ 20) (σ : S) : callFn env (ev env) 13 [u] σ = some (rowI a, σ) := by
  rcases hu with rfl | ⟨rfl, rfl⟩
  · exact own_call a la σ
  · exact callFn_run rfl rfl rfl own_nil_run rfl σ

/-- what Height, Cover and Path return -/
def heightV (n : Int) : V := if n < 1 ∨ 128 < n then .tup [.int .i64 0, .int .i64 2] else .tup [.int .i64 (hgt n), .int .i64 0]
theorem height_call (n : Int) (σ : S) : callFn env (ev env) 16 [.int .i64 n] σ = some (heightV n, σ) := by
  unfold heightV
  split
  · exact height_bad n ‹_› σ
  · exact height_ok n (by omega) (by omega) σ
theorem rheight_call (n : Int) (σ : S) : callFn env (ev env) 19 [.int .i64 n] σ = some (heightV n, σ) := by
  unfold heightV
  split
  · exact rheight_bad n ‹_› σ
  · exact rheight_ok n (by omega) (by omega) σ
def pairV (x : V) (e : Int) : V := .tup [x, .int .i64 e]
theorem cover_all (n i : Int) : ∃ x l e, InI x l ∧ l.length ≤ 2 ^ 20 ∧ (∀ σ, callFn env (ev env) 17 [.int .i64 n, .int .i64 i] σ = some (.tup [x, .int .i64 e], σ)) ∧ ∀ σ, callFn env (ev env) 21 [.int .i64 n, .int .i64 i] σ = some (.tup [x, .int .i64 e], σ) := by
  by_cases h : n < 1 ∨ 128 < n ∨ i < 0 ∨ n < i
  · exact ⟨.nilsl, [], 2, .inr ⟨rfl, rfl⟩, by simp, cover_bad n i h, rcover_bad n i h⟩
  · have hi : i = ((i.toNat : Nat) : Int) := by omega
    have h1 := cover_ok n (by omega) (by omega) i.toNat (by omega)
    have h2 := rcover_ok n (by omega) (by omega) i.toNat (by omega)
    rw [← hi] at h1 h2
    have hl := cov_len2 (hgt n) 0 0 i.toNat
    have hh := hgt_le n
    refine ⟨_, cov (hgt n) 0 0 i.toNat, 0, ?_, by omega, h1, h2⟩
    unfold rowN
    split
    · rename_i e; exact .inr ⟨rfl, e⟩
    · exact .inl rfl
theorem path_all (n i : Int) : ∃ x l e, InI x l ∧ l.length ≤ 2 ^ 20 ∧ (∀ σ, callFn env (ev env) 14 [.int .i64 n, .int .i64 i] σ = some (.tup [x, .int .i64 e], σ)) ∧ ∀ σ, callFn env (ev env) 22 [.int .i64 n, .int .i64 i] σ = some (.tup [x, .int .i64 e], σ) := by
  by_cases h : n < 1 ∨ 128 < n ∨ i < 0 ∨ n ≤ i
  · exact ⟨.nilsl, [], 2, .inr ⟨rfl, rfl⟩, by simp, path_bad n i h, rpath_bad n i h⟩
  · have hi : i = ((i.toNat : Nat) : Int) := by omega
    have h1 := path_ok n (by omega) (by omega) i.toNat (by omega)
    have h2 := rpath_ok n (by omega) (by omega) i.toNat (by omega)
    rw [← hi] at h1 h2
    have hpw := hgt_pow n (by omega) (by omega)
    have hl := path_length (hgt n) i.toNat (by have := pow_cast (hgt n); omega)
    have hh := hgt_le n
    exact ⟨_, pathL (hgt n) i.toNat, 0, .inl rfl, by omega, h1, h2⟩
theorem nodesV_form (zs : List Int) : ∃ x l e, InI x l ∧ l.length ≤ 2 ^ 20 ∧ nodesV zs = .tup [x, .int .i64 e] := by
  unfold nodesV
  split
  · exact ⟨.nilsl, [], 2, .inr ⟨rfl, rfl⟩, by simp, rfl⟩
  · split
    · exact ⟨.nilsl, [], 4, .inr ⟨rfl, rfl⟩, by simp, rfl⟩
    · split
      · have hh := hgt_le zs.length
        have hp := pow_le _ hh
        have hpw := hgt_pow zs.length (by omega) (by omega)
        have hcast := pow_cast (hgt zs.length)
        have e2 : 2 ^ (hgt zs.length + 1) = 2 * 2 ^ hgt zs.length := by rw [Nat.pow_succ]; omega
        have hnl := nodesL_len (hgt zs.length) zs (by omega)
        exact ⟨_, _, 0, .inl rfl, by rw [hnl]; omega, rfl⟩
      · exact ⟨.nilsl, [], 2, .inr ⟨rfl, rfl⟩, by simp, rfl⟩
theorem prefV_form (zs : List Int) (n : Int) : ∃ x l e, InI x l ∧ l.length ≤ 2 ^ 20 ∧ prefV zs n = .tup [x, .int .i64 e] := by
  unfold prefV
  split
  · exact ⟨.nilsl, [], 2, .inr ⟨rfl, rfl⟩, by simp, rfl⟩
  · split
    · exact ⟨.nilsl, [], 16, .inr ⟨rfl, rfl⟩, by simp, rfl⟩
    · exact ⟨_, _, 0, .inl rfl, by simp; omega, rfl⟩
theorem heightV_form (n : Int) : ∃ x e, heightV n = .tup [.int .i64 x, .int .i64 e] := by
  unfold heightV
  split
  · exact ⟨_, _, rfl⟩
  · exact ⟨_, _, rfl⟩

end Go.Proofs.Ytkomkiejakcilaa

namespace Go.Proofs.Ytkomkiejakcilaa
open Go.Ab
set_option maxRecDepth 100000
set_option linter.unusedSimpArgs false
set_option linter.unusedVariables false
set_option maxHeartbeats 4000000 in
theorem calls_tail {T : Tm} {x1 x2 x3 x4 : V} {l1 l2 l3 l4 : List Int} {x5 e1 e2 e3 e4 e5 : Int} (s1 : ∀ σ, callFn env (ev env) 18 [x1, x1] σ = some (V.bool (decide (l1 = l1)), σ)) (s2 : ∀ σ, callFn env (ev env) 18 [x2, x2] σ = some (V.bool (decide (l2 = l2)), σ))
    (s3 : ∀ σ, callFn env (ev env) 18 [x3, x3] σ = some (V.bool (decide (l3 = l3)), σ)) (s4 : ∀ σ, callFn env (ev env) 18 [x4, x4] σ = some (V.bool (decide (l4 = l4)), σ))
    (t9 : T 9 = .int .i64 x5) (t10 : T 10 = .int .i64 e5) (t11 : T 11 = .int .i64 x5) (t12 : T 12 = .int .i64 e5) (t13 : T 13 = x3) (t14 : T 14 = .int .i64 e3) (t15 : T 15 = x3) (t16 : T 16 = .int .i64 e3)
    (t17 : T 17 = x1) (t18 : T 18 = .int .i64 e1) (t19 : T 19 = x1) (t20 : T 20 = .int .i64 e1) (t21 : T 21 = x2) (t22 : T 22 = .int .i64 e2) (t23 : T 23 = x2) (t24 : T 24 = .int .i64 e2)
    (t25 : T 25 = x4) (t26 : T 26 = .int .i64 e4) (t27 : T 27 = x4) (t28 : T 28 = .int .i64 e4) :
    G env 7 none Try.f7.ntmps ⟨wpR env Try.f7.results.toList fun v _ => v = .bool true, fun _ _ _ _ => False, wpR env Try.f7.results.toList fun v _ => v = .bool true⟩ [] (dropC 13 (bodyOf Try.f7)) T [] S.empty := by
  simp only [bodyOf, Try.f7, Option.getD_some, takeC, dropC, G_seq, G_block, G_skip_code, G_skip_blk, G_skip_nil, G_exit_code, G_exit_blk, G_exit_nil, G_ret_code, G_ret_blk, G_ret_nil, G_cond, G_cond_const, G_loop, G_region, G_draw, GL_nil, GL_op, GL_none, GL_guard, GS_some, GS_ite, GS_nite, GN_some, GN_ite, GN_nite, GB_true, GB_false, GB_dec, GG_true_true, GG_true_false, GG_false_true, GG_false_false, GG_true_dec, GG_false_dec, opT_move, opT_assign, opT_pick, pickO_true, pickO_false, opT_binOp, binO_some, opT_unOp, opT_extract, extrO_tup, opT_indexAddr, idxO_slice, opT_load, opT_call, opT_len, opT_append, opT_convert, convO_int, callV_func, evalT, upd_at, Nat.reduceLT, Nat.reduceEqDiff, if_true, if_false, reduceIte, true_and, map_mk, bind_mk, map_ite', map_nite, bind_ite', bind_nite, vBin_add, vBin_sub, vBin_mul, vBin_eql, vBin_neq, vBin_lss, vBin_leq, vBin_gtr, vBin_geq, vBin_rem, vBin_quo, vBin_beql, vBin_bneq, vUn_not, vUn_true, vUn_false, index_row, len_row, len_nilsl, listO_nil, listO_cons, ofVal, ofCell, argT, List.getD_cons_zero, List.getD_cons_succ, List.getElem?_toArray, List.getElem?_cons_zero, List.getElem?_cons_succ, List.nil_append, List.cons_append, List.append_nil, resT, wpR_nil, V1_some, Nat.mul_one, load_row, load_ptr, cellAt_some, opT_store, store_ptr, storeAt_some, cells_row, isCell_row, cells_nilsl, push_mk, set_mk, setT, vUn_neg, opT_max, opT_min, max_two, min_two, List.append_eq, opT_makeFunc, opT_fieldAddr, opT_build, partsO_nil, partsO_cons, faddr_ptr, faddr_rptr, cells_agg, push_last, Nat.add_zero, opT_box, opT_alloc, ints_get, post_norm, post_exit, post_ret, Int.toNat_natCast, Bool.false_eq_true, Int.reduceEq, Int.reduceLT, Int.reduceLE, Int.reduceNeg, not_false_eq_true, and_self, map_nothing, bind_nothing, Int.natCast_one, Int.cast_ofNat_Int, not_true_eq_false, decide_true, decide_false, true_implies, false_implies, Int.toNat_zero, List.length_cons, List.length_nil, Nat.zero_add, mb, Nat.reduceBEq, Bool.false_and, Bool.and_false, cells_int, tys, stb, GK_nil, GK_op, GKS_some, GKS_none, GKS_ite, GKS_nite, Bool.or_false, Bool.false_or, Bool.true_and, Bool.or_true, Bool.true_or, t9, t10, t11, t12, t13, t14, t15, t16, t17, t18, t19, t20, t21, t22, t23, t24, t25, t26, t27, t28, s1, s2, s3, s4, eq_self]
  rfl

end Go.Proofs.Ytkomkiejakcilaa

namespace Go.Proofs.Ytkomkiejakcilaa
open Go.Ab
set_option maxRecDepth 100000
set_option linter.unusedSimpArgs false
set_option linter.unusedVariables false

noncomputable abbrev Q7 : Post := ⟨wpR env Try.f7.results.toList fun v _ => v = .bool true, fun _ _ _ _ => False, wpR env Try.f7.results.toList fun v _ => v = .bool true⟩

set_option maxHeartbeats 1000000 in
theorem calls_s1 {u v : V} {xs ys : List Int} (hu : InI u xs) (hv : InI v ys) (n i : Int)
    (h : ¬ 200 < xs.length → ¬ 300 < ys.length → ∀ T, T 0 = u → T 1 = v → T 2 = .int .i64 n → T 3 = .int .i64 i → G env 7 none Try.f7.ntmps Q7 [] (dropC 3 (bodyOf Try.f7)) T [] S.empty) :
    G env 7 none Try.f7.ntmps Q7 [] (bodyOf Try.f7) (argT [u, v, .int .i64 n, .int .i64 i]) [] S.empty := by
  rw [G_cut 3]
  generalize (dropC 3 (bodyOf Try.f7)) = R at *
  have hlx := hu.len 3
  have hly := hv.len 3
  by_cases h1 : 200 < ((xs.length : Nat) : Int)
  · simp only [bodyOf, Try.f7, Option.getD_some, takeC, dropC, G_seq, G_block, G_skip_code, G_skip_blk, G_skip_nil, G_exit_code, G_exit_blk, G_exit_nil, G_ret_code, G_ret_blk, G_ret_nil, G_cond, G_cond_const, G_loop, G_region, G_draw, GL_nil, GL_op, GL_none, GL_guard, GS_some, GS_ite, GS_nite, GN_some, GN_ite, GN_nite, GB_true, GB_false, GB_dec, GG_true_true, GG_true_false, GG_false_true, GG_false_false, GG_true_dec, GG_false_dec, opT_move, opT_assign, opT_pick, pickO_true, pickO_false, opT_binOp, binO_some, opT_unOp, opT_extract, extrO_tup, opT_indexAddr, idxO_slice, opT_load, opT_call, opT_len, opT_append, opT_convert, convO_int, callV_func, evalT, upd_at, Nat.reduceLT, Nat.reduceEqDiff, if_true, if_false, reduceIte, true_and, map_mk, bind_mk, map_ite', map_nite, bind_ite', bind_nite, vBin_add, vBin_sub, vBin_mul, vBin_eql, vBin_neq, vBin_lss, vBin_leq, vBin_gtr, vBin_geq, vBin_rem, vBin_quo, vBin_beql, vBin_bneq, vUn_not, vUn_true, vUn_false, index_row, len_row, len_nilsl, listO_nil, listO_cons, ofVal, ofCell, argT, List.getD_cons_zero, List.getD_cons_succ, List.getElem?_toArray, List.getElem?_cons_zero, List.getElem?_cons_succ, List.nil_append, List.cons_append, List.append_nil, resT, wpR_nil, V1_some, Nat.mul_one, load_row, load_ptr, cellAt_some, opT_store, store_ptr, storeAt_some, cells_row, isCell_row, cells_nilsl, push_mk, set_mk, setT, vUn_neg, opT_max, opT_min, max_two, min_two, List.append_eq, opT_makeFunc, opT_fieldAddr, opT_build, partsO_nil, partsO_cons, faddr_ptr, faddr_rptr, cells_agg, push_last, Nat.add_zero, opT_box, opT_alloc, ints_get, post_norm, post_exit, post_ret, Int.toNat_natCast, Bool.false_eq_true, Int.reduceEq, Int.reduceLT, Int.reduceLE, Int.reduceNeg, not_false_eq_true, and_self, map_nothing, bind_nothing, Int.natCast_one, Int.cast_ofNat_Int, not_true_eq_false, decide_true, decide_false, true_implies, false_implies, Int.toNat_zero, List.length_cons, List.length_nil, Nat.zero_add, mb, Nat.reduceBEq, Bool.false_and, Bool.and_false, cells_int, tys, stb, GK_nil, GK_op, GKS_some, GKS_none, GKS_ite, GKS_nite, Bool.or_false, Bool.false_or, Bool.true_and, Bool.or_true, Bool.true_or, lives_call, hlx, hly, h1]
    rfl
  by_cases h2 : 300 < ((ys.length : Nat) : Int)
  · simp only [bodyOf, Try.f7, Option.getD_some, takeC, dropC, G_seq, G_block, G_skip_code, G_skip_blk, G_skip_nil, G_exit_code, G_exit_blk, G_exit_nil, G_ret_code, G_ret_blk, G_ret_nil, G_cond, G_cond_const, G_loop, G_region, G_draw, GL_nil, GL_op, GL_none, GL_guard, GS_some, GS_ite, GS_nite, GN_some, GN_ite, GN_nite, GB_true, GB_false, GB_dec, GG_true_true, GG_true_false, GG_false_true, GG_false_false, GG_true_dec, GG_false_dec, opT_move, opT_assign, opT_pick, pickO_true, pickO_false, opT_binOp, binO_some, opT_unOp, opT_extract, extrO_tup, opT_indexAddr, idxO_slice, opT_load, opT_call, opT_len, opT_append, opT_convert, convO_int, callV_func, evalT, upd_at, Nat.reduceLT, Nat.reduceEqDiff, if_true, if_false, reduceIte, true_and, map_mk, bind_mk, map_ite', map_nite, bind_ite', bind_nite, vBin_add, vBin_sub, vBin_mul, vBin_eql, vBin_neq, vBin_lss, vBin_leq, vBin_gtr, vBin_geq, vBin_rem, vBin_quo, vBin_beql, vBin_bneq, vUn_not, vUn_true, vUn_false, index_row, len_row, len_nilsl, listO_nil, listO_cons, ofVal, ofCell, argT, List.getD_cons_zero, List.getD_cons_succ, List.getElem?_toArray, List.getElem?_cons_zero, List.getElem?_cons_succ, List.nil_append, List.cons_append, List.append_nil, resT, wpR_nil, V1_some, Nat.mul_one, load_row, load_ptr, cellAt_some, opT_store, store_ptr, storeAt_some, cells_row, isCell_row, cells_nilsl, push_mk, set_mk, setT, vUn_neg, opT_max, opT_min, max_two, min_two, List.append_eq, opT_makeFunc, opT_fieldAddr, opT_build, partsO_nil, partsO_cons, faddr_ptr, faddr_rptr, cells_agg, push_last, Nat.add_zero, opT_box, opT_alloc, ints_get, post_norm, post_exit, post_ret, Int.toNat_natCast, Bool.false_eq_true, Int.reduceEq, Int.reduceLT, Int.reduceLE, Int.reduceNeg, not_false_eq_true, and_self, map_nothing, bind_nothing, Int.natCast_one, Int.cast_ofNat_Int, not_true_eq_false, decide_true, decide_false, true_implies, false_implies, Int.toNat_zero, List.length_cons, List.length_nil, Nat.zero_add, mb, Nat.reduceBEq, Bool.false_and, Bool.and_false, cells_int, tys, stb, GK_nil, GK_op, GKS_some, GKS_none, GKS_ite, GKS_nite, Bool.or_false, Bool.false_or, Bool.true_and, Bool.or_true, Bool.true_or, lives_call, hlx, hly, h1, h2]
    rfl
  simp only [bodyOf, Try.f7, Option.getD_some, takeC, dropC, G_seq, G_block, G_skip_code, G_skip_blk, G_skip_nil, G_exit_code, G_exit_blk, G_exit_nil, G_ret_code, G_ret_blk, G_ret_nil, G_cond, G_cond_const, G_loop, G_region, G_draw, GL_nil, GL_op, GL_none, GL_guard, GS_some, GS_ite, GS_nite, GN_some, GN_ite, GN_nite, GB_true, GB_false, GB_dec, GG_true_true, GG_true_false, GG_false_true, GG_false_false, GG_true_dec, GG_false_dec, opT_move, opT_assign, opT_pick, pickO_true, pickO_false, opT_binOp, binO_some, opT_unOp, opT_extract, extrO_tup, opT_indexAddr, idxO_slice, opT_load, opT_call, opT_len, opT_append, opT_convert, convO_int, callV_func, evalT, upd_at, Nat.reduceLT, Nat.reduceEqDiff, if_true, if_false, reduceIte, true_and, map_mk, bind_mk, map_ite', map_nite, bind_ite', bind_nite, vBin_add, vBin_sub, vBin_mul, vBin_eql, vBin_neq, vBin_lss, vBin_leq, vBin_gtr, vBin_geq, vBin_rem, vBin_quo, vBin_beql, vBin_bneq, vUn_not, vUn_true, vUn_false, index_row, len_row, len_nilsl, listO_nil, listO_cons, ofVal, ofCell, argT, List.getD_cons_zero, List.getD_cons_succ, List.getElem?_toArray, List.getElem?_cons_zero, List.getElem?_cons_succ, List.nil_append, List.cons_append, List.append_nil, resT, wpR_nil, V1_some, Nat.mul_one, load_row, load_ptr, cellAt_some, opT_store, store_ptr, storeAt_some, cells_row, isCell_row, cells_nilsl, push_mk, set_mk, setT, vUn_neg, opT_max, opT_min, max_two, min_two, List.append_eq, opT_makeFunc, opT_fieldAddr, opT_build, partsO_nil, partsO_cons, faddr_ptr, faddr_rptr, cells_agg, push_last, Nat.add_zero, opT_box, opT_alloc, ints_get, post_norm, post_exit, post_ret, Int.toNat_natCast, Bool.false_eq_true, Int.reduceEq, Int.reduceLT, Int.reduceLE, Int.reduceNeg, not_false_eq_true, and_self, map_nothing, bind_nothing, Int.natCast_one, Int.cast_ofNat_Int, not_true_eq_false, decide_true, decide_false, true_implies, false_implies, Int.toNat_zero, List.length_cons, List.length_nil, Nat.zero_add, mb, Nat.reduceBEq, Bool.false_and, Bool.and_false, cells_int, tys, stb, GK_nil, GK_op, GKS_some, GKS_none, GKS_ite, GKS_nite, Bool.or_false, Bool.false_or, Bool.true_and, Bool.or_true, Bool.true_or, lives_call, hlx, hly, h1, h2] at h ⊢
  exact h (by omega) (by omega) _ rfl rfl rfl rfl
end Go.Proofs.Ytkomkiejakcilaa

namespace Go.Proofs.Ytkomkiejakcilaa
open Go.Ab
set_option maxRecDepth 100000
set_option linter.unusedSimpArgs false
set_option linter.unusedVariables false

set_option maxHeartbeats 1000000 in
theorem calls_s2 {T : Tm} {u v x3 : V} {xs : List Int} {n i x5 e5 e3 : Int} (q5 : heightV n = .tup [.int .i64 x5, .int .i64 e5]) (q3 : nodesV xs = .tup [x3, .int .i64 e3])
    (c1 : ∀ σ, callFn env (ev env) 13 [u] σ = some (rowI xs, σ)) (c3 : ∀ σ, callFn env (ev env) 10 [rowI xs] σ = some (nodesV xs, σ)) (c4 : ∀ σ, callFn env (ev env) 20 [u] σ = some (nodesV xs, σ))
    (t0 : T 0 = u) (t1 : T 1 = v) (t2 : T 2 = .int .i64 n) (t3 : T 3 = .int .i64 i)
    (h : ∀ T, T 0 = u → T 1 = v → T 2 = .int .i64 n → T 3 = .int .i64 i → T 9 = .int .i64 x5 → T 10 = .int .i64 e5 → T 11 = .int .i64 x5 → T 12 = .int .i64 e5 → T 13 = x3 → T 14 = .int .i64 e3 → T 15 = x3 → T 16 = .int .i64 e3 →
      G env 7 none Try.f7.ntmps Q7 [] (dropC 7 (bodyOf Try.f7)) T [] S.empty) :
    G env 7 none Try.f7.ntmps Q7 [] (dropC 3 (bodyOf Try.f7)) T [] S.empty := by
  rw [G_cut 4, dropC_add, show 3 + 4 = 7 from rfl]
  generalize (dropC 7 (bodyOf Try.f7)) = R at *
  simp only [bodyOf, Try.f7, Option.getD_some, takeC, dropC, G_seq, G_block, G_skip_code, G_skip_blk, G_skip_nil, G_exit_code, G_exit_blk, G_exit_nil, G_ret_code, G_ret_blk, G_ret_nil, G_cond, G_cond_const, G_loop, G_region, G_draw, GL_nil, GL_op, GL_none, GL_guard, GS_some, GS_ite, GS_nite, GN_some, GN_ite, GN_nite, GB_true, GB_false, GB_dec, GG_true_true, GG_true_false, GG_false_true, GG_false_false, GG_true_dec, GG_false_dec, opT_move, opT_assign, opT_pick, pickO_true, pickO_false, opT_binOp, binO_some, opT_unOp, opT_extract, extrO_tup, opT_indexAddr, idxO_slice, opT_load, opT_call, opT_len, opT_append, opT_convert, convO_int, callV_func, evalT, upd_at, Nat.reduceLT, Nat.reduceEqDiff, if_true, if_false, reduceIte, true_and, map_mk, bind_mk, map_ite', map_nite, bind_ite', bind_nite, vBin_add, vBin_sub, vBin_mul, vBin_eql, vBin_neq, vBin_lss, vBin_leq, vBin_gtr, vBin_geq, vBin_rem, vBin_quo, vBin_beql, vBin_bneq, vUn_not, vUn_true, vUn_false, index_row, len_row, len_nilsl, listO_nil, listO_cons, ofVal, ofCell, argT, List.getD_cons_zero, List.getD_cons_succ, List.getElem?_toArray, List.getElem?_cons_zero, List.getElem?_cons_succ, List.nil_append, List.cons_append, List.append_nil, resT, wpR_nil, V1_some, Nat.mul_one, load_row, load_ptr, cellAt_some, opT_store, store_ptr, storeAt_some, cells_row, isCell_row, cells_nilsl, push_mk, set_mk, setT, vUn_neg, opT_max, opT_min, max_two, min_two, List.append_eq, opT_makeFunc, opT_fieldAddr, opT_build, partsO_nil, partsO_cons, faddr_ptr, faddr_rptr, cells_agg, push_last, Nat.add_zero, opT_box, opT_alloc, ints_get, post_norm, post_exit, post_ret, Int.toNat_natCast, Bool.false_eq_true, Int.reduceEq, Int.reduceLT, Int.reduceLE, Int.reduceNeg, not_false_eq_true, and_self, map_nothing, bind_nothing, Int.natCast_one, Int.cast_ofNat_Int, not_true_eq_false, decide_true, decide_false, true_implies, false_implies, Int.toNat_zero, List.length_cons, List.length_nil, Nat.zero_add, mb, Nat.reduceBEq, Bool.false_and, Bool.and_false, cells_int, tys, stb, GK_nil, GK_op, GKS_some, GKS_none, GKS_ite, GKS_nite, Bool.or_false, Bool.false_or, Bool.true_and, Bool.or_true, Bool.true_or, height_call, rheight_call, t0, t1, t2, t3, c1, c3, c4, q3, q5]
  exact h _ t0 t1 t2 t3 rfl rfl rfl rfl rfl rfl rfl rfl

end Go.Proofs.Ytkomkiejakcilaa

namespace Go.Proofs.Ytkomkiejakcilaa
open Go.Ab
set_option maxRecDepth 100000
set_option linter.unusedSimpArgs false
set_option linter.unusedVariables false

set_option maxHeartbeats 1000000 in
theorem calls_s3 {T : Tm} {u v x1 x2 x3 : V} {n i x5 e5 e1 e2 e3 : Int} 
    (c7 : ∀ σ, callFn env (ev env) 17 [.int .i64 n, .int .i64 i] σ = some (.tup [x1, .int .i64 e1], σ)) (c8 : ∀ σ, callFn env (ev env) 21 [.int .i64 n, .int .i64 i] σ = some (.tup [x1, .int .i64 e1], σ))
    (c9 : ∀ σ, callFn env (ev env) 14 [.int .i64 n, .int .i64 i] σ = some (.tup [x2, .int .i64 e2], σ)) (c10 : ∀ σ, callFn env (ev env) 22 [.int .i64 n, .int .i64 i] σ = some (.tup [x2, .int .i64 e2], σ))
    (t0 : T 0 = u) (t1 : T 1 = v) (t2 : T 2 = .int .i64 n) (t3 : T 3 = .int .i64 i) (t9 : T 9 = .int .i64 x5) (t10 : T 10 = .int .i64 e5) (t11 : T 11 = .int .i64 x5) (t12 : T 12 = .int .i64 e5) (t13 : T 13 = x3) (t14 : T 14 = .int .i64 e3) (t15 : T 15 = x3) (t16 : T 16 = .int .i64 e3)
    (h : ∀ T, T 1 = v → T 2 = .int .i64 n → T 9 = .int .i64 x5 → T 10 = .int .i64 e5 → T 11 = .int .i64 x5 → T 12 = .int .i64 e5 → T 13 = x3 → T 14 = .int .i64 e3 → T 15 = x3 → T 16 = .int .i64 e3 →
      T 17 = x1 → T 18 = .int .i64 e1 → T 19 = x1 → T 20 = .int .i64 e1 → T 21 = x2 → T 22 = .int .i64 e2 → T 23 = x2 → T 24 = .int .i64 e2 →
      G env 7 none Try.f7.ntmps Q7 [] (dropC 11 (bodyOf Try.f7)) T [] S.empty) :
    G env 7 none Try.f7.ntmps Q7 [] (dropC 7 (bodyOf Try.f7)) T [] S.empty := by
  rw [G_cut 4, dropC_add, show 7 + 4 = 11 from rfl]
  generalize (dropC 11 (bodyOf Try.f7)) = R at *
  simp only [bodyOf, Try.f7, Option.getD_some, takeC, dropC, G_seq, G_block, G_skip_code, G_skip_blk, G_skip_nil, G_exit_code, G_exit_blk, G_exit_nil, G_ret_code, G_ret_blk, G_ret_nil, G_cond, G_cond_const, G_loop, G_region, G_draw, GL_nil, GL_op, GL_none, GL_guard, GS_some, GS_ite, GS_nite, GN_some, GN_ite, GN_nite, GB_true, GB_false, GB_dec, GG_true_true, GG_true_false, GG_false_true, GG_false_false, GG_true_dec, GG_false_dec, opT_move, opT_assign, opT_pick, pickO_true, pickO_false, opT_binOp, binO_some, opT_unOp, opT_extract, extrO_tup, opT_indexAddr, idxO_slice, opT_load, opT_call, opT_len, opT_append, opT_convert, convO_int, callV_func, evalT, upd_at, Nat.reduceLT, Nat.reduceEqDiff, if_true, if_false, reduceIte, true_and, map_mk, bind_mk, map_ite', map_nite, bind_ite', bind_nite, vBin_add, vBin_sub, vBin_mul, vBin_eql, vBin_neq, vBin_lss, vBin_leq, vBin_gtr, vBin_geq, vBin_rem, vBin_quo, vBin_beql, vBin_bneq, vUn_not, vUn_true, vUn_false, index_row, len_row, len_nilsl, listO_nil, listO_cons, ofVal, ofCell, argT, List.getD_cons_zero, List.getD_cons_succ, List.getElem?_toArray, List.getElem?_cons_zero, List.getElem?_cons_succ, List.nil_append, List.cons_append, List.append_nil, resT, wpR_nil, V1_some, Nat.mul_one, load_row, load_ptr, cellAt_some, opT_store, store_ptr, storeAt_some, cells_row, isCell_row, cells_nilsl, push_mk, set_mk, setT, vUn_neg, opT_max, opT_min, max_two, min_two, List.append_eq, opT_makeFunc, opT_fieldAddr, opT_build, partsO_nil, partsO_cons, faddr_ptr, faddr_rptr, cells_agg, push_last, Nat.add_zero, opT_box, opT_alloc, ints_get, post_norm, post_exit, post_ret, Int.toNat_natCast, Bool.false_eq_true, Int.reduceEq, Int.reduceLT, Int.reduceLE, Int.reduceNeg, not_false_eq_true, and_self, map_nothing, bind_nothing, Int.natCast_one, Int.cast_ofNat_Int, not_true_eq_false, decide_true, decide_false, true_implies, false_implies, Int.toNat_zero, List.length_cons, List.length_nil, Nat.zero_add, mb, Nat.reduceBEq, Bool.false_and, Bool.and_false, cells_int, tys, stb, GK_nil, GK_op, GKS_some, GKS_none, GKS_ite, GKS_nite, Bool.or_false, Bool.false_or, Bool.true_and, Bool.or_true, Bool.true_or, t0, t1, t2, t3, c7, c8, c9, c10]
  exact h _ t1 t2 t9 t10 t11 t12 t13 t14 t15 t16 rfl rfl rfl rfl rfl rfl rfl rfl

end Go.Proofs.Ytkomkiejakcilaa

namespace Go.Proofs.Ytkomkiejakcilaa
open Go.Ab
set_option maxRecDepth 100000
set_option linter.unusedSimpArgs false
set_option linter.unusedVariables false

set_option maxHeartbeats 1000000 in
theorem calls_s4 {T : Tm} {v x1 x2 x3 x4 : V} {ys : List Int} {n x5 e5 e1 e2 e3 e4 : Int} (q4 : prefV ys n = .tup [x4, .int .i64 e4])
    (c2 : ∀ σ, callFn env (ev env) 13 [v] σ = some (rowI ys, σ)) (c5 : ∀ σ, callFn env (ev env) 11 [rowI ys, .int .i64 n] σ = some (prefV ys n, σ)) (c6 : ∀ σ, callFn env (ev env) 23 [v, .int .i64 n] σ = some (prefV ys n, σ))
    (t1 : T 1 = v) (t2 : T 2 = .int .i64 n) (t9 : T 9 = .int .i64 x5) (t10 : T 10 = .int .i64 e5) (t11 : T 11 = .int .i64 x5) (t12 : T 12 = .int .i64 e5) (t13 : T 13 = x3) (t14 : T 14 = .int .i64 e3) (t15 : T 15 = x3) (t16 : T 16 = .int .i64 e3)
    (t17 : T 17 = x1) (t18 : T 18 = .int .i64 e1) (t19 : T 19 = x1) (t20 : T 20 = .int .i64 e1) (t21 : T 21 = x2) (t22 : T 22 = .int .i64 e2) (t23 : T 23 = x2) (t24 : T 24 = .int .i64 e2)
    (h : ∀ T, T 9 = .int .i64 x5 → T 10 = .int .i64 e5 → T 11 = .int .i64 x5 → T 12 = .int .i64 e5 → T 13 = x3 → T 14 = .int .i64 e3 → T 15 = x3 → T 16 = .int .i64 e3 →
      T 17 = x1 → T 18 = .int .i64 e1 → T 19 = x1 → T 20 = .int .i64 e1 → T 21 = x2 → T 22 = .int .i64 e2 → T 23 = x2 → T 24 = .int .i64 e2 → T 25 = x4 → T 26 = .int .i64 e4 → T 27 = x4 → T 28 = .int .i64 e4 →
      G env 7 none Try.f7.ntmps Q7 [] (dropC 13 (bodyOf Try.f7)) T [] S.empty) :
    G env 7 none Try.f7.ntmps Q7 [] (dropC 11 (bodyOf Try.f7)) T [] S.empty := by
  rw [G_cut 2, dropC_add, show 11 + 2 = 13 from rfl]
  generalize (dropC 13 (bodyOf Try.f7)) = R at *
  simp only [bodyOf, Try.f7, Option.getD_some, takeC, dropC, G_seq, G_block, G_skip_code, G_skip_blk, G_skip_nil, G_exit_code, G_exit_blk, G_exit_nil, G_ret_code, G_ret_blk, G_ret_nil, G_cond, G_cond_const, G_loop, G_region, G_draw, GL_nil, GL_op, GL_none, GL_guard, GS_some, GS_ite, GS_nite, GN_some, GN_ite, GN_nite, GB_true, GB_false, GB_dec, GG_true_true, GG_true_false, GG_false_true, GG_false_false, GG_true_dec, GG_false_dec, opT_move, opT_assign, opT_pick, pickO_true, pickO_false, opT_binOp, binO_some, opT_unOp, opT_extract, extrO_tup, opT_indexAddr, idxO_slice, opT_load, opT_call, opT_len, opT_append, opT_convert, convO_int, callV_func, evalT, upd_at, Nat.reduceLT, Nat.reduceEqDiff, if_true, if_false, reduceIte, true_and, map_mk, bind_mk, map_ite', map_nite, bind_ite', bind_nite, vBin_add, vBin_sub, vBin_mul, vBin_eql, vBin_neq, vBin_lss, vBin_leq, vBin_gtr, vBin_geq, vBin_rem, vBin_quo, vBin_beql, vBin_bneq, vUn_not, vUn_true, vUn_false, index_row, len_row, len_nilsl, listO_nil, listO_cons, ofVal, ofCell, argT, List.getD_cons_zero, List.getD_cons_succ, List.getElem?_toArray, List.getElem?_cons_zero, List.getElem?_cons_succ, List.nil_append, List.cons_append, List.append_nil, resT, wpR_nil, V1_some, Nat.mul_one, load_row, load_ptr, cellAt_some, opT_store, store_ptr, storeAt_some, cells_row, isCell_row, cells_nilsl, push_mk, set_mk, setT, vUn_neg, opT_max, opT_min, max_two, min_two, List.append_eq, opT_makeFunc, opT_fieldAddr, opT_build, partsO_nil, partsO_cons, faddr_ptr, faddr_rptr, cells_agg, push_last, Nat.add_zero, opT_box, opT_alloc, ints_get, post_norm, post_exit, post_ret, Int.toNat_natCast, Bool.false_eq_true, Int.reduceEq, Int.reduceLT, Int.reduceLE, Int.reduceNeg, not_false_eq_true, and_self, map_nothing, bind_nothing, Int.natCast_one, Int.cast_ofNat_Int, not_true_eq_false, decide_true, decide_false, true_implies, false_implies, Int.toNat_zero, List.length_cons, List.length_nil, Nat.zero_add, mb, Nat.reduceBEq, Bool.false_and, Bool.and_false, cells_int, tys, stb, GK_nil, GK_op, GKS_some, GKS_none, GKS_ite, GKS_nite, Bool.or_false, Bool.false_or, Bool.true_and, Bool.or_true, Bool.true_or, t1, t2, c2, c5, q4]
  simp only [c6, q4, GS_some, GL_op, opT_move, opT_extract, extrO_tup, evalT, upd_at, Nat.reduceLT, Nat.reduceEqDiff, if_true, if_false, reduceIte, true_and, map_mk, bind_mk, List.getElem?_cons_zero, List.getElem?_cons_succ, opT_assign, GL_nil]
  refine h _ t9 t10 t11 t12 t13 t14 t15 t16 t17 t18 t19 t20 t21 t22 t23 t24 rfl rfl rfl rfl
end Go.Proofs.Ytkomkiejakcilaa

namespace Go.Proofs.Ytkomkiejakcilaa
open Go.Ab
set_option maxRecDepth 100000
set_option linter.unusedSimpArgs false
set_option linter.unusedVariables false

theorem calls_found {u v : V} {xs ys : List Int} (hu : InI u xs) (hv : InI v ys) (n i : Int) : Go.Ab.Found env 7 [u, v, .int .i64 n, .int .i64 i] := by
  refine found_of_wp at7 (body := bodyOf Try.f7) rfl (by simp [Try.f7]) (by simp [Try.f7]) ?_
  refine calls_s1 hu hv n i fun h1 h2 T t0 t1 t2 t3 => ?_
  have c1 := own_in hu (by omega)
  have c2 := own_in hv (by omega)
  have c3 := nodes_call (show InI (rowI xs) xs from .inl rfl) (by omega)
  have c4 := rnodes_call hu (by omega)
  have c5 := prefix_call (show InI (rowI ys) ys from .inl rfl) (by omega) n
  have c6 := rprefix_call hv (by omega) n
  obtain ⟨x1, l1, e1, i1, b1, c7, c8⟩ := cover_all n i
  obtain ⟨x2, l2, e2, i2, b2, c9, c10⟩ := path_all n i
  obtain ⟨x3, l3, e3, i3, b3, q3⟩ := nodesV_form xs
  obtain ⟨x4, l4, e4, i4, b4, q4⟩ := prefV_form ys n
  obtain ⟨x5, e5, q5⟩ := heightV_form n
  refine calls_s2 q5 q3 c1 c3 c4 t0 t1 t2 t3 fun T a0 a1 a2 a3 a4 a5 a6 a7 a8 a9 a10 a11 => ?_
  refine calls_s3 c7 c8 c9 c10 a0 a1 a2 a3 a4 a5 a6 a7 a8 a9 a10 a11 fun T a1 a2 b1 b2 b3 b4 b5 b6 b7 b8 b9 b10 b11 b12 b13 b14 b15 b16 => ?_
  refine calls_s4 q4 c2 c5 c6 a1 a2 b1 b2 b3 b4 b5 b6 b7 b8 b9 b10 b11 b12 b13 b14 b15 b16 fun T d1 d2 d3 d4 d5 d6 d7 d8 d9 d10 d11 d12 d13 d14 d15 d16 d17 d18 d19 d20 => ?_
  exact calls_tail (same_in i1 i1 (by omega)) (same_in i2 i2 (by omega)) (same_in i3 i3 (by omega)) (same_in i4 i4 (by omega)) d1 d2 d3 d4 d5 d6 d7 d8 d9 d10 d11 d12 d13 d14 d15 d16 d17 d18 d19 d20
end Go.Proofs.Ytkomkiejakcilaa
