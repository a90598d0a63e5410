/- Proved here: what the law TreeSums comes to. Conditions: those of each theorem; no statement of the seat is proved in this text. -/
import Derived.Test.YtkomkiejakcilaaTrE
namespace Go.Proofs.Ytkomkiejakcilaa
open Go.Ab
set_option maxRecDepth 100000
set_option linter.unusedSimpArgs false
set_option linter.unusedVariables false
theorem at3 : env.P.funcs[3]? = some Try.f3 := by kernel_rfl
theorem u4 : env.P.underlying 4 = some .bool := by kernel_rfl

theorem rsum_zero (f : Nat → Int) (a : Nat) (hf : ∀ j, a ≤ j → f j = 0) : ∀ n, rsum f a n = 0
  | 0 => rfl
  | n + 1 => by simp only [rsum, rsum_zero f a hf n, hf (a + n) (by omega)]; rfl

theorem sums_val (h n : Nat) (hh : h ≤ 7) (zs : List Int) (hz : zs.length ≤ 2 ^ h) (hw : Within zs 1125899906842624) (i : Nat) (hi : i < n) (hn : n ≤ 2 ^ h) : (sums h (nodesL h zs) n).getD i 0 = rsum (fun j => zs.getD j 0) 0 (i + 1) := by
  have hp := pow_le h hh
  have e : (sums h (nodesL h zs) n).getD i 0 = wsum (nodesL h zs) (cov h 0 0 (i + 1)) := by simp [sums, List.getD, hi]
  have hl := cov_len2 h 0 0 (i + 1)
  obtain ⟨h1, _, _⟩ := wsum_exact (nodesL h zs) (nodes_within h hh zs hz hw) (cov h 0 0 (i + 1)) (by omega)
  rw [e, h1, cov_sum h (nodesL h zs) (fun j => zs.getD j 0) (fun d k a l => nodes_val h hh zs hz hw l) (i + 1) h 0 0 ⟨Nat.le_refl _, by omega, by omega⟩]
  congr 1
  omega

set_option maxHeartbeats 2000000 in
theorem sums_found {v : V} {zs : List Int} (hv : InI v zs) : Go.Ab.Found env 3 [v] := by
  refine found_of_wp at3 rfl (by simp [Try.f3]) (by simp [Try.f3]) (G_start ?_)
  have hlen := hv.len 3
  by_cases hl : 200 < ((zs.length : Nat) : Int)
  · simp only [Try.f3, G_seq, G_block, G_skip_code, G_skip_blk, G_skip_nil, G_exit_code, G_exit_blk, G_exit_nil, G_ret_code, G_ret_blk, G_ret_nil, G_cond, G_cond_const, G_loop, G_region, G_draw, GL_nil, GL_op, GL_none, GL_guard, GS_some, GS_ite, GS_nite, GN_some, GN_ite, GN_nite, GB_true, GB_false, GB_dec, GG_true_true, GG_true_false, GG_false_true, GG_false_false, GG_true_dec, GG_false_dec, opT_move, opT_assign, opT_pick, pickO_true, pickO_false, opT_binOp, binO_some, opT_unOp, opT_extract, extrO_tup, opT_indexAddr, idxO_slice, opT_load, opT_call, opT_len, opT_append, opT_convert, convO_int, callV_func, evalT, upd_at, Nat.reduceLT, Nat.reduceEqDiff, if_true, if_false, reduceIte, true_and, map_mk, bind_mk, map_ite', map_nite, bind_ite', bind_nite, vBin_add, vBin_sub, vBin_mul, vBin_eql, vBin_neq, vBin_lss, vBin_leq, vBin_gtr, vBin_geq, vBin_rem, vBin_quo, vBin_beql, vBin_bneq, vUn_not, vUn_true, vUn_false, index_row, len_row, len_nilsl, listO_nil, listO_cons, ofVal, ofCell, argT, List.getD_cons_zero, List.getD_cons_succ, List.getElem?_toArray, List.getElem?_cons_zero, List.getElem?_cons_succ, List.nil_append, List.cons_append, List.append_nil, resT, wpR_nil, V1_some, Nat.mul_one, load_row, load_ptr, cellAt_some, opT_store, store_ptr, storeAt_some, cells_row, isCell_row, cells_nilsl, push_mk, set_mk, setT, vUn_neg, opT_max, opT_min, max_two, min_two, List.append_eq, opT_makeFunc, opT_fieldAddr, opT_build, partsO_nil, partsO_cons, faddr_ptr, faddr_rptr, cells_agg, push_last, Nat.add_zero, opT_box, opT_alloc, ints_get, post_norm, post_exit, post_ret, Int.toNat_natCast, Bool.false_eq_true, Int.reduceEq, Int.reduceLT, Int.reduceLE, Int.reduceNeg, not_false_eq_true, and_self, map_nothing, bind_nothing, Int.natCast_one, Int.cast_ofNat_Int, not_true_eq_false, decide_true, decide_false, true_implies, false_implies, Int.toNat_zero, List.length_cons, List.length_nil, Nat.zero_add, mb, Nat.reduceBEq, Bool.false_and, Bool.and_false, cells_int, tys, stb, GK_nil, GK_op, GKS_some, GKS_none, GKS_ite, GKS_nite, Bool.or_false, Bool.false_or, Bool.true_and, Bool.or_true, Bool.true_or, lives_call, hlen, hl]
    rfl
  · have hc := nodes_call hv (by omega)
    by_cases hb : zs.length = 0 ∨ 128 < zs.length ∨ ¬ Within zs 1125899906842624
    · have hnv : nodesV zs = .tup [.nilsl, .int .i64 2] ∨ nodesV zs = .tup [.nilsl, .int .i64 4] := by
        unfold nodesV
        split
        · exact .inl rfl
        · split
          · exact .inr rfl
          · rw [if_neg (by rcases hb with h | h | h; omega; omega; exact h)]; exact .inl rfl
      rcases hnv with hnv | hnv
      · simp only [Try.f3, G_seq, G_block, G_skip_code, G_skip_blk, G_skip_nil, G_exit_code, G_exit_blk, G_exit_nil, G_ret_code, G_ret_blk, G_ret_nil, G_cond, G_cond_const, G_loop, G_region, G_draw, GL_nil, GL_op, GL_none, GL_guard, GS_some, GS_ite, GS_nite, GN_some, GN_ite, GN_nite, GB_true, GB_false, GB_dec, GG_true_true, GG_true_false, GG_false_true, GG_false_false, GG_true_dec, GG_false_dec, opT_move, opT_assign, opT_pick, pickO_true, pickO_false, opT_binOp, binO_some, opT_unOp, opT_extract, extrO_tup, opT_indexAddr, idxO_slice, opT_load, opT_call, opT_len, opT_append, opT_convert, convO_int, callV_func, evalT, upd_at, Nat.reduceLT, Nat.reduceEqDiff, if_true, if_false, reduceIte, true_and, map_mk, bind_mk, map_ite', map_nite, bind_ite', bind_nite, vBin_add, vBin_sub, vBin_mul, vBin_eql, vBin_neq, vBin_lss, vBin_leq, vBin_gtr, vBin_geq, vBin_rem, vBin_quo, vBin_beql, vBin_bneq, vUn_not, vUn_true, vUn_false, index_row, len_row, len_nilsl, listO_nil, listO_cons, ofVal, ofCell, argT, List.getD_cons_zero, List.getD_cons_succ, List.getElem?_toArray, List.getElem?_cons_zero, List.getElem?_cons_succ, List.nil_append, List.cons_append, List.append_nil, resT, wpR_nil, V1_some, Nat.mul_one, load_row, load_ptr, cellAt_some, opT_store, store_ptr, storeAt_some, cells_row, isCell_row, cells_nilsl, push_mk, set_mk, setT, vUn_neg, opT_max, opT_min, max_two, min_two, List.append_eq, opT_makeFunc, opT_fieldAddr, opT_build, partsO_nil, partsO_cons, faddr_ptr, faddr_rptr, cells_agg, push_last, Nat.add_zero, opT_box, opT_alloc, ints_get, post_norm, post_exit, post_ret, Int.toNat_natCast, Bool.false_eq_true, Int.reduceEq, Int.reduceLT, Int.reduceLE, Int.reduceNeg, not_false_eq_true, and_self, map_nothing, bind_nothing, Int.natCast_one, Int.cast_ofNat_Int, not_true_eq_false, decide_true, decide_false, true_implies, false_implies, Int.toNat_zero, List.length_cons, List.length_nil, Nat.zero_add, mb, Nat.reduceBEq, Bool.false_and, Bool.and_false, cells_int, tys, stb, GK_nil, GK_op, GKS_some, GKS_none, GKS_ite, GKS_nite, Bool.or_false, Bool.false_or, Bool.true_and, Bool.or_true, Bool.true_or, lives_call, hlen, hl, hc, hnv]
        rfl
      · simp only [Try.f3, G_seq, G_block, G_skip_code, G_skip_blk, G_skip_nil, G_exit_code, G_exit_blk, G_exit_nil, G_ret_code, G_ret_blk, G_ret_nil, G_cond, G_cond_const, G_loop, G_region, G_draw, GL_nil, GL_op, GL_none, GL_guard, GS_some, GS_ite, GS_nite, GN_some, GN_ite, GN_nite, GB_true, GB_false, GB_dec, GG_true_true, GG_true_false, GG_false_true, GG_false_false, GG_true_dec, GG_false_dec, opT_move, opT_assign, opT_pick, pickO_true, pickO_false, opT_binOp, binO_some, opT_unOp, opT_extract, extrO_tup, opT_indexAddr, idxO_slice, opT_load, opT_call, opT_len, opT_append, opT_convert, convO_int, callV_func, evalT, upd_at, Nat.reduceLT, Nat.reduceEqDiff, if_true, if_false, reduceIte, true_and, map_mk, bind_mk, map_ite', map_nite, bind_ite', bind_nite, vBin_add, vBin_sub, vBin_mul, vBin_eql, vBin_neq, vBin_lss, vBin_leq, vBin_gtr, vBin_geq, vBin_rem, vBin_quo, vBin_beql, vBin_bneq, vUn_not, vUn_true, vUn_false, index_row, len_row, len_nilsl, listO_nil, listO_cons, ofVal, ofCell, argT, List.getD_cons_zero, List.getD_cons_succ, List.getElem?_toArray, List.getElem?_cons_zero, List.getElem?_cons_succ, List.nil_append, List.cons_append, List.append_nil, resT, wpR_nil, V1_some, Nat.mul_one, load_row, load_ptr, cellAt_some, opT_store, store_ptr, storeAt_some, cells_row, isCell_row, cells_nilsl, push_mk, set_mk, setT, vUn_neg, opT_max, opT_min, max_two, min_two, List.append_eq, opT_makeFunc, opT_fieldAddr, opT_build, partsO_nil, partsO_cons, faddr_ptr, faddr_rptr, cells_agg, push_last, Nat.add_zero, opT_box, opT_alloc, ints_get, post_norm, post_exit, post_ret, Int.toNat_natCast, Bool.false_eq_true, Int.reduceEq, Int.reduceLT, Int.reduceLE, Int.reduceNeg, not_false_eq_true, and_self, map_nothing, bind_nothing, Int.natCast_one, Int.cast_ofNat_Int, not_true_eq_false, decide_true, decide_false, true_implies, false_implies, Int.toNat_zero, List.length_cons, List.length_nil, Nat.zero_add, mb, Nat.reduceBEq, Bool.false_and, Bool.and_false, cells_int, tys, stb, GK_nil, GK_op, GKS_some, GKS_none, GKS_ite, GKS_nite, Bool.or_false, Bool.false_or, Bool.true_and, Bool.or_true, Bool.true_or, lives_call, hlen, hl, hc, hnv]
        rfl
    · have h0 : ¬ zs.length = 0 := fun h => hb (.inl h)
      have h1 : ¬ 128 < zs.length := fun h => hb (.inr (.inl h))
      have hw : Within zs 1125899906842624 := Classical.not_not.1 fun h => hb (.inr (.inr h))
      have hnv : nodesV zs = .tup [rowI (nodesL (hgt zs.length) zs), .int .i64 0] := by
        unfold nodesV
        rw [if_neg h0, if_neg h1, if_pos hw]
      have hvr : v = rowI zs := by
        rcases hv with h | ⟨_, h⟩
        · exact h
        · rw [h] at h0; simp at h0
      subst hvr
      have hh := hgt_le zs.length
      have hpw := hgt_pow zs.length (by omega) (by omega)
      have hcast := pow_cast (hgt zs.length)
      have hz : zs.length ≤ 2 ^ hgt zs.length := by omega
      have hp := pow_le _ hh
      have e2 : 2 ^ (hgt zs.length + 1) = 2 * 2 ^ hgt zs.length := by rw [Nat.pow_succ]; omega
      have hnl := nodesL_len _ zs hz
      have hpc := prefix_call (show InI (rowI (nodesL (hgt zs.length) zs)) _ from .inl rfl) (by rw [hnl]; omega) zs.length
      have hpv : prefV (nodesL (hgt zs.length) zs) zs.length = .tup [rowI (sums (hgt zs.length) (nodesL (hgt zs.length) zs) zs.length), .int .i64 0] := by
        unfold prefV
        rw [if_neg (by simp [nodes_within _ hh zs hz hw]; omega), if_neg (by rw [hnl]; simp)]
        simp
      rw [hpv] at hpc
      have hsl : (sums (hgt zs.length) (nodesL (hgt zs.length) zs) zs.length).length = zs.length := by simp
      have hsv := fun i hi => sums_val (hgt zs.length) zs.length hh zs hz hw i hi hz
      have hn0 : (nodesL (hgt zs.length) zs).getD 0 0 = rsum (fun j => zs.getD j 0) 0 zs.length := by
        rw [nodes_val _ hh zs hz hw (d := hgt zs.length) (a := 0) ⟨Nat.le_refl _, by omega, by omega⟩, show 2 ^ hgt zs.length = zs.length + (2 ^ hgt zs.length - zs.length) by omega, rsum_add, Nat.zero_add,
          rsum_zero _ zs.length (fun j hj => by simp [List.getD, List.getElem?_eq_none hj])]
        omega
      have hnc : ¬ ((nodesL (hgt zs.length) zs).length : Int) = 0 := by rw [hnl]; omega
      have hnc2 : (0 : Int) < ((nodesL (hgt zs.length) zs).length : Int) := by omega
      have hnc3 : 0 < (nodesL (hgt zs.length) zs).length := by omega
      have hf : ∀ j, -(2 ^ 51) ≤ zs.getD j 0 ∧ zs.getD j 0 ≤ 2 ^ 51 := fun j => by
        by_cases hj : j < zs.length
        · have := (within_iff _ _).1 hw j hj; omega
        · simp [List.getD, List.getElem?_eq_none (Nat.le_of_not_lt hj)]
      have hrb := rsum_bound _ (2 ^ 51) hf 0
      generalize sums (hgt zs.length) (nodesL (hgt zs.length) zs) zs.length = L at *
      generalize nodesL (hgt zs.length) zs = N at *
      simp only [Try.f3, G_seq, G_block, G_skip_code, G_skip_blk, G_skip_nil, G_exit_code, G_exit_blk, G_exit_nil, G_ret_code, G_ret_blk, G_ret_nil, G_cond, G_cond_const, G_loop, G_region, G_draw, GL_nil, GL_op, GL_none, GL_guard, GS_some, GS_ite, GS_nite, GN_some, GN_ite, GN_nite, GB_true, GB_false, GB_dec, GG_true_true, GG_true_false, GG_false_true, GG_false_false, GG_true_dec, GG_false_dec, opT_move, opT_assign, opT_pick, pickO_true, pickO_false, opT_binOp, binO_some, opT_unOp, opT_extract, extrO_tup, opT_indexAddr, idxO_slice, opT_load, opT_call, opT_len, opT_append, opT_convert, convO_int, callV_func, evalT, upd_at, Nat.reduceLT, Nat.reduceEqDiff, if_true, if_false, reduceIte, true_and, map_mk, bind_mk, map_ite', map_nite, bind_ite', bind_nite, vBin_add, vBin_sub, vBin_mul, vBin_eql, vBin_neq, vBin_lss, vBin_leq, vBin_gtr, vBin_geq, vBin_rem, vBin_quo, vBin_beql, vBin_bneq, vUn_not, vUn_true, vUn_false, index_row, len_row, len_nilsl, listO_nil, listO_cons, ofVal, ofCell, argT, List.getD_cons_zero, List.getD_cons_succ, List.getElem?_toArray, List.getElem?_cons_zero, List.getElem?_cons_succ, List.nil_append, List.cons_append, List.append_nil, resT, wpR_nil, V1_some, Nat.mul_one, load_row, load_ptr, cellAt_some, opT_store, store_ptr, storeAt_some, cells_row, isCell_row, cells_nilsl, push_mk, set_mk, setT, vUn_neg, opT_max, opT_min, max_two, min_two, List.append_eq, opT_makeFunc, opT_fieldAddr, opT_build, partsO_nil, partsO_cons, faddr_ptr, faddr_rptr, cells_agg, push_last, Nat.add_zero, opT_box, opT_alloc, ints_get, post_norm, post_exit, post_ret, Int.toNat_natCast, Bool.false_eq_true, Int.reduceEq, Int.reduceLT, Int.reduceLE, Int.reduceNeg, not_false_eq_true, and_self, map_nothing, bind_nothing, Int.natCast_one, Int.cast_ofNat_Int, not_true_eq_false, decide_true, decide_false, true_implies, false_implies, Int.toNat_zero, List.length_cons, List.length_nil, Nat.zero_add, mb, Nat.reduceBEq, Bool.false_and, Bool.and_false, cells_int, tys, stb, GK_nil, GK_op, GKS_some, GKS_none, GKS_ite, GKS_nite, Bool.or_false, Bool.false_or, Bool.true_and, Bool.or_true, Bool.true_or, lives_call, hlen, hl, hc, hnv, hpc, hsl, hnc]
      refine loop_rule (fun m T D σ => D = [] ∧ σ = S.empty ∧ T 0 = rowI zs ∧ T 3 = rowI N ∧ T 5 = rowI L ∧ ∃ i : Nat, T 8 = .int .i64 i ∧ i ≤ zs.length ∧ m = zs.length - i ∧ T 7 = .int .i64 (rsum (fun j => zs.getD j 0) 0 i)) ?_ _ _ _ _ ⟨rfl, rfl, rfl, rfl, rfl, 0, rfl, by omega, rfl, rfl⟩
      rintro m T D σ ⟨rfl, rfl, t0, t3, t5, i, t8, hi, hm, t7⟩
      refine G_start ?_
      by_cases hin : (i : Int) < (zs.length : Int)
      · have hlt : i < zs.length := by omega
        have hb1 := hrb (i + 1)
        have e3 : IntKind.i64.wrap ((i : Int) + 1) = ((i + 1 : Nat) : Int) := by rw [wrap_i64 (by omega) (by omega)]; omega
        have e4 : IntKind.i64.wrap (rsum (fun j => zs.getD j 0) 0 i + zs.getD i 0) = rsum (fun j => zs.getD j 0) 0 (i + 1) := by
          have : rsum (fun j => zs.getD j 0) 0 (i + 1) = rsum (fun j => zs.getD j 0) 0 i + zs.getD i 0 := by simp [rsum]
          rw [← this, wrap_i64 (by omega) (by omega)]
        have hsi := hsv i hlt
        simp only [G_seq, G_block, G_skip_code, G_skip_blk, G_skip_nil, G_exit_code, G_exit_blk, G_exit_nil, G_ret_code, G_ret_blk, G_ret_nil, G_cond, G_cond_const, G_loop, G_region, G_draw, GL_nil, GL_op, GL_none, GL_guard, GS_some, GS_ite, GS_nite, GN_some, GN_ite, GN_nite, GB_true, GB_false, GB_dec, GG_true_true, GG_true_false, GG_false_true, GG_false_false, GG_true_dec, GG_false_dec, opT_move, opT_assign, opT_pick, pickO_true, pickO_false, opT_binOp, binO_some, opT_unOp, opT_extract, extrO_tup, opT_indexAddr, idxO_slice, opT_load, opT_call, opT_len, opT_append, opT_convert, convO_int, callV_func, evalT, upd_at, Nat.reduceLT, Nat.reduceEqDiff, if_true, if_false, reduceIte, true_and, map_mk, bind_mk, map_ite', map_nite, bind_ite', bind_nite, vBin_add, vBin_sub, vBin_mul, vBin_eql, vBin_neq, vBin_lss, vBin_leq, vBin_gtr, vBin_geq, vBin_rem, vBin_quo, vBin_beql, vBin_bneq, vUn_not, vUn_true, vUn_false, index_row, len_row, len_nilsl, listO_nil, listO_cons, ofVal, ofCell, argT, List.getD_cons_zero, List.getD_cons_succ, List.getElem?_toArray, List.getElem?_cons_zero, List.getElem?_cons_succ, List.nil_append, List.cons_append, List.append_nil, resT, wpR_nil, V1_some, Nat.mul_one, load_row, load_ptr, cellAt_some, opT_store, store_ptr, storeAt_some, cells_row, isCell_row, cells_nilsl, push_mk, set_mk, setT, vUn_neg, opT_max, opT_min, max_two, min_two, List.append_eq, opT_makeFunc, opT_fieldAddr, opT_build, partsO_nil, partsO_cons, faddr_ptr, faddr_rptr, cells_agg, push_last, Nat.add_zero, opT_box, opT_alloc, ints_get, post_norm, post_exit, post_ret, Int.toNat_natCast, Bool.false_eq_true, Int.reduceEq, Int.reduceLT, Int.reduceLE, Int.reduceNeg, not_false_eq_true, and_self, map_nothing, bind_nothing, Int.natCast_one, Int.cast_ofNat_Int, not_true_eq_false, decide_true, decide_false, true_implies, false_implies, Int.toNat_zero, List.length_cons, List.length_nil, Nat.zero_add, mb, Nat.reduceBEq, Bool.false_and, Bool.and_false, cells_int, tys, stb, GK_nil, GK_op, GKS_some, GKS_none, GKS_ite, GKS_nite, Bool.or_false, Bool.false_or, Bool.true_and, Bool.or_true, Bool.true_or, t0, t3, t5, t8, t7, hin, hsl, hlt, e3, e4, hsi, eq_self]
        refine ⟨⟨by omega, trivial⟩, ⟨by omega, trivial⟩, ?_⟩
        exact ⟨zs.length - (i + 1), by omega, i + 1, rfl, by omega, rfl, rfl⟩
      · have : i = zs.length := by omega
        subst this
        simp only [G_seq, G_block, G_skip_code, G_skip_blk, G_skip_nil, G_exit_code, G_exit_blk, G_exit_nil, G_ret_code, G_ret_blk, G_ret_nil, G_cond, G_cond_const, G_loop, G_region, G_draw, GL_nil, GL_op, GL_none, GL_guard, GS_some, GS_ite, GS_nite, GN_some, GN_ite, GN_nite, GB_true, GB_false, GB_dec, GG_true_true, GG_true_false, GG_false_true, GG_false_false, GG_true_dec, GG_false_dec, opT_move, opT_assign, opT_pick, pickO_true, pickO_false, opT_binOp, binO_some, opT_unOp, opT_extract, extrO_tup, opT_indexAddr, idxO_slice, opT_load, opT_call, opT_len, opT_append, opT_convert, convO_int, callV_func, evalT, upd_at, Nat.reduceLT, Nat.reduceEqDiff, if_true, if_false, reduceIte, true_and, map_mk, bind_mk, map_ite', map_nite, bind_ite', bind_nite, vBin_add, vBin_sub, vBin_mul, vBin_eql, vBin_neq, vBin_lss, vBin_leq, vBin_gtr, vBin_geq, vBin_rem, vBin_quo, vBin_beql, vBin_bneq, vUn_not, vUn_true, vUn_false, index_row, len_row, len_nilsl, listO_nil, listO_cons, ofVal, ofCell, argT, List.getD_cons_zero, List.getD_cons_succ, List.getElem?_toArray, List.getElem?_cons_zero, List.getElem?_cons_succ, List.nil_append, List.cons_append, List.append_nil, resT, wpR_nil, V1_some, Nat.mul_one, load_row, load_ptr, cellAt_some, opT_store, store_ptr, storeAt_some, cells_row, isCell_row, cells_nilsl, push_mk, set_mk, setT, vUn_neg, opT_max, opT_min, max_two, min_two, List.append_eq, opT_makeFunc, opT_fieldAddr, opT_build, partsO_nil, partsO_cons, faddr_ptr, faddr_rptr, cells_agg, push_last, Nat.add_zero, opT_box, opT_alloc, ints_get, post_norm, post_exit, post_ret, Int.toNat_natCast, Bool.false_eq_true, Int.reduceEq, Int.reduceLT, Int.reduceLE, Int.reduceNeg, not_false_eq_true, and_self, map_nothing, bind_nothing, Int.natCast_one, Int.cast_ofNat_Int, not_true_eq_false, decide_true, decide_false, true_implies, false_implies, Int.toNat_zero, List.length_cons, List.length_nil, Nat.zero_add, mb, Nat.reduceBEq, Bool.false_and, Bool.and_false, cells_int, tys, stb, GK_nil, GK_op, GKS_some, GKS_none, GKS_ite, GKS_nite, Bool.or_false, Bool.false_or, Bool.true_and, Bool.or_true, Bool.true_or, t0, t3, t5, t8, t7, hin, hsl, hnc2, hnc3, hn0, Int.toNat_zero, eq_self]
        rfl
end Go.Proofs.Ytkomkiejakcilaa
