/- Proved here: contracts of the functions that the laws of the tree call, and plain facts on covers and paths. Conditions: those of each theorem; no statement of the seat is proved in this text. -/
import Derived.Test.YtkomkiejakcilaaTrBA
namespace Go.Proofs.Ytkomkiejakcilaa
open Go.Ab
set_option maxRecDepth 100000
set_option linter.unusedSimpArgs false
set_option linter.unusedVariables false
theorem at34 : env.P.funcs[34]? = some Try.f34 := by kernel_rfl
theorem at33 : env.P.funcs[33]? = some Try.f33 := by kernel_rfl
theorem at27 : env.P.funcs[27]? = some Try.f27 := by kernel_rfl
theorem f51 : fldOff env 51 0 = some 0 ∧ fldOff env 51 1 = some 1 ∧ fldOff env 51 2 = some 2 := ⟨by kernel_rfl, by kernel_rfl, by kernel_rfl⟩
theorem b51 (a b c : Int) : buildO env 51 [(0, .int .i64 a), (1, .int .i64 b), (2, .int .i64 c)] = some (.agg [.int .i64 a, .int .i64 b, .int .i64 c]) := by kernel_rfl

/-- the cover of the first i leaves below a node of height d whose first leaf is at -/
def cov : Nat → Nat → Nat → Nat → List Int
  | 0, node, at', i => if i ≤ at' then [] else [(node : Int)]
  | d + 1, node, at', i => if i ≤ at' then [] else if at' + 2 ^ (d + 1) ≤ i then [(node : Int)] else cov d (2 * node + 1) at' i ++ cov d (2 * node + 2) (at' + 2 ^ d) i

theorem cov_len : ∀ (d node at' i : Nat), (cov d node at' i).length ≤ 2 ^ d
  | 0, node, at', i => by simp only [cov]; split <;> simp
  | d + 1, node, at', i => by
    have h1 := cov_len d (2 * node + 1) at' i
    have h2 := cov_len d (2 * node + 2) (at' + 2 ^ d) i
    have : 1 ≤ 2 ^ d := Nat.one_le_two_pow
    have h3 : 2 ^ (d + 1) = 2 * 2 ^ d := by rw [Nat.pow_succ]; omega
    simp only [cov]
    split
    · simp
    · split
      · simp; omega
      · rw [List.length_append]; omega

/-- a function that takes nodes below K; J: what holds of what it took; memory from N on stays -/
structure Yield (y : V) (N K : Nat) (J : List Int → S → Prop) : Prop where
  push : ∀ acc σ o, N ≤ σ.heap.length → J acc σ → J acc (σ.push o)
  call : ∀ acc σ (k : Nat), k < K → acc.length < 2000 → N ≤ σ.heap.length → J acc σ → ∃ σ', callV env (ev env) y [.int .i64 k] σ = some (.bool true, σ') ∧ J (acc ++ [(k : Int)]) σ' ∧
    σ.heap.length ≤ σ'.heap.length ∧ ∀ b, N ≤ b → b < σ.heap.length → σ'.heap[b]? = σ.heap[b]?

theorem span_call {y : V} {N K : Nat} {J : List Int → S → Prop} (hy : Yield y N K J) (hK : K ≤ 1000) (i : Nat) (hi : i ≤ 1000) : ∀ (d node at' : Nat), (node + 2) * 2 ^ d ≤ K + 1 → at' + 2 ^ d ≤ 1000 → ∀ (acc : List Int) (σ : S), acc.length + 2 ^ d ≤ 2000 → N ≤ σ.heap.length → J acc σ →
    ∃ σ', callFn env (ev env) 34 [.agg [.int .i64 node, .int .i64 at', .int .i64 ((at' + 2 ^ d : Nat) : Int)], .int .i64 i, y] σ = some (.bool true, σ') ∧ J (acc ++ cov d node at' i) σ' ∧
      σ.heap.length ≤ σ'.heap.length ∧ ∀ b, N ≤ b → b < σ.heap.length → σ'.heap[b]? = σ.heap[b]? := by
  intro d
  induction d with
  | zero =>
    intro node at' hn ha acc σ hB hN hJ
    rw [Nat.pow_zero, Nat.mul_one] at hn
    simp only [Nat.pow_zero] at ha hB ⊢
    by_cases c1 : (i : Int) ≤ (at' : Int)
    · refine ⟨σ.push (.cells [.int .i64 node, .int .i64 at', .int .i64 ((at' + 1 : Nat) : Int)] 51), ?_, ?_, by rw [push_len]; omega, fun b _ hb => push_old _ _ hb⟩
      · refine callFn_eq rfl rfl at34 rfl (by simp [Try.f34]) (by simp [Try.f34]) ?_
        simp only [Try.f34, G_seq, G_block, G_skip_code, G_skip_blk, G_skip_nil, G_exit_code, G_exit_blk, G_exit_nil, G_ret_code, G_ret_blk, G_ret_nil, G_cond, G_cond_const, G_loop, G_region, G_draw, GL_nil, GL_op, GL_none, GL_guard, GS_some, GS_ite, GS_nite, GN_some, GN_ite, GN_nite, GB_true, GB_false, GB_dec, GG_true_true, GG_true_false, GG_false_true, GG_false_false, GG_true_dec, GG_false_dec, opT_move, opT_assign, opT_pick, pickO_true, pickO_false, opT_binOp, binO_some, opT_unOp, opT_extract, extrO_tup, opT_indexAddr, idxO_slice, opT_load, opT_call, opT_len, opT_append, opT_convert, convO_int, callV_func, evalT, upd_at, Nat.reduceLT, Nat.reduceEqDiff, if_true, if_false, reduceIte, true_and, map_mk, bind_mk, map_ite', map_nite, bind_ite', bind_nite, vBin_add, vBin_sub, vBin_mul, vBin_eql, vBin_neq, vBin_lss, vBin_leq, vBin_gtr, vBin_geq, vBin_rem, vBin_quo, vBin_beql, vBin_bneq, vUn_not, vUn_true, vUn_false, index_row, len_row, len_nilsl, listO_nil, listO_cons, ofVal, ofCell, argT, List.getD_cons_zero, List.getD_cons_succ, List.getElem?_toArray, List.getElem?_cons_zero, List.getElem?_cons_succ, List.nil_append, List.cons_append, List.append_nil, resT, wpR_nil, V1_some, Nat.mul_one, load_row, load_ptr, cellAt_some, opT_store, store_ptr, storeAt_some, cells_row, isCell_row, cells_nilsl, push_mk, set_mk, setT, vUn_neg, opT_max, opT_min, max_two, min_two, List.append_eq, opT_makeFunc, opT_fieldAddr, opT_build, partsO_nil, partsO_cons, faddr_ptr, faddr_rptr, cells_agg, push_last, Nat.add_zero, opT_box, opT_alloc, ints_get, post_norm, post_exit, post_ret, Int.toNat_natCast, Bool.false_eq_true, Int.reduceEq, Int.reduceLT, Int.reduceLE, Int.reduceNeg, not_false_eq_true, and_self, map_nothing, bind_nothing, Int.natCast_one, Int.cast_ofNat_Int, not_true_eq_false, decide_true, decide_false, true_implies, false_implies, Int.toNat_zero, List.length_cons, List.length_nil, Nat.zero_add, mb, Nat.reduceBEq, Bool.false_and, Bool.and_false, cells_int, tys, stb, GK_nil, GK_op, GKS_some, GKS_none, GKS_ite, GKS_nite, Bool.or_false, Bool.false_or, Bool.true_and, Bool.or_true, Bool.true_or, f51, c1]
        simp [oneOr]
      · rw [show cov 0 node at' i = [] from by simp only [cov]; rw [if_pos (by omega)], List.append_nil]
        exact hy.push _ _ _ hN hJ
    · have c2 : ((at' + 1 : Nat) : Int) ≤ (i : Int) := by omega
      obtain ⟨σ', hc, hJ', hl, hf⟩ := hy.call acc (σ.push (.cells [.int .i64 node, .int .i64 at', .int .i64 ((at' + 1 : Nat) : Int)] 51)) node (by omega) (by omega) (by rw [push_len]; omega) (hy.push _ _ _ hN hJ)
      rw [push_len] at hl hf
      refine ⟨σ', ?_, ?_, by omega, fun b h1 hb => by rw [hf b h1 (by omega)]; exact push_old _ _ hb⟩
      · refine callFn_eq rfl rfl at34 rfl (by simp [Try.f34]) (by simp [Try.f34]) ?_
        simp only [Try.f34, G_seq, G_block, G_skip_code, G_skip_blk, G_skip_nil, G_exit_code, G_exit_blk, G_exit_nil, G_ret_code, G_ret_blk, G_ret_nil, G_cond, G_cond_const, G_loop, G_region, G_draw, GL_nil, GL_op, GL_none, GL_guard, GS_some, GS_ite, GS_nite, GN_some, GN_ite, GN_nite, GB_true, GB_false, GB_dec, GG_true_true, GG_true_false, GG_false_true, GG_false_false, GG_true_dec, GG_false_dec, opT_move, opT_assign, opT_pick, pickO_true, pickO_false, opT_binOp, binO_some, opT_unOp, opT_extract, extrO_tup, opT_indexAddr, idxO_slice, opT_load, opT_call, opT_len, opT_append, opT_convert, convO_int, callV_func, evalT, upd_at, Nat.reduceLT, Nat.reduceEqDiff, if_true, if_false, reduceIte, true_and, map_mk, bind_mk, map_ite', map_nite, bind_ite', bind_nite, vBin_add, vBin_sub, vBin_mul, vBin_eql, vBin_neq, vBin_lss, vBin_leq, vBin_gtr, vBin_geq, vBin_rem, vBin_quo, vBin_beql, vBin_bneq, vUn_not, vUn_true, vUn_false, index_row, len_row, len_nilsl, listO_nil, listO_cons, ofVal, ofCell, argT, List.getD_cons_zero, List.getD_cons_succ, List.getElem?_toArray, List.getElem?_cons_zero, List.getElem?_cons_succ, List.nil_append, List.cons_append, List.append_nil, resT, wpR_nil, V1_some, Nat.mul_one, load_row, load_ptr, cellAt_some, opT_store, store_ptr, storeAt_some, cells_row, isCell_row, cells_nilsl, push_mk, set_mk, setT, vUn_neg, opT_max, opT_min, max_two, min_two, List.append_eq, opT_makeFunc, opT_fieldAddr, opT_build, partsO_nil, partsO_cons, faddr_ptr, faddr_rptr, cells_agg, push_last, Nat.add_zero, opT_box, opT_alloc, ints_get, post_norm, post_exit, post_ret, Int.toNat_natCast, Bool.false_eq_true, Int.reduceEq, Int.reduceLT, Int.reduceLE, Int.reduceNeg, not_false_eq_true, and_self, map_nothing, bind_nothing, Int.natCast_one, Int.cast_ofNat_Int, not_true_eq_false, decide_true, decide_false, true_implies, false_implies, Int.toNat_zero, List.length_cons, List.length_nil, Nat.zero_add, mb, Nat.reduceBEq, Bool.false_and, Bool.and_false, cells_int, tys, stb, GK_nil, GK_op, GKS_some, GKS_none, GKS_ite, GKS_nite, Bool.or_false, Bool.false_or, Bool.true_and, Bool.or_true, Bool.true_or, f51, c1, c2, hc]
        simp [oneOr]
      · rw [show cov 0 node at' i = [(node : Int)] from by simp only [cov]; rw [if_neg (by omega)]]
        exact hJ'
  | succ d ih =>
    intro node at' hn ha acc σ hB hN hJ
    have h2 : 2 ^ (d + 1) = 2 * 2 ^ d := by rw [Nat.pow_succ]; omega
    have hpos : 1 ≤ 2 ^ d := Nat.one_le_two_pow
    have hnode : node + 2 ≤ K + 1 := by
      have : (node + 2) * 1 ≤ (node + 2) * 2 ^ (d + 1) := Nat.mul_le_mul_left _ Nat.one_le_two_pow
      omega
    by_cases c1 : (i : Int) ≤ (at' : Int)
    · refine ⟨σ.push (.cells [.int .i64 node, .int .i64 at', .int .i64 ((at' + 2 ^ (d + 1) : Nat) : Int)] 51), ?_, ?_, by rw [push_len]; omega, fun b _ hb => push_old _ _ hb⟩
      · refine callFn_eq rfl rfl at34 rfl (by simp [Try.f34]) (by simp [Try.f34]) ?_
        simp only [Try.f34, G_seq, G_block, G_skip_code, G_skip_blk, G_skip_nil, G_exit_code, G_exit_blk, G_exit_nil, G_ret_code, G_ret_blk, G_ret_nil, G_cond, G_cond_const, G_loop, G_region, G_draw, GL_nil, GL_op, GL_none, GL_guard, GS_some, GS_ite, GS_nite, GN_some, GN_ite, GN_nite, GB_true, GB_false, GB_dec, GG_true_true, GG_true_false, GG_false_true, GG_false_false, GG_true_dec, GG_false_dec, opT_move, opT_assign, opT_pick, pickO_true, pickO_false, opT_binOp, binO_some, opT_unOp, opT_extract, extrO_tup, opT_indexAddr, idxO_slice, opT_load, opT_call, opT_len, opT_append, opT_convert, convO_int, callV_func, evalT, upd_at, Nat.reduceLT, Nat.reduceEqDiff, if_true, if_false, reduceIte, true_and, map_mk, bind_mk, map_ite', map_nite, bind_ite', bind_nite, vBin_add, vBin_sub, vBin_mul, vBin_eql, vBin_neq, vBin_lss, vBin_leq, vBin_gtr, vBin_geq, vBin_rem, vBin_quo, vBin_beql, vBin_bneq, vUn_not, vUn_true, vUn_false, index_row, len_row, len_nilsl, listO_nil, listO_cons, ofVal, ofCell, argT, List.getD_cons_zero, List.getD_cons_succ, List.getElem?_toArray, List.getElem?_cons_zero, List.getElem?_cons_succ, List.nil_append, List.cons_append, List.append_nil, resT, wpR_nil, V1_some, Nat.mul_one, load_row, load_ptr, cellAt_some, opT_store, store_ptr, storeAt_some, cells_row, isCell_row, cells_nilsl, push_mk, set_mk, setT, vUn_neg, opT_max, opT_min, max_two, min_two, List.append_eq, opT_makeFunc, opT_fieldAddr, opT_build, partsO_nil, partsO_cons, faddr_ptr, faddr_rptr, cells_agg, push_last, Nat.add_zero, opT_box, opT_alloc, ints_get, post_norm, post_exit, post_ret, Int.toNat_natCast, Bool.false_eq_true, Int.reduceEq, Int.reduceLT, Int.reduceLE, Int.reduceNeg, not_false_eq_true, and_self, map_nothing, bind_nothing, Int.natCast_one, Int.cast_ofNat_Int, not_true_eq_false, decide_true, decide_false, true_implies, false_implies, Int.toNat_zero, List.length_cons, List.length_nil, Nat.zero_add, mb, Nat.reduceBEq, Bool.false_and, Bool.and_false, cells_int, tys, stb, GK_nil, GK_op, GKS_some, GKS_none, GKS_ite, GKS_nite, Bool.or_false, Bool.false_or, Bool.true_and, Bool.or_true, Bool.true_or, f51, c1]
        simp [oneOr]
      · rw [show cov (d + 1) node at' i = [] from by simp only [cov]; rw [if_pos (by omega)], List.append_nil]
        exact hy.push _ _ _ hN hJ
    · by_cases c2 : ((at' + 2 ^ (d + 1) : Nat) : Int) ≤ (i : Int)
      · obtain ⟨σ', hc, hJ', hl, hf⟩ := hy.call acc (σ.push (.cells [.int .i64 node, .int .i64 at', .int .i64 ((at' + 2 ^ (d + 1) : Nat) : Int)] 51)) node (by omega) (by omega) (by rw [push_len]; omega) (hy.push _ _ _ hN hJ)
        rw [push_len] at hl hf
        refine ⟨σ', ?_, ?_, by omega, fun b h1 hb => by rw [hf b h1 (by omega)]; exact push_old _ _ hb⟩
        · refine callFn_eq rfl rfl at34 rfl (by simp [Try.f34]) (by simp [Try.f34]) ?_
          simp only [Try.f34, G_seq, G_block, G_skip_code, G_skip_blk, G_skip_nil, G_exit_code, G_exit_blk, G_exit_nil, G_ret_code, G_ret_blk, G_ret_nil, G_cond, G_cond_const, G_loop, G_region, G_draw, GL_nil, GL_op, GL_none, GL_guard, GS_some, GS_ite, GS_nite, GN_some, GN_ite, GN_nite, GB_true, GB_false, GB_dec, GG_true_true, GG_true_false, GG_false_true, GG_false_false, GG_true_dec, GG_false_dec, opT_move, opT_assign, opT_pick, pickO_true, pickO_false, opT_binOp, binO_some, opT_unOp, opT_extract, extrO_tup, opT_indexAddr, idxO_slice, opT_load, opT_call, opT_len, opT_append, opT_convert, convO_int, callV_func, evalT, upd_at, Nat.reduceLT, Nat.reduceEqDiff, if_true, if_false, reduceIte, true_and, map_mk, bind_mk, map_ite', map_nite, bind_ite', bind_nite, vBin_add, vBin_sub, vBin_mul, vBin_eql, vBin_neq, vBin_lss, vBin_leq, vBin_gtr, vBin_geq, vBin_rem, vBin_quo, vBin_beql, vBin_bneq, vUn_not, vUn_true, vUn_false, index_row, len_row, len_nilsl, listO_nil, listO_cons, ofVal, ofCell, argT, List.getD_cons_zero, List.getD_cons_succ, List.getElem?_toArray, List.getElem?_cons_zero, List.getElem?_cons_succ, List.nil_append, List.cons_append, List.append_nil, resT, wpR_nil, V1_some, Nat.mul_one, load_row, load_ptr, cellAt_some, opT_store, store_ptr, storeAt_some, cells_row, isCell_row, cells_nilsl, push_mk, set_mk, setT, vUn_neg, opT_max, opT_min, max_two, min_two, List.append_eq, opT_makeFunc, opT_fieldAddr, opT_build, partsO_nil, partsO_cons, faddr_ptr, faddr_rptr, cells_agg, push_last, Nat.add_zero, opT_box, opT_alloc, ints_get, post_norm, post_exit, post_ret, Int.toNat_natCast, Bool.false_eq_true, Int.reduceEq, Int.reduceLT, Int.reduceLE, Int.reduceNeg, not_false_eq_true, and_self, map_nothing, bind_nothing, Int.natCast_one, Int.cast_ofNat_Int, not_true_eq_false, decide_true, decide_false, true_implies, false_implies, Int.toNat_zero, List.length_cons, List.length_nil, Nat.zero_add, mb, Nat.reduceBEq, Bool.false_and, Bool.and_false, cells_int, tys, stb, GK_nil, GK_op, GKS_some, GKS_none, GKS_ite, GKS_nite, Bool.or_false, Bool.false_or, Bool.true_and, Bool.or_true, Bool.true_or, f51, c1, c2, hc]
          simp [oneOr]
        · rw [show cov (d + 1) node at' i = [(node : Int)] from by simp only [cov]; rw [if_neg (by omega), if_pos (by omega)]]
          exact hJ'
      · have a1 : (2 * node + 1 + 2) * 2 ^ d ≤ K + 1 := by
          have : (2 * node + 1 + 2) * 2 ^ d ≤ (node + 2) * 2 * 2 ^ d := Nat.mul_le_mul_right _ (by omega)
          rw [h2, ← Nat.mul_assoc] at hn
          omega
        have a2 : (2 * node + 2 + 2) * 2 ^ d ≤ K + 1 := by
          have : (2 * node + 2 + 2) * 2 ^ d ≤ (node + 2) * 2 * 2 ^ d := Nat.mul_le_mul_right _ (by omega)
          rw [h2, ← Nat.mul_assoc] at hn
          omega
        obtain ⟨σ1, hc1, hJ1, hl1, hf1⟩ := ih (2 * node + 1) at' a1 (by omega) acc (σ.push (.cells [.int .i64 node, .int .i64 at', .int .i64 ((at' + 2 ^ (d + 1) : Nat) : Int)] 51)) (by omega) (by rw [push_len]; omega) (hy.push _ _ _ hN hJ)
        rw [push_len] at hl1 hf1
        obtain ⟨σ2, hc2, hJ2, hl2, hf2⟩ := ih (2 * node + 2) (at' + 2 ^ d) a2 (by omega) _ σ1 (by have := cov_len d (2 * node + 1) at' i; rw [List.length_append]; omega) (by omega) hJ1
        have hbox : σ1.heap[σ.heap.length]? = some (.cells [.int .i64 node, .int .i64 at', .int .i64 ((at' + 2 ^ (d + 1) : Nat) : Int)] 51) := by rw [hf1 _ hN (by omega)]; exact push_last _ _
        have e0 : ((at' + 2 ^ d + 2 ^ d : Nat) : Int) = ((at' + 2 ^ (d + 1) : Nat) : Int) := by omega
        rw [e0] at hc2
        have e1 : IntKind.i64.wrap ((at' : Int) + ((at' + 2 ^ (d + 1) : Nat) : Int)) = ((2 * (at' + 2 ^ d) : Nat) : Int) := by rw [wrap_i64 (by omega) (by omega)]; omega
        have e2 : IntKind.i64.wrap (((2 * (at' + 2 ^ d) : Nat) : Int).tdiv 2) = ((at' + 2 ^ d : Nat) : Int) := by
          rw [Int.tdiv_eq_ediv_of_nonneg (by omega), wrap_i64 (by omega) (by omega)]; omega
        have e3 : IntKind.i64.wrap (2 * (node : Int)) = ((2 * node : Nat) : Int) := by rw [wrap_i64 (by omega) (by omega)]; omega
        have e4 : IntKind.i64.wrap (((2 * node : Nat) : Int) + 1) = ((2 * node + 1 : Nat) : Int) := by rw [wrap_i64 (by omega) (by omega)]; omega
        have e5 : IntKind.i64.wrap (((2 * node : Nat) : Int) + 2) = ((2 * node + 2 : Nat) : Int) := by rw [wrap_i64 (by omega) (by omega)]; omega
        refine ⟨σ2, ?_, ?_, by omega, fun b h1 hb => by rw [hf2 b h1 (by omega), hf1 b h1 (by omega)]; exact push_old _ _ hb⟩
        · refine callFn_eq rfl rfl at34 rfl (by simp [Try.f34]) (by simp [Try.f34]) ?_
          simp only [Try.f34, G_seq, G_block, G_skip_code, G_skip_blk, G_skip_nil, G_exit_code, G_exit_blk, G_exit_nil, G_ret_code, G_ret_blk, G_ret_nil, G_cond, G_cond_const, G_loop, G_region, G_draw, GL_nil, GL_op, GL_none, GL_guard, GS_some, GS_ite, GS_nite, GN_some, GN_ite, GN_nite, GB_true, GB_false, GB_dec, GG_true_true, GG_true_false, GG_false_true, GG_false_false, GG_true_dec, GG_false_dec, opT_move, opT_assign, opT_pick, pickO_true, pickO_false, opT_binOp, binO_some, opT_unOp, opT_extract, extrO_tup, opT_indexAddr, idxO_slice, opT_load, opT_call, opT_len, opT_append, opT_convert, convO_int, callV_func, evalT, upd_at, Nat.reduceLT, Nat.reduceEqDiff, if_true, if_false, reduceIte, true_and, map_mk, bind_mk, map_ite', map_nite, bind_ite', bind_nite, vBin_add, vBin_sub, vBin_mul, vBin_eql, vBin_neq, vBin_lss, vBin_leq, vBin_gtr, vBin_geq, vBin_rem, vBin_quo, vBin_beql, vBin_bneq, vUn_not, vUn_true, vUn_false, index_row, len_row, len_nilsl, listO_nil, listO_cons, ofVal, ofCell, argT, List.getD_cons_zero, List.getD_cons_succ, List.getElem?_toArray, List.getElem?_cons_zero, List.getElem?_cons_succ, List.nil_append, List.cons_append, List.append_nil, resT, wpR_nil, V1_some, Nat.mul_one, load_row, load_ptr, cellAt_some, opT_store, store_ptr, storeAt_some, cells_row, isCell_row, cells_nilsl, push_mk, set_mk, setT, vUn_neg, opT_max, opT_min, max_two, min_two, List.append_eq, opT_makeFunc, opT_fieldAddr, opT_build, partsO_nil, partsO_cons, faddr_ptr, faddr_rptr, cells_agg, push_last, Nat.add_zero, opT_box, opT_alloc, ints_get, post_norm, post_exit, post_ret, Int.toNat_natCast, Bool.false_eq_true, Int.reduceEq, Int.reduceLT, Int.reduceLE, Int.reduceNeg, not_false_eq_true, and_self, map_nothing, bind_nothing, Int.natCast_one, Int.cast_ofNat_Int, not_true_eq_false, decide_true, decide_false, true_implies, false_implies, Int.toNat_zero, List.length_cons, List.length_nil, Nat.zero_add, mb, Nat.reduceBEq, Bool.false_and, Bool.and_false, cells_int, tys, stb, GK_nil, GK_op, GKS_some, GKS_none, GKS_ite, GKS_nite, Bool.or_false, Bool.false_or, Bool.true_and, Bool.or_true, Bool.true_or, f51, b51, c1, c2, e1, e2, e3, e4, e5, hc1, hbox, hc2]
          simp [oneOr]
        · rw [show cov (d + 1) node at' i = cov d (2 * node + 1) at' i ++ cov d (2 * node + 2) (at' + 2 ^ d) i from by simp only [cov]; rw [if_neg (by omega), if_neg (by omega)], ← List.append_assoc]
          exact hJ2
end Go.Proofs.Ytkomkiejakcilaa

namespace Go.Proofs.Ytkomkiejakcilaa
open Go.Ab
set_option maxRecDepth 100000
set_option linter.unusedSimpArgs false
set_option linter.unusedVariables false
theorem at37 : env.P.funcs[37]? = some Try.f37 := by kernel_rfl
theorem at29 : env.P.funcs[29]? = some Try.f29 := by kernel_rfl
theorem at17 : env.P.funcs[17]? = some Try.f17 := by kernel_rfl

theorem covers1_call {y : V} {N : Nat} {J : List Int → S → Prop} (h : Nat) (hh : h ≤ 7) (i : Nat) (hi : i ≤ 1000) (hy : Yield y N (2 ^ (h + 1) - 1) J) (a b : Nat) (σ : S) (ha : σ.heap[a]? = some (.cells [.int .i64 h] 3)) (hb : σ.heap[b]? = some (.cells [.int .i64 i] 3))
    (hN : N ≤ σ.heap.length) (hJ : J [] σ) :
    ∃ σ', callFn env (ev env) 33 [y, .ptr a 0, .ptr b 0] σ = some (.tup [], σ') ∧ J (cov h 0 0 i) σ' ∧ σ.heap.length ≤ σ'.heap.length ∧ ∀ b, N ≤ b → b < σ.heap.length → σ'.heap[b]? = σ.heap[b]? := by
  have hp := pow_le h hh
  have h2 : 2 ^ (h + 1) = 2 * 2 ^ h := by rw [Nat.pow_succ]; omega
  obtain ⟨σ', hc, hJ', hl, hf⟩ := span_call hy (by omega) i hi h 0 0 (by omega) (by omega) [] σ (by simp; omega) hN hJ
  refine ⟨σ', ?_, by simpa using hJ', hl, hf⟩
  refine callFn_eq rfl rfl at33 rfl (by simp [Try.f33]) (by simp [Try.f33]) ?_
  have hc0 := pow_cast h
  have e1 := shl_small h (by omega) 1 (.inl rfl)
  rw [show ((0 + 2 ^ h : Nat) : Int) = 1 * 2 ^ h by omega] at hc
  simp only [Int.natCast_zero] at hc
  simp only [Try.f33, G_seq, G_block, G_skip_code, G_skip_blk, G_skip_nil, G_exit_code, G_exit_blk, G_exit_nil, G_ret_code, G_ret_blk, G_ret_nil, G_cond, G_cond_const, G_loop, G_region, G_draw, GL_nil, GL_op, GL_none, GL_guard, GS_some, GS_ite, GS_nite, GN_some, GN_ite, GN_nite, GB_true, GB_false, GB_dec, GG_true_true, GG_true_false, GG_false_true, GG_false_false, GG_true_dec, GG_false_dec, opT_move, opT_assign, opT_pick, pickO_true, pickO_false, opT_binOp, binO_some, opT_unOp, opT_extract, extrO_tup, opT_indexAddr, idxO_slice, opT_load, opT_call, opT_len, opT_append, opT_convert, convO_int, callV_func, evalT, upd_at, Nat.reduceLT, Nat.reduceEqDiff, if_true, if_false, reduceIte, true_and, map_mk, bind_mk, map_ite', map_nite, bind_ite', bind_nite, vBin_add, vBin_sub, vBin_mul, vBin_eql, vBin_neq, vBin_lss, vBin_leq, vBin_gtr, vBin_geq, vBin_rem, vBin_quo, vBin_beql, vBin_bneq, vUn_not, vUn_true, vUn_false, index_row, len_row, len_nilsl, listO_nil, listO_cons, ofVal, ofCell, argT, List.getD_cons_zero, List.getD_cons_succ, List.getElem?_toArray, List.getElem?_cons_zero, List.getElem?_cons_succ, List.nil_append, List.cons_append, List.append_nil, resT, wpR_nil, V1_some, Nat.mul_one, load_row, load_ptr, cellAt_some, opT_store, store_ptr, storeAt_some, cells_row, isCell_row, cells_nilsl, push_mk, set_mk, setT, vUn_neg, opT_max, opT_min, max_two, min_two, List.append_eq, opT_makeFunc, opT_fieldAddr, opT_build, partsO_nil, partsO_cons, faddr_ptr, faddr_rptr, cells_agg, push_last, Nat.add_zero, opT_box, opT_alloc, ints_get, post_norm, post_exit, post_ret, Int.toNat_natCast, Bool.false_eq_true, Int.reduceEq, Int.reduceLT, Int.reduceLE, Int.reduceNeg, not_false_eq_true, and_self, map_nothing, bind_nothing, Int.natCast_one, Int.cast_ofNat_Int, not_true_eq_false, decide_true, decide_false, true_implies, false_implies, Int.toNat_zero, List.length_cons, List.length_nil, Nat.zero_add, mb, Nat.reduceBEq, Bool.false_and, Bool.and_false, cells_int, tys, stb, GK_nil, GK_op, GKS_some, GKS_none, GKS_ite, GKS_nite, Bool.or_false, Bool.false_or, Bool.true_and, Bool.or_true, Bool.true_or, ha, hb, e1, b51, hc]
  refine ⟨by kernel_rfl, ?_⟩
  simp [oneOr]

theorem covers_call (h i : Int) (σ : S) : callFn env (ev env) 27 [.int .i64 h, .int .i64 i] σ = some (.func 33 [] [.ptr σ.heap.length 0, .ptr (σ.heap.length + 1) 0], (σ.push (.cells [.int .i64 h] 3)).push (.cells [.int .i64 i] 3)) := by
  refine callFn_eq rfl rfl at27 rfl (by simp [Try.f27]) (by simp [Try.f27]) ?_
  simp only [Try.f27, G_seq, G_block, G_skip_code, G_skip_blk, G_skip_nil, G_exit_code, G_exit_blk, G_exit_nil, G_ret_code, G_ret_blk, G_ret_nil, G_cond, G_cond_const, G_loop, G_region, G_draw, GL_nil, GL_op, GL_none, GL_guard, GS_some, GS_ite, GS_nite, GN_some, GN_ite, GN_nite, GB_true, GB_false, GB_dec, GG_true_true, GG_true_false, GG_false_true, GG_false_false, GG_true_dec, GG_false_dec, opT_move, opT_assign, opT_pick, pickO_true, pickO_false, opT_binOp, binO_some, opT_unOp, opT_extract, extrO_tup, opT_indexAddr, idxO_slice, opT_load, opT_call, opT_len, opT_append, opT_convert, convO_int, callV_func, evalT, upd_at, Nat.reduceLT, Nat.reduceEqDiff, if_true, if_false, reduceIte, true_and, map_mk, bind_mk, map_ite', map_nite, bind_ite', bind_nite, vBin_add, vBin_sub, vBin_mul, vBin_eql, vBin_neq, vBin_lss, vBin_leq, vBin_gtr, vBin_geq, vBin_rem, vBin_quo, vBin_beql, vBin_bneq, vUn_not, vUn_true, vUn_false, index_row, len_row, len_nilsl, listO_nil, listO_cons, ofVal, ofCell, argT, List.getD_cons_zero, List.getD_cons_succ, List.getElem?_toArray, List.getElem?_cons_zero, List.getElem?_cons_succ, List.nil_append, List.cons_append, List.append_nil, resT, wpR_nil, V1_some, Nat.mul_one, load_row, load_ptr, cellAt_some, opT_store, store_ptr, storeAt_some, cells_row, isCell_row, cells_nilsl, push_mk, set_mk, setT, vUn_neg, opT_max, opT_min, max_two, min_two, List.append_eq, opT_makeFunc, opT_fieldAddr, opT_build, partsO_nil, partsO_cons, faddr_ptr, faddr_rptr, cells_agg, push_last, Nat.add_zero, opT_box, opT_alloc, ints_get, post_norm, post_exit, post_ret, Int.toNat_natCast, Bool.false_eq_true, Int.reduceEq, Int.reduceLT, Int.reduceLE, Int.reduceNeg, not_false_eq_true, and_self, map_nothing, bind_nothing, Int.natCast_one, Int.cast_ofNat_Int, not_true_eq_false, decide_true, decide_false, true_implies, false_implies, Int.toNat_zero, List.length_cons, List.length_nil, Nat.zero_add, mb, Nat.reduceBEq, Bool.false_and, Bool.and_false, cells_int, tys, stb, GK_nil, GK_op, GKS_some, GKS_none, GKS_ite, GKS_nite, Bool.or_false, Bool.false_or, Bool.true_and, Bool.or_true, Bool.true_or, push_len]
  simp [oneOr]

theorem callFn_ev {E : Env} {f : FuncId} {args : List V} {σ σ' : S} {v : V} (hp : E.pure f = false) (hk : E.hook f = none) (h : callFn E (ev E) f args σ = some (v, σ')) (hz : E.frz f = false := by rfl) : ev E (.call f args σ) = some ⟨.ret, [v], [], σ'⟩ := by
  unfold callFn at h
  simp only [hk, hp, hz, Bool.false_eq_true, if_false] at h
  split at h
  · rename_i v0 σ0 he
    simp only [Option.some.injEq, Prod.mk.injEq] at h
    obtain ⟨rfl, rfl⟩ := h
    exact he
  · simp at h

/-- nil, or a row -/
def rowN (zs : List Int) : V := if zs = [] then .nilsl else rowI zs
theorem rowN_nil : rowN [] = .nilsl := rfl
theorem rowN_cons (z : Int) (zs : List Int) : rowN (z :: zs) = rowI (z :: zs) := by simp [rowN]

theorem appseq_call (h : Nat) (hh : h ≤ 7) (i : Nat) (hi : i ≤ 1000) (a b : Nat) (σ : S) (ha : σ.heap[a]? = some (.cells [.int .i64 h] 3)) (hb : σ.heap[b]? = some (.cells [.int .i64 i] 3)) :
    ∃ v σ', callFn env (ev env) 37 [.nilsl, .func 33 [] [.ptr a 0, .ptr b 0]] σ = some (v, σ') ∧ Grow σ'.toks v ((cov h 0 0 i).map (V.int .i64)) ∧ (v = .nilsl ∨ cov h 0 0 i ≠ []) := by
  refine callFn_any rfl rfl at37 rfl (by simp [Try.f37]) (by simp [Try.f37]) (G_start ?_)
  simp only [Try.f37, G_seq, G_block, G_skip_code, G_skip_blk, G_skip_nil, G_exit_code, G_exit_blk, G_exit_nil, G_ret_code, G_ret_blk, G_ret_nil, G_cond, G_cond_const, G_loop, G_region, G_draw, GL_nil, GL_op, GL_none, GL_guard, GS_some, GS_ite, GS_nite, GN_some, GN_ite, GN_nite, GB_true, GB_false, GB_dec, GG_true_true, GG_true_false, GG_false_true, GG_false_false, GG_true_dec, GG_false_dec, opT_move, opT_assign, opT_pick, pickO_true, pickO_false, opT_binOp, binO_some, opT_unOp, opT_extract, extrO_tup, opT_indexAddr, idxO_slice, opT_load, opT_call, opT_len, opT_append, opT_convert, convO_int, callV_func, evalT, upd_at, Nat.reduceLT, Nat.reduceEqDiff, if_true, if_false, reduceIte, true_and, map_mk, bind_mk, map_ite', map_nite, bind_ite', bind_nite, vBin_add, vBin_sub, vBin_mul, vBin_eql, vBin_neq, vBin_lss, vBin_leq, vBin_gtr, vBin_geq, vBin_rem, vBin_quo, vBin_beql, vBin_bneq, vUn_not, vUn_true, vUn_false, index_row, len_row, len_nilsl, listO_nil, listO_cons, ofVal, ofCell, argT, List.getD_cons_zero, List.getD_cons_succ, List.getElem?_toArray, List.getElem?_cons_zero, List.getElem?_cons_succ, List.nil_append, List.cons_append, List.append_nil, resT, wpR_nil, V1_some, Nat.mul_one, load_row, load_ptr, cellAt_some, opT_store, store_ptr, storeAt_some, cells_row, isCell_row, cells_nilsl, push_mk, set_mk, setT, vUn_neg, opT_max, opT_min, max_two, min_two, List.append_eq, opT_makeFunc, opT_fieldAddr, opT_build, partsO_nil, partsO_cons, faddr_ptr, faddr_rptr, cells_agg, push_last, Nat.add_zero, opT_box, opT_alloc, ints_get, post_norm, post_exit, post_ret, Int.toNat_natCast, Bool.false_eq_true, Int.reduceEq, Int.reduceLT, Int.reduceLE, Int.reduceNeg, not_false_eq_true, and_self, map_nothing, bind_nothing, Int.natCast_one, Int.cast_ofNat_Int, not_true_eq_false, decide_true, decide_false, true_implies, false_implies, Int.toNat_zero, List.length_cons, List.length_nil, Nat.zero_add, mb, Nat.reduceBEq, Bool.false_and, Bool.and_false, cells_int, tys, stb, GK_nil, GK_op, GKS_some, GKS_none, GKS_ite, GKS_nite, Bool.or_false, Bool.false_or, Bool.true_and, Bool.or_true, Bool.true_or]
  have hal : a < σ.heap.length := by
    rcases Nat.lt_or_ge a σ.heap.length with h | h
    · exact h
    · rw [List.getElem?_eq_none h] at ha; simp at ha
  have hbl : b < σ.heap.length := by
    rcases Nat.lt_or_ge b σ.heap.length with h | h
    · exact h
    · rw [List.getElem?_eq_none h] at hb; simp at hb
  obtain ⟨hp, ts⟩ := σ
  simp only [push_mk, cells_nilsl] at *
  refine G_range rfl ?_
  intro tmps lo lx hr hlo hlx
  simp only [List.length_append, List.length_cons, List.length_nil, Nat.zero_add, List.append_assoc, List.cons_append, List.nil_append] at *
  generalize hL : hp.length = L at *
  have hy : Yield (.yld (L + 1 + 1)) (L + 3) (2 ^ (h + 1) - 1) fun acc σ => L + 3 ≤ σ.heap.length ∧ σ.heap[L + 1 + 1]? = some lo ∧ σ.heap[L + 1]? = some (.defd true) ∧
      ∃ v, σ.heap[L]? = some (.cells [v] 22) ∧ Grow σ.toks v (acc.map (V.int .i64)) ∧ (v = .nilsl ∨ acc ≠ []) := by
    refine ⟨?_, ?_⟩
    · rintro acc σ o hN ⟨h1, h2, h3, v, h4, h5, h6⟩
      exact ⟨by rw [push_len]; omega, by rw [push_old _ _ (by omega)]; exact h2, by rw [push_old _ _ (by omega)]; exact h3, v, by rw [push_old _ _ (by omega)]; exact h4, h5, h6⟩
    · rintro acc ⟨hq, tq⟩ k hk hacc hN ⟨h1, h2, h3, v, h4, h5, h6⟩
      simp only at h1 h2 h3 h4 h5 hN
      have c1 : ∀ lb, (hq.set (L + 1 + 1) lb)[L]? = some (.cells [v] 22) := fun lb => by rw [List.getElem?_set_ne (by omega)]; exact h4
      have c2 : ∀ lb, (hq.set (L + 1 + 1) lb)[L + 1 + 1]? = some lb := fun lb => List.getElem?_set_self (by omega)
      refine round_rule hlo h2 hr rfl (by simp) ?_
      intro lb hlb
      clear hlb
      obtain ⟨tk, te, ts', happ, htk⟩ := Grow.append one22 (hp := hq.set (L + 1 + 1) lb) h5 (new := [(k : Int)].map (V.int .i64)) (c := .full) (by simp) (ints_cells _) (by simp [lim]; omega) (by simp [lim]; omega)
      rw [ints_app] at happ
      simp only [List.map_cons, List.map_nil, List.length_cons, List.length_nil, Nat.zero_add] at happ
      refine G_start ?_
      simp only [G_seq, G_block, G_skip_code, G_skip_blk, G_skip_nil, G_exit_code, G_exit_blk, G_exit_nil, G_ret_code, G_ret_blk, G_ret_nil, G_cond, G_cond_const, G_loop, G_region, G_draw, GL_nil, GL_op, GL_none, GL_guard, GS_some, GS_ite, GS_nite, GN_some, GN_ite, GN_nite, GB_true, GB_false, GB_dec, GG_true_true, GG_true_false, GG_false_true, GG_false_false, GG_true_dec, GG_false_dec, opT_move, opT_assign, opT_pick, pickO_true, pickO_false, opT_binOp, binO_some, opT_unOp, opT_extract, extrO_tup, opT_indexAddr, idxO_slice, opT_load, opT_call, opT_len, opT_append, opT_convert, convO_int, callV_func, evalT, upd_at, Nat.reduceLT, Nat.reduceEqDiff, if_true, if_false, reduceIte, true_and, map_mk, bind_mk, map_ite', map_nite, bind_ite', bind_nite, vBin_add, vBin_sub, vBin_mul, vBin_eql, vBin_neq, vBin_lss, vBin_leq, vBin_gtr, vBin_geq, vBin_rem, vBin_quo, vBin_beql, vBin_bneq, vUn_not, vUn_true, vUn_false, index_row, len_row, len_nilsl, listO_nil, listO_cons, ofVal, ofCell, argT, List.getD_cons_zero, List.getD_cons_succ, List.getElem?_toArray, List.getElem?_cons_zero, List.getElem?_cons_succ, List.nil_append, List.cons_append, List.append_nil, resT, wpR_nil, V1_some, Nat.mul_one, load_row, load_ptr, cellAt_some, opT_store, store_ptr, storeAt_some, cells_row, isCell_row, cells_nilsl, push_mk, set_mk, setT, vUn_neg, opT_max, opT_min, max_two, min_two, List.append_eq, opT_makeFunc, opT_fieldAddr, opT_build, partsO_nil, partsO_cons, faddr_ptr, faddr_rptr, cells_agg, push_last, Nat.add_zero, opT_box, opT_alloc, ints_get, post_norm, post_exit, post_ret, Int.toNat_natCast, Bool.false_eq_true, Int.reduceEq, Int.reduceLT, Int.reduceLE, Int.reduceNeg, not_false_eq_true, and_self, map_nothing, bind_nothing, Int.natCast_one, Int.cast_ofNat_Int, not_true_eq_false, decide_true, decide_false, true_implies, false_implies, Int.toNat_zero, List.length_cons, List.length_nil, Nat.zero_add, mb, Nat.reduceBEq, Bool.false_and, Bool.and_false, cells_int, tys, stb, GK_nil, GK_op, GKS_some, GKS_none, GKS_ite, GKS_nite, Bool.or_false, Bool.false_or, Bool.true_and, Bool.or_true, Bool.true_or, List.zip_cons_cons, List.zip_nil_right, h2, bs1, c1, happ]
      clear hlo hlx hr happ
      have len1 : L < (hq.set (L + 1 + 1) lb).length := by simp; omega
      have len2 : ∀ c, L + 1 + 1 < ((hq.set (L + 1 + 1) lb).set L c).length := fun c => by simp; omega
      refine ⟨⟨by decide, by simp [V.isCell]⟩, ?_, ⟨?_, ?_, ?_, _, ?_, .tok _ tk te htk, .inr (by simp)⟩, ?_, ?_⟩
      · rw [List.getElem?_set_ne (by omega)]; exact c2 _
      · simp; omega
      · exact List.getElem?_set_self (len2 _)
      · rw [List.getElem?_set_ne (by omega), List.getElem?_set_ne (by omega), List.getElem?_set_ne (by omega)]; exact h3
      · rw [List.getElem?_set_ne (by omega), List.getElem?_set_self len1]
        simp [storeList]
      · simp
      · intro c h7 h8
        rw [List.getElem?_set_ne (by omega), List.getElem?_set_ne (by omega), List.getElem?_set_ne (by omega)]
  have hpl : (hp ++ [AObj.cells [V.nilsl] 22, AObj.defd true, lo]).length = L + 3 := by simp; omega
  have q : ∀ c, (hp ++ [AObj.cells [V.nilsl] 22, AObj.defd true, lo])[L + c]? = [AObj.cells [V.nilsl] 22, AObj.defd true, lo][c]? := fun c => by
    rw [List.getElem?_append_right (by omega), hL, Nat.add_sub_cancel_left]
  obtain ⟨σ2, hc, ⟨j1, j2, j3, v, j4, j5, j6⟩, hl, hf⟩ := covers1_call h hh i hi hy a b ⟨hp ++ [AObj.cells [V.nilsl] 22, AObj.defd true, lo], ts⟩
    (by simp only; rw [List.getElem?_append_left (by omega)]; exact ha) (by simp only; rw [List.getElem?_append_left (by omega)]; exact hb) (by rw [hpl]; omega)
    ⟨by rw [hpl]; omega, q 2, q 1, .nilsl, q 0, .nil, .inl rfl⟩
  refine ⟨_, σ2, callFn_ev rfl rfl hc, j2, ?_⟩
  obtain ⟨hq, tq⟩ := σ2
  simp only at j1 j2 j3 j4 j5
  have k4 : ∀ c, (hq.set (L + 1 + 1) c)[L]? = some (.cells [v] 22) := fun c => by rw [List.getElem?_set_ne (by omega)]; exact j4
  have k3 : ∀ c, (hq.set (L + 1 + 1) c)[L + 1]? = some (.defd true) := fun c => by rw [List.getElem?_set_ne (by omega)]; exact j3
  simp only [G_seq, G_block, G_skip_code, G_skip_blk, G_skip_nil, G_exit_code, G_exit_blk, G_exit_nil, G_ret_code, G_ret_blk, G_ret_nil, G_cond, G_cond_const, G_loop, G_region, G_draw, GL_nil, GL_op, GL_none, GL_guard, GS_some, GS_ite, GS_nite, GN_some, GN_ite, GN_nite, GB_true, GB_false, GB_dec, GG_true_true, GG_true_false, GG_false_true, GG_false_false, GG_true_dec, GG_false_dec, opT_move, opT_assign, opT_pick, pickO_true, pickO_false, opT_binOp, binO_some, opT_unOp, opT_extract, extrO_tup, opT_indexAddr, idxO_slice, opT_load, opT_call, opT_len, opT_append, opT_convert, convO_int, callV_func, evalT, upd_at, Nat.reduceLT, Nat.reduceEqDiff, if_true, if_false, reduceIte, true_and, map_mk, bind_mk, map_ite', map_nite, bind_ite', bind_nite, vBin_add, vBin_sub, vBin_mul, vBin_eql, vBin_neq, vBin_lss, vBin_leq, vBin_gtr, vBin_geq, vBin_rem, vBin_quo, vBin_beql, vBin_bneq, vUn_not, vUn_true, vUn_false, index_row, len_row, len_nilsl, listO_nil, listO_cons, ofVal, ofCell, argT, List.getD_cons_zero, List.getD_cons_succ, List.getElem?_toArray, List.getElem?_cons_zero, List.getElem?_cons_succ, List.nil_append, List.cons_append, List.append_nil, resT, wpR_nil, V1_some, Nat.mul_one, load_row, load_ptr, cellAt_some, opT_store, store_ptr, storeAt_some, cells_row, isCell_row, cells_nilsl, push_mk, set_mk, setT, vUn_neg, opT_max, opT_min, max_two, min_two, List.append_eq, opT_makeFunc, opT_fieldAddr, opT_build, partsO_nil, partsO_cons, faddr_ptr, faddr_rptr, cells_agg, push_last, Nat.add_zero, opT_box, opT_alloc, ints_get, post_norm, post_exit, post_ret, Int.toNat_natCast, Bool.false_eq_true, Int.reduceEq, Int.reduceLT, Int.reduceLE, Int.reduceNeg, not_false_eq_true, and_self, map_nothing, bind_nothing, Int.natCast_one, Int.cast_ofNat_Int, not_true_eq_false, decide_true, decide_false, true_implies, false_implies, Int.toNat_zero, List.length_cons, List.length_nil, Nat.zero_add, mb, Nat.reduceBEq, Bool.false_and, Bool.and_false, cells_int, tys, stb, GK_nil, GK_op, GKS_some, GKS_none, GKS_ite, GKS_nite, Bool.or_false, Bool.false_or, Bool.true_and, Bool.or_true, Bool.true_or, k4, wpR, takeDfs, k3]
  exact ⟨j5, j6⟩
end Go.Proofs.Ytkomkiejakcilaa

namespace Go.Proofs.Ytkomkiejakcilaa
open Go.Ab
set_option maxRecDepth 100000
set_option linter.unusedSimpArgs false
set_option linter.unusedVariables false
theorem at21 : env.P.funcs[21]? = some Try.f21 := by kernel_rfl
theorem at30 : env.P.funcs[30]? = some Try.f30 := by kernel_rfl

theorem collect_call (h : Nat) (hh : h ≤ 7) (i : Nat) (hi : i ≤ 1000) (a b : Nat) (σ : S) (ha : σ.heap[a]? = some (.cells [.int .i64 h] 3)) (hb : σ.heap[b]? = some (.cells [.int .i64 i] 3)) :
    ∃ v σ', callFn env (ev env) 29 [.func 33 [] [.ptr a 0, .ptr b 0]] σ = some (v, σ') ∧ Grow σ'.toks v ((cov h 0 0 i).map (V.int .i64)) ∧ (v = .nilsl ∨ cov h 0 0 i ≠ []) := by
  obtain ⟨v, σ', h1, h2, h3⟩ := appseq_call h hh i hi a b σ ha hb
  refine ⟨v, σ', ?_, h2, h3⟩
  refine callFn_eq rfl rfl at29 rfl (by simp [Try.f29]) (by simp [Try.f29]) ?_
  simp only [Try.f29, G_seq, G_block, G_skip_code, G_skip_blk, G_skip_nil, G_exit_code, G_exit_blk, G_exit_nil, G_ret_code, G_ret_blk, G_ret_nil, G_cond, G_cond_const, G_loop, G_region, G_draw, GL_nil, GL_op, GL_none, GL_guard, GS_some, GS_ite, GS_nite, GN_some, GN_ite, GN_nite, GB_true, GB_false, GB_dec, GG_true_true, GG_true_false, GG_false_true, GG_false_false, GG_true_dec, GG_false_dec, opT_move, opT_assign, opT_pick, pickO_true, pickO_false, opT_binOp, binO_some, opT_unOp, opT_extract, extrO_tup, opT_indexAddr, idxO_slice, opT_load, opT_call, opT_len, opT_append, opT_convert, convO_int, callV_func, evalT, upd_at, Nat.reduceLT, Nat.reduceEqDiff, if_true, if_false, reduceIte, true_and, map_mk, bind_mk, map_ite', map_nite, bind_ite', bind_nite, vBin_add, vBin_sub, vBin_mul, vBin_eql, vBin_neq, vBin_lss, vBin_leq, vBin_gtr, vBin_geq, vBin_rem, vBin_quo, vBin_beql, vBin_bneq, vUn_not, vUn_true, vUn_false, index_row, len_row, len_nilsl, listO_nil, listO_cons, ofVal, ofCell, argT, List.getD_cons_zero, List.getD_cons_succ, List.getElem?_toArray, List.getElem?_cons_zero, List.getElem?_cons_succ, List.nil_append, List.cons_append, List.append_nil, resT, wpR_nil, V1_some, Nat.mul_one, load_row, load_ptr, cellAt_some, opT_store, store_ptr, storeAt_some, cells_row, isCell_row, cells_nilsl, push_mk, set_mk, setT, vUn_neg, opT_max, opT_min, max_two, min_two, List.append_eq, opT_makeFunc, opT_fieldAddr, opT_build, partsO_nil, partsO_cons, faddr_ptr, faddr_rptr, cells_agg, push_last, Nat.add_zero, opT_box, opT_alloc, ints_get, post_norm, post_exit, post_ret, Int.toNat_natCast, Bool.false_eq_true, Int.reduceEq, Int.reduceLT, Int.reduceLE, Int.reduceNeg, not_false_eq_true, and_self, map_nothing, bind_nothing, Int.natCast_one, Int.cast_ofNat_Int, not_true_eq_false, decide_true, decide_false, true_implies, false_implies, Int.toNat_zero, List.length_cons, List.length_nil, Nat.zero_add, mb, Nat.reduceBEq, Bool.false_and, Bool.and_false, cells_int, tys, stb, GK_nil, GK_op, GKS_some, GKS_none, GKS_ite, GKS_nite, Bool.or_false, Bool.false_or, Bool.true_and, Bool.or_true, Bool.true_or, h1]
  simp [oneOr]

theorem seal_rowN {ts : List Nat} {v : V} {zs : List Int} (g : Grow ts v (zs.map (V.int .i64))) (hz : v = .nilsl ∨ zs ≠ []) (h : List AObj) (x : Int) : sealV h 12 (.tup [v, .int .i64 x]) = some (.tup [rowN zs, .int .i64 x]) := by
  by_cases he : zs = []
  · subst he
    rcases hz with rfl | hz
    · rfl
    · exact absurd rfl hz
  · rw [seal_grow2 g he]
    simp [rowN, he]

theorem cover_ok (n : Int) (h1 : 1 ≤ n) (h2 : n ≤ 128) (i : Nat) (hi : (i : Int) ≤ n) (σ : S) : callFn env (ev env) 17 [.int .i64 n, .int .i64 i] σ = some (.tup [rowN (cov (hgt n) 0 0 i), .int .i64 0], σ) := by
  refine callFn_pure rfl rfl rfl at17 rfl (by simp [Try.f17]) (by simp [Try.f17]) (G_start ?_) σ
  have c1 : ¬ (i : Int) < 0 := by omega
  have c2 : ¬ n < (i : Int) := by omega
  obtain ⟨v, σ', hc, g, hv⟩ := collect_call (hgt n) (hgt_le n) i (by omega) 0 1 ⟨[.cells [.int .i64 (hgt n)] 3, .cells [.int .i64 i] 3], []⟩ rfl rfl
  simp only [Try.f17, G_seq, G_block, G_skip_code, G_skip_blk, G_skip_nil, G_exit_code, G_exit_blk, G_exit_nil, G_ret_code, G_ret_blk, G_ret_nil, G_cond, G_cond_const, G_loop, G_region, G_draw, GL_nil, GL_op, GL_none, GL_guard, GS_some, GS_ite, GS_nite, GN_some, GN_ite, GN_nite, GB_true, GB_false, GB_dec, GG_true_true, GG_true_false, GG_false_true, GG_false_false, GG_true_dec, GG_false_dec, opT_move, opT_assign, opT_pick, pickO_true, pickO_false, opT_binOp, binO_some, opT_unOp, opT_extract, extrO_tup, opT_indexAddr, idxO_slice, opT_load, opT_call, opT_len, opT_append, opT_convert, convO_int, callV_func, evalT, upd_at, Nat.reduceLT, Nat.reduceEqDiff, if_true, if_false, reduceIte, true_and, map_mk, bind_mk, map_ite', map_nite, bind_ite', bind_nite, vBin_add, vBin_sub, vBin_mul, vBin_eql, vBin_neq, vBin_lss, vBin_leq, vBin_gtr, vBin_geq, vBin_rem, vBin_quo, vBin_beql, vBin_bneq, vUn_not, vUn_true, vUn_false, index_row, len_row, len_nilsl, listO_nil, listO_cons, ofVal, ofCell, argT, List.getD_cons_zero, List.getD_cons_succ, List.getElem?_toArray, List.getElem?_cons_zero, List.getElem?_cons_succ, List.nil_append, List.cons_append, List.append_nil, resT, wpR_nil, V1_some, Nat.mul_one, load_row, load_ptr, cellAt_some, opT_store, store_ptr, storeAt_some, cells_row, isCell_row, cells_nilsl, push_mk, set_mk, setT, vUn_neg, opT_max, opT_min, max_two, min_two, List.append_eq, opT_makeFunc, opT_fieldAddr, opT_build, partsO_nil, partsO_cons, faddr_ptr, faddr_rptr, cells_agg, push_last, Nat.add_zero, opT_box, opT_alloc, ints_get, post_norm, post_exit, post_ret, Int.toNat_natCast, Bool.false_eq_true, Int.reduceEq, Int.reduceLT, Int.reduceLE, Int.reduceNeg, not_false_eq_true, and_self, map_nothing, bind_nothing, Int.natCast_one, Int.cast_ofNat_Int, not_true_eq_false, decide_true, decide_false, true_implies, false_implies, Int.toNat_zero, List.length_cons, List.length_nil, Nat.zero_add, mb, Nat.reduceBEq, Bool.false_and, Bool.and_false, cells_int, tys, stb, GK_nil, GK_op, GKS_some, GKS_none, GKS_ite, GKS_nite, Bool.or_false, Bool.false_or, Bool.true_and, Bool.or_true, Bool.true_or, height_ok n h1 h2, covers_call, c1, c2, empty_mk, hc]
  simp only [oneOr, sealDepth]
  exact seal_rowN g hv _ _

theorem cover_bad (n i : Int) (h : n < 1 ∨ 128 < n ∨ i < 0 ∨ n < i) (σ : S) : callFn env (ev env) 17 [.int .i64 n, .int .i64 i] σ = some (.tup [.nilsl, .int .i64 2], σ) := by
  refine callFn_pure rfl rfl rfl at17 rfl (by simp [Try.f17]) (by simp [Try.f17]) (G_start ?_) σ
  by_cases hn : n < 1 ∨ 128 < n
  · simp only [Try.f17, G_seq, G_block, G_skip_code, G_skip_blk, G_skip_nil, G_exit_code, G_exit_blk, G_exit_nil, G_ret_code, G_ret_blk, G_ret_nil, G_cond, G_cond_const, G_loop, G_region, G_draw, GL_nil, GL_op, GL_none, GL_guard, GS_some, GS_ite, GS_nite, GN_some, GN_ite, GN_nite, GB_true, GB_false, GB_dec, GG_true_true, GG_true_false, GG_false_true, GG_false_false, GG_true_dec, GG_false_dec, opT_move, opT_assign, opT_pick, pickO_true, pickO_false, opT_binOp, binO_some, opT_unOp, opT_extract, extrO_tup, opT_indexAddr, idxO_slice, opT_load, opT_call, opT_len, opT_append, opT_convert, convO_int, callV_func, evalT, upd_at, Nat.reduceLT, Nat.reduceEqDiff, if_true, if_false, reduceIte, true_and, map_mk, bind_mk, map_ite', map_nite, bind_ite', bind_nite, vBin_add, vBin_sub, vBin_mul, vBin_eql, vBin_neq, vBin_lss, vBin_leq, vBin_gtr, vBin_geq, vBin_rem, vBin_quo, vBin_beql, vBin_bneq, vUn_not, vUn_true, vUn_false, index_row, len_row, len_nilsl, listO_nil, listO_cons, ofVal, ofCell, argT, List.getD_cons_zero, List.getD_cons_succ, List.getElem?_toArray, List.getElem?_cons_zero, List.getElem?_cons_succ, List.nil_append, List.cons_append, List.append_nil, resT, wpR_nil, V1_some, Nat.mul_one, load_row, load_ptr, cellAt_some, opT_store, store_ptr, storeAt_some, cells_row, isCell_row, cells_nilsl, push_mk, set_mk, setT, vUn_neg, opT_max, opT_min, max_two, min_two, List.append_eq, opT_makeFunc, opT_fieldAddr, opT_build, partsO_nil, partsO_cons, faddr_ptr, faddr_rptr, cells_agg, push_last, Nat.add_zero, opT_box, opT_alloc, ints_get, post_norm, post_exit, post_ret, Int.toNat_natCast, Bool.false_eq_true, Int.reduceEq, Int.reduceLT, Int.reduceLE, Int.reduceNeg, not_false_eq_true, and_self, map_nothing, bind_nothing, Int.natCast_one, Int.cast_ofNat_Int, not_true_eq_false, decide_true, decide_false, true_implies, false_implies, Int.toNat_zero, List.length_cons, List.length_nil, Nat.zero_add, mb, Nat.reduceBEq, Bool.false_and, Bool.and_false, cells_int, tys, stb, GK_nil, GK_op, GKS_some, GKS_none, GKS_ite, GKS_nite, Bool.or_false, Bool.false_or, Bool.true_and, Bool.or_true, Bool.true_or, height_bad n hn]
    rfl
  · by_cases hi : i < 0
    · simp only [Try.f17, G_seq, G_block, G_skip_code, G_skip_blk, G_skip_nil, G_exit_code, G_exit_blk, G_exit_nil, G_ret_code, G_ret_blk, G_ret_nil, G_cond, G_cond_const, G_loop, G_region, G_draw, GL_nil, GL_op, GL_none, GL_guard, GS_some, GS_ite, GS_nite, GN_some, GN_ite, GN_nite, GB_true, GB_false, GB_dec, GG_true_true, GG_true_false, GG_false_true, GG_false_false, GG_true_dec, GG_false_dec, opT_move, opT_assign, opT_pick, pickO_true, pickO_false, opT_binOp, binO_some, opT_unOp, opT_extract, extrO_tup, opT_indexAddr, idxO_slice, opT_load, opT_call, opT_len, opT_append, opT_convert, convO_int, callV_func, evalT, upd_at, Nat.reduceLT, Nat.reduceEqDiff, if_true, if_false, reduceIte, true_and, map_mk, bind_mk, map_ite', map_nite, bind_ite', bind_nite, vBin_add, vBin_sub, vBin_mul, vBin_eql, vBin_neq, vBin_lss, vBin_leq, vBin_gtr, vBin_geq, vBin_rem, vBin_quo, vBin_beql, vBin_bneq, vUn_not, vUn_true, vUn_false, index_row, len_row, len_nilsl, listO_nil, listO_cons, ofVal, ofCell, argT, List.getD_cons_zero, List.getD_cons_succ, List.getElem?_toArray, List.getElem?_cons_zero, List.getElem?_cons_succ, List.nil_append, List.cons_append, List.append_nil, resT, wpR_nil, V1_some, Nat.mul_one, load_row, load_ptr, cellAt_some, opT_store, store_ptr, storeAt_some, cells_row, isCell_row, cells_nilsl, push_mk, set_mk, setT, vUn_neg, opT_max, opT_min, max_two, min_two, List.append_eq, opT_makeFunc, opT_fieldAddr, opT_build, partsO_nil, partsO_cons, faddr_ptr, faddr_rptr, cells_agg, push_last, Nat.add_zero, opT_box, opT_alloc, ints_get, post_norm, post_exit, post_ret, Int.toNat_natCast, Bool.false_eq_true, Int.reduceEq, Int.reduceLT, Int.reduceLE, Int.reduceNeg, not_false_eq_true, and_self, map_nothing, bind_nothing, Int.natCast_one, Int.cast_ofNat_Int, not_true_eq_false, decide_true, decide_false, true_implies, false_implies, Int.toNat_zero, List.length_cons, List.length_nil, Nat.zero_add, mb, Nat.reduceBEq, Bool.false_and, Bool.and_false, cells_int, tys, stb, GK_nil, GK_op, GKS_some, GKS_none, GKS_ite, GKS_nite, Bool.or_false, Bool.false_or, Bool.true_and, Bool.or_true, Bool.true_or, height_ok n (by omega) (by omega), hi]
      rfl
    · have : n < i := by omega
      simp only [Try.f17, G_seq, G_block, G_skip_code, G_skip_blk, G_skip_nil, G_exit_code, G_exit_blk, G_exit_nil, G_ret_code, G_ret_blk, G_ret_nil, G_cond, G_cond_const, G_loop, G_region, G_draw, GL_nil, GL_op, GL_none, GL_guard, GS_some, GS_ite, GS_nite, GN_some, GN_ite, GN_nite, GB_true, GB_false, GB_dec, GG_true_true, GG_true_false, GG_false_true, GG_false_false, GG_true_dec, GG_false_dec, opT_move, opT_assign, opT_pick, pickO_true, pickO_false, opT_binOp, binO_some, opT_unOp, opT_extract, extrO_tup, opT_indexAddr, idxO_slice, opT_load, opT_call, opT_len, opT_append, opT_convert, convO_int, callV_func, evalT, upd_at, Nat.reduceLT, Nat.reduceEqDiff, if_true, if_false, reduceIte, true_and, map_mk, bind_mk, map_ite', map_nite, bind_ite', bind_nite, vBin_add, vBin_sub, vBin_mul, vBin_eql, vBin_neq, vBin_lss, vBin_leq, vBin_gtr, vBin_geq, vBin_rem, vBin_quo, vBin_beql, vBin_bneq, vUn_not, vUn_true, vUn_false, index_row, len_row, len_nilsl, listO_nil, listO_cons, ofVal, ofCell, argT, List.getD_cons_zero, List.getD_cons_succ, List.getElem?_toArray, List.getElem?_cons_zero, List.getElem?_cons_succ, List.nil_append, List.cons_append, List.append_nil, resT, wpR_nil, V1_some, Nat.mul_one, load_row, load_ptr, cellAt_some, opT_store, store_ptr, storeAt_some, cells_row, isCell_row, cells_nilsl, push_mk, set_mk, setT, vUn_neg, opT_max, opT_min, max_two, min_two, List.append_eq, opT_makeFunc, opT_fieldAddr, opT_build, partsO_nil, partsO_cons, faddr_ptr, faddr_rptr, cells_agg, push_last, Nat.add_zero, opT_box, opT_alloc, ints_get, post_norm, post_exit, post_ret, Int.toNat_natCast, Bool.false_eq_true, Int.reduceEq, Int.reduceLT, Int.reduceLE, Int.reduceNeg, not_false_eq_true, and_self, map_nothing, bind_nothing, Int.natCast_one, Int.cast_ofNat_Int, not_true_eq_false, decide_true, decide_false, true_implies, false_implies, Int.toNat_zero, List.length_cons, List.length_nil, Nat.zero_add, mb, Nat.reduceBEq, Bool.false_and, Bool.and_false, cells_int, tys, stb, GK_nil, GK_op, GKS_some, GKS_none, GKS_ite, GKS_nite, Bool.or_false, Bool.false_or, Bool.true_and, Bool.or_true, Bool.true_or, height_ok n (by omega) (by omega), hi, this]
      rfl

theorem rcover_bad (n i : Int) (h : n < 1 ∨ 128 < n ∨ i < 0 ∨ n < i) (σ : S) : callFn env (ev env) 21 [.int .i64 n, .int .i64 i] σ = some (.tup [.nilsl, .int .i64 2], σ) := by
  refine callFn_pure rfl rfl rfl at21 rfl (by simp [Try.f21]) (by simp [Try.f21]) (G_start ?_) σ
  by_cases hn : n < 1 ∨ 128 < n
  · simp only [Try.f21, G_seq, G_block, G_skip_code, G_skip_blk, G_skip_nil, G_exit_code, G_exit_blk, G_exit_nil, G_ret_code, G_ret_blk, G_ret_nil, G_cond, G_cond_const, G_loop, G_region, G_draw, GL_nil, GL_op, GL_none, GL_guard, GS_some, GS_ite, GS_nite, GN_some, GN_ite, GN_nite, GB_true, GB_false, GB_dec, GG_true_true, GG_true_false, GG_false_true, GG_false_false, GG_true_dec, GG_false_dec, opT_move, opT_assign, opT_pick, pickO_true, pickO_false, opT_binOp, binO_some, opT_unOp, opT_extract, extrO_tup, opT_indexAddr, idxO_slice, opT_load, opT_call, opT_len, opT_append, opT_convert, convO_int, callV_func, evalT, upd_at, Nat.reduceLT, Nat.reduceEqDiff, if_true, if_false, reduceIte, true_and, map_mk, bind_mk, map_ite', map_nite, bind_ite', bind_nite, vBin_add, vBin_sub, vBin_mul, vBin_eql, vBin_neq, vBin_lss, vBin_leq, vBin_gtr, vBin_geq, vBin_rem, vBin_quo, vBin_beql, vBin_bneq, vUn_not, vUn_true, vUn_false, index_row, len_row, len_nilsl, listO_nil, listO_cons, ofVal, ofCell, argT, List.getD_cons_zero, List.getD_cons_succ, List.getElem?_toArray, List.getElem?_cons_zero, List.getElem?_cons_succ, List.nil_append, List.cons_append, List.append_nil, resT, wpR_nil, V1_some, Nat.mul_one, load_row, load_ptr, cellAt_some, opT_store, store_ptr, storeAt_some, cells_row, isCell_row, cells_nilsl, push_mk, set_mk, setT, vUn_neg, opT_max, opT_min, max_two, min_two, List.append_eq, opT_makeFunc, opT_fieldAddr, opT_build, partsO_nil, partsO_cons, faddr_ptr, faddr_rptr, cells_agg, push_last, Nat.add_zero, opT_box, opT_alloc, ints_get, post_norm, post_exit, post_ret, Int.toNat_natCast, Bool.false_eq_true, Int.reduceEq, Int.reduceLT, Int.reduceLE, Int.reduceNeg, not_false_eq_true, and_self, map_nothing, bind_nothing, Int.natCast_one, Int.cast_ofNat_Int, not_true_eq_false, decide_true, decide_false, true_implies, false_implies, Int.toNat_zero, List.length_cons, List.length_nil, Nat.zero_add, mb, Nat.reduceBEq, Bool.false_and, Bool.and_false, cells_int, tys, stb, GK_nil, GK_op, GKS_some, GKS_none, GKS_ite, GKS_nite, Bool.or_false, Bool.false_or, Bool.true_and, Bool.or_true, Bool.true_or, rheight_bad n hn]
    rfl
  · by_cases hi : i < 0
    · simp only [Try.f21, G_seq, G_block, G_skip_code, G_skip_blk, G_skip_nil, G_exit_code, G_exit_blk, G_exit_nil, G_ret_code, G_ret_blk, G_ret_nil, G_cond, G_cond_const, G_loop, G_region, G_draw, GL_nil, GL_op, GL_none, GL_guard, GS_some, GS_ite, GS_nite, GN_some, GN_ite, GN_nite, GB_true, GB_false, GB_dec, GG_true_true, GG_true_false, GG_false_true, GG_false_false, GG_true_dec, GG_false_dec, opT_move, opT_assign, opT_pick, pickO_true, pickO_false, opT_binOp, binO_some, opT_unOp, opT_extract, extrO_tup, opT_indexAddr, idxO_slice, opT_load, opT_call, opT_len, opT_append, opT_convert, convO_int, callV_func, evalT, upd_at, Nat.reduceLT, Nat.reduceEqDiff, if_true, if_false, reduceIte, true_and, map_mk, bind_mk, map_ite', map_nite, bind_ite', bind_nite, vBin_add, vBin_sub, vBin_mul, vBin_eql, vBin_neq, vBin_lss, vBin_leq, vBin_gtr, vBin_geq, vBin_rem, vBin_quo, vBin_beql, vBin_bneq, vUn_not, vUn_true, vUn_false, index_row, len_row, len_nilsl, listO_nil, listO_cons, ofVal, ofCell, argT, List.getD_cons_zero, List.getD_cons_succ, List.getElem?_toArray, List.getElem?_cons_zero, List.getElem?_cons_succ, List.nil_append, List.cons_append, List.append_nil, resT, wpR_nil, V1_some, Nat.mul_one, load_row, load_ptr, cellAt_some, opT_store, store_ptr, storeAt_some, cells_row, isCell_row, cells_nilsl, push_mk, set_mk, setT, vUn_neg, opT_max, opT_min, max_two, min_two, List.append_eq, opT_makeFunc, opT_fieldAddr, opT_build, partsO_nil, partsO_cons, faddr_ptr, faddr_rptr, cells_agg, push_last, Nat.add_zero, opT_box, opT_alloc, ints_get, post_norm, post_exit, post_ret, Int.toNat_natCast, Bool.false_eq_true, Int.reduceEq, Int.reduceLT, Int.reduceLE, Int.reduceNeg, not_false_eq_true, and_self, map_nothing, bind_nothing, Int.natCast_one, Int.cast_ofNat_Int, not_true_eq_false, decide_true, decide_false, true_implies, false_implies, Int.toNat_zero, List.length_cons, List.length_nil, Nat.zero_add, mb, Nat.reduceBEq, Bool.false_and, Bool.and_false, cells_int, tys, stb, GK_nil, GK_op, GKS_some, GKS_none, GKS_ite, GKS_nite, Bool.or_false, Bool.false_or, Bool.true_and, Bool.or_true, Bool.true_or, rheight_ok n (by omega) (by omega), hi]
      rfl
    · have : n < i := by omega
      simp only [Try.f21, G_seq, G_block, G_skip_code, G_skip_blk, G_skip_nil, G_exit_code, G_exit_blk, G_exit_nil, G_ret_code, G_ret_blk, G_ret_nil, G_cond, G_cond_const, G_loop, G_region, G_draw, GL_nil, GL_op, GL_none, GL_guard, GS_some, GS_ite, GS_nite, GN_some, GN_ite, GN_nite, GB_true, GB_false, GB_dec, GG_true_true, GG_true_false, GG_false_true, GG_false_false, GG_true_dec, GG_false_dec, opT_move, opT_assign, opT_pick, pickO_true, pickO_false, opT_binOp, binO_some, opT_unOp, opT_extract, extrO_tup, opT_indexAddr, idxO_slice, opT_load, opT_call, opT_len, opT_append, opT_convert, convO_int, callV_func, evalT, upd_at, Nat.reduceLT, Nat.reduceEqDiff, if_true, if_false, reduceIte, true_and, map_mk, bind_mk, map_ite', map_nite, bind_ite', bind_nite, vBin_add, vBin_sub, vBin_mul, vBin_eql, vBin_neq, vBin_lss, vBin_leq, vBin_gtr, vBin_geq, vBin_rem, vBin_quo, vBin_beql, vBin_bneq, vUn_not, vUn_true, vUn_false, index_row, len_row, len_nilsl, listO_nil, listO_cons, ofVal, ofCell, argT, List.getD_cons_zero, List.getD_cons_succ, List.getElem?_toArray, List.getElem?_cons_zero, List.getElem?_cons_succ, List.nil_append, List.cons_append, List.append_nil, resT, wpR_nil, V1_some, Nat.mul_one, load_row, load_ptr, cellAt_some, opT_store, store_ptr, storeAt_some, cells_row, isCell_row, cells_nilsl, push_mk, set_mk, setT, vUn_neg, opT_max, opT_min, max_two, min_two, List.append_eq, opT_makeFunc, opT_fieldAddr, opT_build, partsO_nil, partsO_cons, faddr_ptr, faddr_rptr, cells_agg, push_last, Nat.add_zero, opT_box, opT_alloc, ints_get, post_norm, post_exit, post_ret, Int.toNat_natCast, Bool.false_eq_true, Int.reduceEq, Int.reduceLT, Int.reduceLE, Int.reduceNeg, not_false_eq_true, and_self, map_nothing, bind_nothing, Int.natCast_one, Int.cast_ofNat_Int, not_true_eq_false, decide_true, decide_false, true_implies, false_implies, Int.toNat_zero, List.length_cons, List.length_nil, Nat.zero_add, mb, Nat.reduceBEq, Bool.false_and, Bool.and_false, cells_int, tys, stb, GK_nil, GK_op, GKS_some, GKS_none, GKS_ite, GKS_nite, Bool.or_false, Bool.false_or, Bool.true_and, Bool.or_true, Bool.true_or, rheight_ok n (by omega) (by omega), hi, this]
      rfl

theorem cov_ne : ∀ (d node at' i : Nat), at' < i → cov d node at' i ≠ []
  | 0, node, at', i, h => by simp only [cov]; rw [if_neg (by omega)]; simp
  | d + 1, node, at', i, h => by
    simp only [cov]
    rw [if_neg (by omega)]
    split
    · simp
    · intro he
      rw [List.append_eq_nil_iff] at he
      exact cov_ne d _ _ _ h he.1

theorem rspan_call (i : Nat) (hi : i ≤ 1000) : ∀ (d node at' : Nat), (node + 2) * 2 ^ d ≤ 1000 → at' + 2 ^ d ≤ 1000 → ∀ (σ : S),
    ∃ v ts, callFn env (ev env) 30 [.int .i64 node, .int .i64 at', .int .i64 ((2 ^ d : Nat) : Int), .int .i64 i] σ = some (v, ⟨σ.heap, ts⟩) ∧ GrowN σ.toks.length ts v ((cov d node at' i).map (V.int .i64)) ∧ (v = .nilsl → cov d node at' i = []) ∧ (v = .nilsl ∨ cov d node at' i ≠ []) ∧
      σ.toks.length ≤ ts.length ∧ (∀ k, k < σ.toks.length → ts[k]? = σ.toks[k]?) := by
  intro d
  induction d with
  | zero =>
    intro node at' hn ha σ
    by_cases c1 : (i : Int) ≤ (at' : Int)
    · have hcov : cov 0 node at' i = [] := by simp only [cov]; rw [if_pos (by omega)]
      refine ⟨.nilsl, σ.toks, ?_, ?_, fun _ => hcov, .inl rfl, Nat.le_refl _, fun _ _ => rfl⟩
      · refine callFn_eq rfl rfl at30 rfl (by simp [Try.f30]) (by simp [Try.f30]) ?_
        simp only [Try.f30, G_seq, G_block, G_skip_code, G_skip_blk, G_skip_nil, G_exit_code, G_exit_blk, G_exit_nil, G_ret_code, G_ret_blk, G_ret_nil, G_cond, G_cond_const, G_loop, G_region, G_draw, GL_nil, GL_op, GL_none, GL_guard, GS_some, GS_ite, GS_nite, GN_some, GN_ite, GN_nite, GB_true, GB_false, GB_dec, GG_true_true, GG_true_false, GG_false_true, GG_false_false, GG_true_dec, GG_false_dec, opT_move, opT_assign, opT_pick, pickO_true, pickO_false, opT_binOp, binO_some, opT_unOp, opT_extract, extrO_tup, opT_indexAddr, idxO_slice, opT_load, opT_call, opT_len, opT_append, opT_convert, convO_int, callV_func, evalT, upd_at, Nat.reduceLT, Nat.reduceEqDiff, if_true, if_false, reduceIte, true_and, map_mk, bind_mk, map_ite', map_nite, bind_ite', bind_nite, vBin_add, vBin_sub, vBin_mul, vBin_eql, vBin_neq, vBin_lss, vBin_leq, vBin_gtr, vBin_geq, vBin_rem, vBin_quo, vBin_beql, vBin_bneq, vUn_not, vUn_true, vUn_false, index_row, len_row, len_nilsl, listO_nil, listO_cons, ofVal, ofCell, argT, List.getD_cons_zero, List.getD_cons_succ, List.getElem?_toArray, List.getElem?_cons_zero, List.getElem?_cons_succ, List.nil_append, List.cons_append, List.append_nil, resT, wpR_nil, V1_some, Nat.mul_one, load_row, load_ptr, cellAt_some, opT_store, store_ptr, storeAt_some, cells_row, isCell_row, cells_nilsl, push_mk, set_mk, setT, vUn_neg, opT_max, opT_min, max_two, min_two, List.append_eq, opT_makeFunc, opT_fieldAddr, opT_build, partsO_nil, partsO_cons, faddr_ptr, faddr_rptr, cells_agg, push_last, Nat.add_zero, opT_box, opT_alloc, ints_get, post_norm, post_exit, post_ret, Int.toNat_natCast, Bool.false_eq_true, Int.reduceEq, Int.reduceLT, Int.reduceLE, Int.reduceNeg, not_false_eq_true, and_self, map_nothing, bind_nothing, Int.natCast_one, Int.cast_ofNat_Int, not_true_eq_false, decide_true, decide_false, true_implies, false_implies, Int.toNat_zero, List.length_cons, List.length_nil, Nat.zero_add, mb, Nat.reduceBEq, Bool.false_and, Bool.and_false, cells_int, tys, stb, GK_nil, GK_op, GKS_some, GKS_none, GKS_ite, GKS_nite, Bool.or_false, Bool.false_or, Bool.true_and, Bool.or_true, Bool.true_or, c1]
        simp [oneOr]
      · rw [hcov]
        exact ⟨.nil, by rintro k ⟨_, _, _, _, he⟩; cases he⟩
    · have hcov : cov 0 node at' i = [(node : Int)] := by simp only [cov]; rw [if_neg (by omega)]
      have e1 : IntKind.i64.wrap ((at' : Int) + ((2 ^ 0 : Nat) : Int)) = ((at' + 1 : Nat) : Int) := by rw [wrap_i64 (by omega) (by omega)]; omega
      have c2 : ((at' + 1 : Nat) : Int) ≤ (i : Int) := by omega
      refine ⟨.row [.int .i64 node] 1 .full, σ.toks, ?_, ?_, fun h => (by cases h), .inr (by rw [hcov]; simp), Nat.le_refl _, fun _ _ => rfl⟩
      · refine callFn_eq rfl rfl at30 rfl (by simp [Try.f30]) (by simp [Try.f30]) ?_
        simp only [Try.f30, G_seq, G_block, G_skip_code, G_skip_blk, G_skip_nil, G_exit_code, G_exit_blk, G_exit_nil, G_ret_code, G_ret_blk, G_ret_nil, G_cond, G_cond_const, G_loop, G_region, G_draw, GL_nil, GL_op, GL_none, GL_guard, GS_some, GS_ite, GS_nite, GN_some, GN_ite, GN_nite, GB_true, GB_false, GB_dec, GG_true_true, GG_true_false, GG_false_true, GG_false_false, GG_true_dec, GG_false_dec, opT_move, opT_assign, opT_pick, pickO_true, pickO_false, opT_binOp, binO_some, opT_unOp, opT_extract, extrO_tup, opT_indexAddr, idxO_slice, opT_load, opT_call, opT_len, opT_append, opT_convert, convO_int, callV_func, evalT, upd_at, Nat.reduceLT, Nat.reduceEqDiff, if_true, if_false, reduceIte, true_and, map_mk, bind_mk, map_ite', map_nite, bind_ite', bind_nite, vBin_add, vBin_sub, vBin_mul, vBin_eql, vBin_neq, vBin_lss, vBin_leq, vBin_gtr, vBin_geq, vBin_rem, vBin_quo, vBin_beql, vBin_bneq, vUn_not, vUn_true, vUn_false, index_row, len_row, len_nilsl, listO_nil, listO_cons, ofVal, ofCell, argT, List.getD_cons_zero, List.getD_cons_succ, List.getElem?_toArray, List.getElem?_cons_zero, List.getElem?_cons_succ, List.nil_append, List.cons_append, List.append_nil, resT, wpR_nil, V1_some, Nat.mul_one, load_row, load_ptr, cellAt_some, opT_store, store_ptr, storeAt_some, cells_row, isCell_row, cells_nilsl, push_mk, set_mk, setT, vUn_neg, opT_max, opT_min, max_two, min_two, List.append_eq, opT_makeFunc, opT_fieldAddr, opT_build, partsO_nil, partsO_cons, faddr_ptr, faddr_rptr, cells_agg, push_last, Nat.add_zero, opT_box, opT_alloc, ints_get, post_norm, post_exit, post_ret, Int.toNat_natCast, Bool.false_eq_true, Int.reduceEq, Int.reduceLT, Int.reduceLE, Int.reduceNeg, not_false_eq_true, and_self, map_nothing, bind_nothing, Int.natCast_one, Int.cast_ofNat_Int, not_true_eq_false, decide_true, decide_false, true_implies, false_implies, Int.toNat_zero, List.length_cons, List.length_nil, Nat.zero_add, mb, Nat.reduceBEq, Bool.false_and, Bool.and_false, cells_int, tys, stb, GK_nil, GK_op, GKS_some, GKS_none, GKS_ite, GKS_nite, Bool.or_false, Bool.false_or, Bool.true_and, Bool.or_true, Bool.true_or, c1, e1, c2, bs1]
        simp [oneOr]
      · rw [hcov]
        exact ⟨.full [.int .i64 node], by rintro k ⟨_, _, _, _, he⟩; cases he⟩
  | succ d ih =>
    intro node at' hn ha σ
    have h2 : 2 ^ (d + 1) = 2 * 2 ^ d := by rw [Nat.pow_succ]; omega
    have hpos : 1 ≤ 2 ^ d := Nat.one_le_two_pow
    have hnode : node + 2 ≤ 1000 := by
      have : (node + 2) * 1 ≤ (node + 2) * 2 ^ (d + 1) := Nat.mul_le_mul_left _ Nat.one_le_two_pow
      omega
    by_cases c1 : (i : Int) ≤ (at' : Int)
    · have hcov : cov (d + 1) node at' i = [] := by simp only [cov]; rw [if_pos (by omega)]
      refine ⟨.nilsl, σ.toks, ?_, ?_, fun _ => hcov, .inl rfl, Nat.le_refl _, fun _ _ => rfl⟩
      · refine callFn_eq rfl rfl at30 rfl (by simp [Try.f30]) (by simp [Try.f30]) ?_
        simp only [Try.f30, G_seq, G_block, G_skip_code, G_skip_blk, G_skip_nil, G_exit_code, G_exit_blk, G_exit_nil, G_ret_code, G_ret_blk, G_ret_nil, G_cond, G_cond_const, G_loop, G_region, G_draw, GL_nil, GL_op, GL_none, GL_guard, GS_some, GS_ite, GS_nite, GN_some, GN_ite, GN_nite, GB_true, GB_false, GB_dec, GG_true_true, GG_true_false, GG_false_true, GG_false_false, GG_true_dec, GG_false_dec, opT_move, opT_assign, opT_pick, pickO_true, pickO_false, opT_binOp, binO_some, opT_unOp, opT_extract, extrO_tup, opT_indexAddr, idxO_slice, opT_load, opT_call, opT_len, opT_append, opT_convert, convO_int, callV_func, evalT, upd_at, Nat.reduceLT, Nat.reduceEqDiff, if_true, if_false, reduceIte, true_and, map_mk, bind_mk, map_ite', map_nite, bind_ite', bind_nite, vBin_add, vBin_sub, vBin_mul, vBin_eql, vBin_neq, vBin_lss, vBin_leq, vBin_gtr, vBin_geq, vBin_rem, vBin_quo, vBin_beql, vBin_bneq, vUn_not, vUn_true, vUn_false, index_row, len_row, len_nilsl, listO_nil, listO_cons, ofVal, ofCell, argT, List.getD_cons_zero, List.getD_cons_succ, List.getElem?_toArray, List.getElem?_cons_zero, List.getElem?_cons_succ, List.nil_append, List.cons_append, List.append_nil, resT, wpR_nil, V1_some, Nat.mul_one, load_row, load_ptr, cellAt_some, opT_store, store_ptr, storeAt_some, cells_row, isCell_row, cells_nilsl, push_mk, set_mk, setT, vUn_neg, opT_max, opT_min, max_two, min_two, List.append_eq, opT_makeFunc, opT_fieldAddr, opT_build, partsO_nil, partsO_cons, faddr_ptr, faddr_rptr, cells_agg, push_last, Nat.add_zero, opT_box, opT_alloc, ints_get, post_norm, post_exit, post_ret, Int.toNat_natCast, Bool.false_eq_true, Int.reduceEq, Int.reduceLT, Int.reduceLE, Int.reduceNeg, not_false_eq_true, and_self, map_nothing, bind_nothing, Int.natCast_one, Int.cast_ofNat_Int, not_true_eq_false, decide_true, decide_false, true_implies, false_implies, Int.toNat_zero, List.length_cons, List.length_nil, Nat.zero_add, mb, Nat.reduceBEq, Bool.false_and, Bool.and_false, cells_int, tys, stb, GK_nil, GK_op, GKS_some, GKS_none, GKS_ite, GKS_nite, Bool.or_false, Bool.false_or, Bool.true_and, Bool.or_true, Bool.true_or, c1]
        simp [oneOr]
      · rw [hcov]
        exact ⟨.nil, by rintro k ⟨_, _, _, _, he⟩; cases he⟩
    · have e1 : IntKind.i64.wrap ((at' : Int) + ((2 ^ (d + 1) : Nat) : Int)) = ((at' + 2 ^ (d + 1) : Nat) : Int) := by rw [wrap_i64 (by omega) (by omega)]; omega
      by_cases c2 : ((at' + 2 ^ (d + 1) : Nat) : Int) ≤ (i : Int)
      · have hcov : cov (d + 1) node at' i = [(node : Int)] := by simp only [cov]; rw [if_neg (by omega), if_pos (by omega)]
        refine ⟨.row [.int .i64 node] 1 .full, σ.toks, ?_, ?_, fun h => (by cases h), .inr (by rw [hcov]; simp), Nat.le_refl _, fun _ _ => rfl⟩
        · refine callFn_eq rfl rfl at30 rfl (by simp [Try.f30]) (by simp [Try.f30]) ?_
          simp only [Try.f30, G_seq, G_block, G_skip_code, G_skip_blk, G_skip_nil, G_exit_code, G_exit_blk, G_exit_nil, G_ret_code, G_ret_blk, G_ret_nil, G_cond, G_cond_const, G_loop, G_region, G_draw, GL_nil, GL_op, GL_none, GL_guard, GS_some, GS_ite, GS_nite, GN_some, GN_ite, GN_nite, GB_true, GB_false, GB_dec, GG_true_true, GG_true_false, GG_false_true, GG_false_false, GG_true_dec, GG_false_dec, opT_move, opT_assign, opT_pick, pickO_true, pickO_false, opT_binOp, binO_some, opT_unOp, opT_extract, extrO_tup, opT_indexAddr, idxO_slice, opT_load, opT_call, opT_len, opT_append, opT_convert, convO_int, callV_func, evalT, upd_at, Nat.reduceLT, Nat.reduceEqDiff, if_true, if_false, reduceIte, true_and, map_mk, bind_mk, map_ite', map_nite, bind_ite', bind_nite, vBin_add, vBin_sub, vBin_mul, vBin_eql, vBin_neq, vBin_lss, vBin_leq, vBin_gtr, vBin_geq, vBin_rem, vBin_quo, vBin_beql, vBin_bneq, vUn_not, vUn_true, vUn_false, index_row, len_row, len_nilsl, listO_nil, listO_cons, ofVal, ofCell, argT, List.getD_cons_zero, List.getD_cons_succ, List.getElem?_toArray, List.getElem?_cons_zero, List.getElem?_cons_succ, List.nil_append, List.cons_append, List.append_nil, resT, wpR_nil, V1_some, Nat.mul_one, load_row, load_ptr, cellAt_some, opT_store, store_ptr, storeAt_some, cells_row, isCell_row, cells_nilsl, push_mk, set_mk, setT, vUn_neg, opT_max, opT_min, max_two, min_two, List.append_eq, opT_makeFunc, opT_fieldAddr, opT_build, partsO_nil, partsO_cons, faddr_ptr, faddr_rptr, cells_agg, push_last, Nat.add_zero, opT_box, opT_alloc, ints_get, post_norm, post_exit, post_ret, Int.toNat_natCast, Bool.false_eq_true, Int.reduceEq, Int.reduceLT, Int.reduceLE, Int.reduceNeg, not_false_eq_true, and_self, map_nothing, bind_nothing, Int.natCast_one, Int.cast_ofNat_Int, not_true_eq_false, decide_true, decide_false, true_implies, false_implies, Int.toNat_zero, List.length_cons, List.length_nil, Nat.zero_add, mb, Nat.reduceBEq, Bool.false_and, Bool.and_false, cells_int, tys, stb, GK_nil, GK_op, GKS_some, GKS_none, GKS_ite, GKS_nite, Bool.or_false, Bool.false_or, Bool.true_and, Bool.or_true, Bool.true_or, c1, e1, c2, bs1]
          simp [oneOr]
        · rw [hcov]
          exact ⟨.full [.int .i64 node], by rintro k ⟨_, _, _, _, he⟩; cases he⟩
      · have hcov : cov (d + 1) node at' i = cov d (2 * node + 1) at' i ++ cov d (2 * node + 2) (at' + 2 ^ d) i := by simp only [cov]; rw [if_neg (by omega), if_neg (by omega)]
        have a1 : (2 * node + 1 + 2) * 2 ^ d ≤ 1000 := by
          have : (2 * node + 1 + 2) * 2 ^ d ≤ (node + 2) * 2 * 2 ^ d := Nat.mul_le_mul_right _ (by omega)
          rw [h2, ← Nat.mul_assoc] at hn
          omega
        have a2 : (2 * node + 2 + 2) * 2 ^ d ≤ 1000 := by
          have : (2 * node + 2 + 2) * 2 ^ d ≤ (node + 2) * 2 * 2 ^ d := Nat.mul_le_mul_right _ (by omega)
          rw [h2, ← Nat.mul_assoc] at hn
          omega
        obtain ⟨v1, t1, hc1, g1, n1, z1, l1, k1⟩ := ih (2 * node + 1) at' a1 (by omega) σ
        obtain ⟨v2, t2, hc2, g2, n2, z2, l2, k2⟩ := ih (2 * node + 2) (at' + 2 ^ d) a2 (by omega) ⟨σ.heap, t1⟩
        simp only at hc2 g2 l2 k2
        have g1' : GrowN σ.toks.length t2 v1 _ := g1.keep fun k e hk he => by
          have hkl : k < t1.length := by
            rcases Nat.lt_or_ge k t1.length with h1 | h1
            · exact h1
            · rw [List.getElem?_eq_none h1] at he; simp at he
          rw [k2 k hkl]; exact he
        have b1 := cov_len d (2 * node + 1) at' i
        have b2 := cov_len d (2 * node + 2) (at' + 2 ^ d) i
        obtain ⟨v', t3, happ, g3, l3, k3, n3⟩ := g1'.append one22 (hp := σ.heap) (by omega) g2.grow (ints_cells _) (by simp [lim]; omega) (by simp [lim]; omega)
        have e3 : IntKind.i64.wrap (2 * (node : Int)) = ((2 * node : Nat) : Int) := by rw [wrap_i64 (by omega) (by omega)]; omega
        have e4 : IntKind.i64.wrap (((2 * node : Nat) : Int) + 1) = ((2 * node + 1 : Nat) : Int) := by rw [wrap_i64 (by omega) (by omega)]; omega
        have e5 : IntKind.i64.wrap (((2 * node : Nat) : Int) + 2) = ((2 * node + 2 : Nat) : Int) := by rw [wrap_i64 (by omega) (by omega)]; omega
        have e6 : IntKind.i64.wrap (((2 ^ (d + 1) : Nat) : Int).tdiv 2) = ((2 ^ d : Nat) : Int) := by
          rw [Int.tdiv_eq_ediv_of_nonneg (by omega), wrap_i64 (by omega) (by omega)]; omega
        have e7 : IntKind.i64.wrap ((at' : Int) + ((2 ^ d : Nat) : Int)) = ((at' + 2 ^ d : Nat) : Int) := by rw [wrap_i64 (by omega) (by omega)]; omega
        refine ⟨v', t3, ?_, ?_, ?_, ?_, by omega, ?_⟩
        · refine callFn_eq rfl rfl at30 rfl (by simp [Try.f30]) (by simp [Try.f30]) ?_
          simp only [Try.f30, G_seq, G_block, G_skip_code, G_skip_blk, G_skip_nil, G_exit_code, G_exit_blk, G_exit_nil, G_ret_code, G_ret_blk, G_ret_nil, G_cond, G_cond_const, G_loop, G_region, G_draw, GL_nil, GL_op, GL_none, GL_guard, GS_some, GS_ite, GS_nite, GN_some, GN_ite, GN_nite, GB_true, GB_false, GB_dec, GG_true_true, GG_true_false, GG_false_true, GG_false_false, GG_true_dec, GG_false_dec, opT_move, opT_assign, opT_pick, pickO_true, pickO_false, opT_binOp, binO_some, opT_unOp, opT_extract, extrO_tup, opT_indexAddr, idxO_slice, opT_load, opT_call, opT_len, opT_append, opT_convert, convO_int, callV_func, evalT, upd_at, Nat.reduceLT, Nat.reduceEqDiff, if_true, if_false, reduceIte, true_and, map_mk, bind_mk, map_ite', map_nite, bind_ite', bind_nite, vBin_add, vBin_sub, vBin_mul, vBin_eql, vBin_neq, vBin_lss, vBin_leq, vBin_gtr, vBin_geq, vBin_rem, vBin_quo, vBin_beql, vBin_bneq, vUn_not, vUn_true, vUn_false, index_row, len_row, len_nilsl, listO_nil, listO_cons, ofVal, ofCell, argT, List.getD_cons_zero, List.getD_cons_succ, List.getElem?_toArray, List.getElem?_cons_zero, List.getElem?_cons_succ, List.nil_append, List.cons_append, List.append_nil, resT, wpR_nil, V1_some, Nat.mul_one, load_row, load_ptr, cellAt_some, opT_store, store_ptr, storeAt_some, cells_row, isCell_row, cells_nilsl, push_mk, set_mk, setT, vUn_neg, opT_max, opT_min, max_two, min_two, List.append_eq, opT_makeFunc, opT_fieldAddr, opT_build, partsO_nil, partsO_cons, faddr_ptr, faddr_rptr, cells_agg, push_last, Nat.add_zero, opT_box, opT_alloc, ints_get, post_norm, post_exit, post_ret, Int.toNat_natCast, Bool.false_eq_true, Int.reduceEq, Int.reduceLT, Int.reduceLE, Int.reduceNeg, not_false_eq_true, and_self, map_nothing, bind_nothing, Int.natCast_one, Int.cast_ofNat_Int, not_true_eq_false, decide_true, decide_false, true_implies, false_implies, Int.toNat_zero, List.length_cons, List.length_nil, Nat.zero_add, mb, Nat.reduceBEq, Bool.false_and, Bool.and_false, cells_int, tys, stb, GK_nil, GK_op, GKS_some, GKS_none, GKS_ite, GKS_nite, Bool.or_false, Bool.false_or, Bool.true_and, Bool.or_true, Bool.true_or, c1, e1, c2, e3, e4, e5, e6, e7, hc1, hc2, happ]
          simp [oneOr]
        · rw [hcov, ← ints_app]; exact g3
        · intro h
          obtain ⟨h5, h6⟩ := n3 h
          rw [hcov, n1 h5, List.map_eq_nil_iff.1 h6]; rfl
        · by_cases hv : v' = .nilsl
          · exact .inl hv
          · right
            exact cov_ne (d + 1) node at' i (by omega)
        · intro k hk
          rw [k3 k hk, k2 k (by omega), k1 k hk]

theorem rcover_ok (n : Int) (h1 : 1 ≤ n) (h2 : n ≤ 128) (i : Nat) (hi : (i : Int) ≤ n) (σ : S) : callFn env (ev env) 21 [.int .i64 n, .int .i64 i] σ = some (.tup [rowN (cov (hgt n) 0 0 i), .int .i64 0], σ) := by
  refine callFn_pure rfl rfl rfl at21 rfl (by simp [Try.f21]) (by simp [Try.f21]) (G_start ?_) σ
  have c1 : ¬ (i : Int) < 0 := by omega
  have c2 : ¬ n < (i : Int) := by omega
  have hp := pow_le (hgt n) (hgt_le n)
  obtain ⟨v, ts, hc, g, _, hv, _, _⟩ := rspan_call i (by omega) (hgt n) 0 0 (by omega) (by omega) S.empty
  rw [show ((2 ^ hgt n : Nat) : Int) = 1 * 2 ^ hgt n by rw [pow_cast]; omega] at hc
  simp only [Int.natCast_zero] at hc
  simp only [Try.f21, G_seq, G_block, G_skip_code, G_skip_blk, G_skip_nil, G_exit_code, G_exit_blk, G_exit_nil, G_ret_code, G_ret_blk, G_ret_nil, G_cond, G_cond_const, G_loop, G_region, G_draw, GL_nil, GL_op, GL_none, GL_guard, GS_some, GS_ite, GS_nite, GN_some, GN_ite, GN_nite, GB_true, GB_false, GB_dec, GG_true_true, GG_true_false, GG_false_true, GG_false_false, GG_true_dec, GG_false_dec, opT_move, opT_assign, opT_pick, pickO_true, pickO_false, opT_binOp, binO_some, opT_unOp, opT_extract, extrO_tup, opT_indexAddr, idxO_slice, opT_load, opT_call, opT_len, opT_append, opT_convert, convO_int, callV_func, evalT, upd_at, Nat.reduceLT, Nat.reduceEqDiff, if_true, if_false, reduceIte, true_and, map_mk, bind_mk, map_ite', map_nite, bind_ite', bind_nite, vBin_add, vBin_sub, vBin_mul, vBin_eql, vBin_neq, vBin_lss, vBin_leq, vBin_gtr, vBin_geq, vBin_rem, vBin_quo, vBin_beql, vBin_bneq, vUn_not, vUn_true, vUn_false, index_row, len_row, len_nilsl, listO_nil, listO_cons, ofVal, ofCell, argT, List.getD_cons_zero, List.getD_cons_succ, List.getElem?_toArray, List.getElem?_cons_zero, List.getElem?_cons_succ, List.nil_append, List.cons_append, List.append_nil, resT, wpR_nil, V1_some, Nat.mul_one, load_row, load_ptr, cellAt_some, opT_store, store_ptr, storeAt_some, cells_row, isCell_row, cells_nilsl, push_mk, set_mk, setT, vUn_neg, opT_max, opT_min, max_two, min_two, List.append_eq, opT_makeFunc, opT_fieldAddr, opT_build, partsO_nil, partsO_cons, faddr_ptr, faddr_rptr, cells_agg, push_last, Nat.add_zero, opT_box, opT_alloc, ints_get, post_norm, post_exit, post_ret, Int.toNat_natCast, Bool.false_eq_true, Int.reduceEq, Int.reduceLT, Int.reduceLE, Int.reduceNeg, not_false_eq_true, and_self, map_nothing, bind_nothing, Int.natCast_one, Int.cast_ofNat_Int, not_true_eq_false, decide_true, decide_false, true_implies, false_implies, Int.toNat_zero, List.length_cons, List.length_nil, Nat.zero_add, mb, Nat.reduceBEq, Bool.false_and, Bool.and_false, cells_int, tys, stb, GK_nil, GK_op, GKS_some, GKS_none, GKS_ite, GKS_nite, Bool.or_false, Bool.false_or, Bool.true_and, Bool.or_true, Bool.true_or, rheight_ok n h1 h2, c1, c2, shl_small (hgt n) (by have := hgt_le n; omega) 1 (.inl rfl), hc]
  simp only [oneOr, sealDepth]
  exact seal_rowN g.grow hv _ _
end Go.Proofs.Ytkomkiejakcilaa

namespace Go.Proofs.Ytkomkiejakcilaa
set_option linter.unusedVariables false
open Go.Ab

theorem up_mem : ∀ (K : Nat) (m : Int), m ∈ up K ↔ ∃ j, 1 ≤ j ∧ 2 ^ j ≤ K + 1 ∧ m = (((K + 1) / 2 ^ j - 1 : Nat) : Int) := by
  intro K
  induction K using Nat.strongRecOn with
  | ind K ih =>
    intro m
    by_cases hK : K = 0
    · subst hK
      rw [up_zero]
      constructor
      · intro h; simp at h
      · rintro ⟨j, h1, h2, _⟩
        have : 2 ^ 1 ≤ 2 ^ j := Nat.pow_le_pow_right (by omega) h1
        omega
    · have he : (K - 1) / 2 + 1 = (K + 1) / 2 := by omega
      rw [up_pos K (by omega), List.mem_cons, ih ((K - 1) / 2) (by omega) m, he]
      constructor
      · rintro (h | ⟨j, h1, h2, h3⟩)
        · exact ⟨1, Nat.le_refl _, by omega, by rw [h]; congr 1; omega⟩
        · refine ⟨j + 1, by omega, ?_, ?_⟩
          · rw [Nat.pow_succ]; omega
          · rw [h3, Nat.div_div_eq_div_mul, Nat.pow_succ, Nat.mul_comm 2]
      · rintro ⟨j, h1, h2, h3⟩
        rcases Nat.lt_or_ge 1 j with h4 | h4
        · right
          refine ⟨j - 1, by omega, ?_, ?_⟩
          · rw [show j = (j - 1) + 1 by omega, Nat.pow_succ] at h2; omega
          · rw [h3, Nat.div_div_eq_div_mul, Nat.mul_comm 2, ← Nat.pow_succ, show (j - 1).succ = j by omega]
        · have : j = 1 := by omega
          subst this
          left
          rw [h3]; congr 1; omega

theorem path_mem (h k : Nat) (m : Int) : m ∈ pathL h k ↔ ∃ j, 2 ^ j ≤ 2 ^ h + k ∧ m = (((2 ^ h + k) / 2 ^ j - 1 : Nat) : Int) := by
  have hp : 1 ≤ 2 ^ h := Nat.one_le_two_pow
  have e : 2 ^ h - 1 + k + 1 = 2 ^ h + k := by omega
  unfold pathL
  rw [List.mem_cons, up_mem, e]
  constructor
  · rintro (h1 | ⟨j, _, h2, h3⟩)
    · exact ⟨0, by simp; omega, by rw [h1]; simp; omega⟩
    · exact ⟨j, h2, h3⟩
  · rintro ⟨j, h2, h3⟩
    by_cases hj : j = 0
    · subst hj; left; rw [h3]; simp; omega
    · right; exact ⟨j, by omega, h2, h3⟩

/-- a node of height d whose first leaf is at is on the path of k just when k is below it -/
theorem on_path (h d node at' k : Nat) (hd : d ≤ h) (hn : (node + 1) * 2 ^ d = 2 ^ h + at') (hat : at' + 2 ^ d ≤ 2 ^ h) (hk : k < 2 ^ h) : (node : Int) ∈ pathL h k ↔ at' ≤ k ∧ k < at' + 2 ^ d := by
  rw [path_mem]
  have hpd : 1 ≤ 2 ^ d := Nat.one_le_two_pow
  constructor
  · rintro ⟨j, h1, h2⟩
    have hpj : 1 ≤ 2 ^ j := Nat.one_le_two_pow
    have hj1 : 1 ≤ (2 ^ h + k) / 2 ^ j := (Nat.le_div_iff_mul_le (by omega)).2 (by omega)
    have e : node + 1 = (2 ^ h + k) / 2 ^ j := by omega
    have hlo : (node + 1) * 2 ^ j ≤ 2 ^ h + k := by rw [e]; exact Nat.div_mul_le_self _ _
    have hhi : 2 ^ h + k < (node + 1) * 2 ^ j + 2 ^ j := by
      rw [e]; exact Nat.lt_div_mul_add (by omega)
    have hjd : j = d := by
      rcases Nat.lt_trichotomy j d with hlt | heq | hgt
      · exfalso
        have h3 : 2 ^ d = 2 ^ j * 2 ^ (d - j) := by rw [← Nat.pow_add]; congr 1; omega
        have h4 : 2 ≤ 2 ^ (d - j) := by
          have : 2 ^ 1 ≤ 2 ^ (d - j) := Nat.pow_le_pow_right (by omega) (by omega)
          omega
        have h5 : 2 ^ h = 2 ^ (h - j) * 2 ^ j := by rw [← Nat.pow_add]; congr 1; omega
        have h6 : 2 ^ (h - j) ≤ node + 1 := by
          rw [e]; exact (Nat.le_div_iff_mul_le (by omega)).2 (by omega)
        have h7 : 2 ^ h ≤ (node + 1) * 2 ^ j := by rw [h5]; exact Nat.mul_le_mul_right _ h6
        have h8 : (node + 1) * 2 ^ j * 2 ≤ (node + 1) * 2 ^ d := by
          rw [h3, ← Nat.mul_assoc]; exact Nat.mul_le_mul_left _ h4
        omega
      · exact heq
      · exfalso
        have h3 : 2 ^ j = 2 ^ d * 2 ^ (j - d) := by rw [← Nat.pow_add]; congr 1; omega
        have h4 : 2 ≤ 2 ^ (j - d) := by
          have : 2 ^ 1 ≤ 2 ^ (j - d) := Nat.pow_le_pow_right (by omega) (by omega)
          omega
        have h8 : (node + 1) * 2 ^ d * 2 ≤ (node + 1) * 2 ^ j := by
          rw [h3, ← Nat.mul_assoc]; exact Nat.mul_le_mul_left _ h4
        omega
    subst hjd
    omega
  · rintro ⟨h1, h2⟩
    have e : (2 ^ h + k) / 2 ^ d = node + 1 := Nat.div_eq_of_lt_le (by omega) (by rw [Nat.succ_mul]; omega)
    exact ⟨d, by omega, by rw [e]; simp⟩

theorem one_node (h k : Nat) (x : Int) (p : Prop) [Decidable p] (hp : x ∈ pathL h k ↔ p) : [x].countP (fun y => decide (y ∈ pathL h k)) = if p then 1 else 0 := by
  by_cases h1 : p
  · simp [h1, hp.2 h1]
  · have : x ∉ pathL h k := fun h2 => h1 (hp.1 h2)
    simp [h1, this]

theorem cov_count (h i k : Nat) (hk : k < 2 ^ h) : ∀ (d node at' : Nat), d ≤ h → (node + 1) * 2 ^ d = 2 ^ h + at' → at' + 2 ^ d ≤ 2 ^ h →
    (cov d node at' i).countP (fun y => decide (y ∈ pathL h k)) = if at' ≤ k ∧ k < at' + 2 ^ d ∧ k < i then 1 else 0
  | 0, node, at', hd, hn, ha => by
    have hon := on_path h 0 node at' k hd hn ha hk
    simp only [cov]
    by_cases c1 : i ≤ at'
    · rw [if_pos c1, if_neg (by omega)]; rfl
    · rw [if_neg c1, one_node h k _ _ hon]
      simp only [Nat.pow_zero]
      by_cases c2 : at' ≤ k ∧ k < at' + 1
      · rw [if_pos c2, if_pos (by omega)]
      · rw [if_neg c2, if_neg (by omega)]
  | d + 1, node, at', hd, hn, ha => by
    have hon := on_path h (d + 1) node at' k hd hn ha hk
    have h2 : 2 ^ (d + 1) = 2 * 2 ^ d := by rw [Nat.pow_succ]; omega
    have hpd : 1 ≤ 2 ^ d := Nat.one_le_two_pow
    have n1 : (2 * node + 1 + 1) * 2 ^ d = 2 ^ h + at' := by rw [← hn, h2, ← Nat.mul_assoc]; congr 1; omega
    have n2 : (2 * node + 2 + 1) * 2 ^ d = 2 ^ h + (at' + 2 ^ d) := by
      rw [show 2 * node + 2 + 1 = (2 * node + 1 + 1) + 1 by omega, Nat.succ_mul, n1]; omega
    have r1 := cov_count h i k hk d (2 * node + 1) at' (by omega) n1 (by omega)
    have r2 := cov_count h i k hk d (2 * node + 2) (at' + 2 ^ d) (by omega) n2 (by omega)
    simp only [cov]
    by_cases c1 : i ≤ at'
    · rw [if_pos c1, if_neg (by omega)]; rfl
    · rw [if_neg c1]
      by_cases c2 : at' + 2 ^ (d + 1) ≤ i
      · rw [if_pos c2, one_node h k _ _ hon]
        by_cases c3 : at' ≤ k ∧ k < at' + 2 ^ (d + 1)
        · rw [if_pos c3, if_pos (by omega)]
        · rw [if_neg c3, if_neg (by omega)]
      · rw [if_neg c2, List.countP_append, r1, r2]
        by_cases c3 : at' ≤ k ∧ k < at' + 2 ^ d ∧ k < i
        · rw [if_pos c3, if_neg (by omega), if_pos (by omega)]
        · rw [if_neg c3]
          by_cases c4 : at' + 2 ^ d ≤ k ∧ k < at' + 2 ^ d + 2 ^ d ∧ k < i
          · rw [if_pos c4, if_pos (by omega)]
          · rw [if_neg c4, if_neg (by omega)]

/-- the cover of the first i of n values: just one of its nodes is on the path of each of them, none on another path -/
theorem cover_count (h i k : Nat) (hk : k < 2 ^ h) : (cov h 0 0 i).countP (fun y => decide (y ∈ pathL h k)) = if k < i then 1 else 0 := by
  rw [cov_count h i k hk h 0 0 (Nat.le_refl _) (by omega) (by omega)]
  by_cases c : k < i
  · rw [if_pos c, if_pos (by omega)]
  · rw [if_neg c, if_neg (by omega)]

/-- how many nodes a cover has -/
theorem cov_len2 : ∀ (d node at' i : Nat), (cov d node at' i).length ≤ max 1 d
  | 0, node, at', i => by simp only [cov]; split <;> simp
  | d + 1, node, at', i => by
    have hpd : 1 ≤ 2 ^ d := Nat.one_le_two_pow
    have h2 : 2 ^ (d + 1) = 2 * 2 ^ d := by rw [Nat.pow_succ]; omega
    simp only [cov]
    split
    · simp
    · split
      · simp
      · have r1 := cov_len2 d (2 * node + 1) at' i
        have r2 := cov_len2 d (2 * node + 2) (at' + 2 ^ d) i
        rw [List.length_append]
        by_cases c : i ≤ at' + 2 ^ d
        · have : cov d (2 * node + 2) (at' + 2 ^ d) i = [] := by
            cases d with
            | zero => simp only [cov]; rw [if_pos c]
            | succ d => simp only [cov]; rw [if_pos c]
          rw [this]; simp; omega
        · have : (cov d (2 * node + 1) at' i) = [((2 * node + 1 : Nat) : Int)] := by
            cases d with
            | zero => simp only [cov]; rw [if_neg (by omega)]
            | succ d => simp only [cov]; rw [if_neg (by omega), if_pos (by omega)]
          rw [this]
          cases d with
          | zero =>
            exfalso
            simp at *
            omega
          | succ d => simp only [List.length_cons, List.length_nil]; omega

theorem up_length : ∀ (h K : Nat), 2 ^ h ≤ K + 1 → K + 1 < 2 ^ (h + 1) → (up K).length = h
  | 0, K, h1, h2 => by
    have : K = 0 := by simp at h2; omega
    subst this; rfl
  | h + 1, K, h1, h2 => by
    have e1 : 2 ^ (h + 1) = 2 * 2 ^ h := by rw [Nat.pow_succ]; omega
    have e2 : 2 ^ (h + 1 + 1) = 2 * 2 ^ (h + 1) := by rw [Nat.pow_succ]; omega
    have hp : 1 ≤ 2 ^ h := Nat.one_le_two_pow
    rw [up_pos K (by omega), List.length_cons, up_length h ((K - 1) / 2) (by omega) (by omega)]
theorem path_length (h k : Nat) (hk : k < 2 ^ h) : (pathL h k).length = h + 1 := by
  have hp : 1 ≤ 2 ^ h := Nat.one_le_two_pow
  have e1 : 2 ^ (h + 1) = 2 * 2 ^ h := by rw [Nat.pow_succ]; omega
  unfold pathL
  rw [List.length_cons, up_length h _ (by omega) (by omega)]
theorem up_getD : ∀ (h K j : Nat), 2 ^ h ≤ K + 1 → j < h → (up K).getD j 0 = (((K + 1) / 2 ^ (j + 1) - 1 : Nat) : Int)
  | 0, K, j, _, hj => by omega
  | h + 1, K, j, h1, hj => by
    have e1 : 2 ^ (h + 1) = 2 * 2 ^ h := by rw [Nat.pow_succ]; omega
    have hp : 1 ≤ 2 ^ h := Nat.one_le_two_pow
    rw [up_pos K (by omega)]
    cases j with
    | zero => rw [List.getD_cons_zero]; congr 1; simp; omega
    | succ j =>
      rw [List.getD_cons_succ, up_getD h _ j (by omega) (by omega), show (K - 1) / 2 + 1 = (K + 1) / 2 by omega, Nat.div_div_eq_div_mul, Nat.pow_succ 2 (j + 1), Nat.mul_comm 2]
theorem path_getD (h k j : Nat) (hk : k < 2 ^ h) (hj : j ≤ h) : (pathL h k).getD j 0 = (((2 ^ h + k) / 2 ^ j - 1 : Nat) : Int) := by
  have hp : 1 ≤ 2 ^ h := Nat.one_le_two_pow
  unfold pathL
  cases j with
  | zero => rw [List.getD_cons_zero]; congr 1; simp; omega
  | succ j => rw [List.getD_cons_succ, up_getD h _ j (by omega) (by omega)]; congr 3; omega
theorem path_last (h k : Nat) (hk : k < 2 ^ h) : (pathL h k).getD h 0 = 0 := by
  rw [path_getD h k h hk (Nat.le_refl _)]
  have : (2 ^ h + k) / 2 ^ h = 1 := Nat.div_eq_of_lt_le (by omega) (by omega)
  rw [this]; rfl
theorem path_step (h k j : Nat) (hk : k < 2 ^ h) (hj : j < h) : ((pathL h k).getD j 0 - 1).tdiv 2 = (pathL h k).getD (j + 1) 0 := by
  rw [path_getD h k j hk (by omega), path_getD h k (j + 1) hk hj]
  have hp : 2 ^ (j + 1) ≤ 2 ^ h := Nat.pow_le_pow_right (by omega) hj
  have e1 : 2 ^ (j + 1) = 2 * 2 ^ j := by rw [Nat.pow_succ]; omega
  have hpj : 1 ≤ 2 ^ j := Nat.one_le_two_pow
  have e2 : (2 ^ h + k) / 2 ^ (j + 1) = (2 ^ h + k) / 2 ^ j / 2 := by rw [Nat.pow_succ, Nat.div_div_eq_div_mul]
  have h2 : 2 ≤ (2 ^ h + k) / 2 ^ j := (Nat.le_div_iff_mul_le (by omega)).2 (by omega)
  rw [e2, Int.tdiv_eq_ediv_of_nonneg (by omega)]
  omega
theorem len_rowN (e : TypeId) (zs : List Int) : vLenT (some (.slice e)) (rowN zs) = some (.int .i64 zs.length) := by
  unfold rowN
  split
  · rename_i h; subst h; rfl
  · rfl
theorem hgt_pow (n : Int) (h1 : 1 ≤ n) (h2 : n ≤ 128) : n ≤ 2 ^ hgt n := by
  unfold hgt
  repeat' split
  all_goals omega

end Go.Proofs.Ytkomkiejakcilaa

namespace Go.Proofs.Ytkomkiejakcilaa
open Go.Ab
set_option maxRecDepth 100000
set_option linter.unusedSimpArgs false
set_option linter.unusedVariables false
theorem isTrue_eq {o : Option Res} (h : Go.Ab.isTrue o = true) : ∃ σ', o = some ⟨.ret, [.bool true], [], σ'⟩ := by
  unfold Go.Ab.isTrue at h
  split at h
  · rename_i b st; subst h; exact ⟨st, rfl⟩
  · simp at h
theorem lives_run : Go.Ab.isTrue (run env 60 (.call 9 [] S.empty)) = true := by kernel_rfl
theorem lives_call (σ : S) : callFn env (ev env) 9 [] σ = some (.bool true, σ) := by
  obtain ⟨σ', hr⟩ := isTrue_eq lives_run
  exact callFn_run rfl rfl rfl hr rfl σ
end Go.Proofs.Ytkomkiejakcilaa
