/- Proved here: contracts of the functions that the laws of the tree call. Conditions: those of each theorem; no statement of the seat is proved in this text. -/
import Derived.Test.YtkomkiejakcilaaEvB
namespace Go.Proofs.Ytkomkiejakcilaa
open Go.Ab
set_option maxRecDepth 100000
set_option linter.unusedSimpArgs false
set_option linter.unusedVariables false
theorem u22 : env.P.underlying 22 = some (.slice 3) := by kernel_rfl
theorem u3 : env.P.underlying 3 = some (.int .i64) := by kernel_rfl
theorem u45 : env.P.underlying 45 = some (.int .u64) := by kernel_rfl
theorem s3 : sz env 3 = some 1 := by kernel_rfl
theorem s22 : sz env 22 = some 1 := by kernel_rfl
theorem b3 : bys env 3 = some 8 := by kernel_rfl
theorem z3 : zeroN env 3 = some 1 := by kernel_rfl
theorem e22 : elemS env 22 = some 3 := by kernel_rfl
theorem g3 : aggT env 3 = some false := by kernel_rfl
theorem g22 : aggT env 22 = some false := by kernel_rfl
theorem tys : env.P.underlying 22 = some (.slice 3) ∧ env.P.underlying 3 = some (.int .i64) ∧ sz env 3 = some 1 ∧ sz env 22 = some 1 ∧ bys env 3 = some 8 ∧ zeroN env 3 = some 1 ∧ elemS env 22 = some 3 ∧
    (∀ h p, aload env h 3 p = (loadCellsV h 1 p).bind (·[0]?)) ∧ (∀ h p, aload env h 22 p = (loadCellsV h 1 p).bind (·[0]?)) := ⟨u22, u3, s3, s22, b3, z3, e22, fun _ _ => aload_one g3, fun _ _ => aload_one g22⟩
theorem mb (f : FuncId) (r : Nat) : env.mutb f r = (f == 10 && r == 8 || f == 13 && r == 1) := rfl
theorem stb (f : FuncId) (r : Nat) : env.stab f r = (f == 26 && r == 2) := rfl
theorem at12 : env.P.funcs[12]? = some Try.f12 := by kernel_rfl
theorem at13 : env.P.funcs[13]? = some Try.f13 := by kernel_rfl
theorem at15 : env.P.funcs[15]? = some Try.f15 := by kernel_rfl
theorem at16 : env.P.funcs[16]? = some Try.f16 := by kernel_rfl
theorem at18 : env.P.funcs[18]? = some Try.f18 := by kernel_rfl
theorem at19 : env.P.funcs[19]? = some Try.f19 := by kernel_rfl
theorem at25 : env.P.funcs[25]? = some Try.f25 := by kernel_rfl
theorem at28 : env.P.funcs[28]? = some Try.f28 := by kernel_rfl

abbrev rowI (zs : List Int) : V := .row (zs.map (V.int .i64)) zs.length .unk

theorem pick_call (x n : Int) (hn : 0 < n) (hx : n ≤ 2 ^ 62) (σ : S) : callFn env (ev env) 12 [.int .i64 x, .int .i64 n] σ = some (.int .i64 (x % n), σ) := by
  refine callFn_pure rfl rfl rfl at12 rfl (by simp [Try.f12]) (by simp [Try.f12]) (G_start ?_) σ
  simp only [Try.f12, G_seq, G_block, G_skip_code, G_skip_blk, G_skip_nil, G_exit_code, G_exit_blk, G_exit_nil, G_ret_code, G_ret_blk, G_ret_nil, G_cond, G_cond_const, G_loop, G_region, G_draw, GL_nil, GL_op, GL_none, GL_guard, GS_some, GS_ite, GS_nite, GN_some, GN_ite, GN_nite, GB_true, GB_false, GB_dec, GG_true_true, GG_true_false, GG_false_true, GG_false_false, GG_true_dec, GG_false_dec, opT_move, opT_assign, opT_pick, pickO_true, pickO_false, opT_binOp, binO_some, opT_unOp, opT_extract, extrO_tup, opT_indexAddr, idxO_slice, opT_load, opT_call, opT_len, opT_append, opT_convert, convO_int, callV_func, evalT, upd_at, Nat.reduceLT, Nat.reduceEqDiff, if_true, if_false, reduceIte, true_and, map_mk, bind_mk, map_ite', map_nite, bind_ite', bind_nite, vBin_add, vBin_sub, vBin_mul, vBin_eql, vBin_neq, vBin_lss, vBin_leq, vBin_gtr, vBin_geq, vBin_rem, vBin_quo, vBin_beql, vBin_bneq, vUn_not, vUn_true, vUn_false, index_row, len_row, len_nilsl, listO_nil, listO_cons, ofVal, ofCell, argT, List.getD_cons_zero, List.getD_cons_succ, List.getElem?_toArray, List.getElem?_cons_zero, List.getElem?_cons_succ, List.nil_append, List.cons_append, List.append_nil, resT, wpR_nil, V1_some, Nat.mul_one, load_row, load_ptr, cellAt_some, opT_store, store_ptr, storeAt_some, cells_row, isCell_row, cells_nilsl, push_mk, set_mk, setT, vUn_neg, opT_max, opT_min, max_two, min_two, List.append_eq, opT_makeFunc, opT_fieldAddr, opT_build, partsO_nil, partsO_cons, faddr_ptr, faddr_rptr, cells_agg, push_last, Nat.add_zero, opT_box, opT_alloc, ints_get, post_norm, post_exit, post_ret, Int.toNat_natCast, Bool.false_eq_true, Int.reduceEq, Int.reduceLT, Int.reduceLE, Int.reduceNeg, not_false_eq_true, and_self, map_nothing, bind_nothing, Int.natCast_one, Int.cast_ofNat_Int, not_true_eq_false, decide_true, decide_false, true_implies, false_implies, Int.toNat_zero, List.length_cons, List.length_nil, Nat.zero_add, mb, Nat.reduceBEq, Bool.false_and, Bool.and_false, cells_int, tys, stb, GK_nil, GK_op, GKS_some, GKS_none, GKS_ite, GKS_nite, Bool.or_false, Bool.false_or, Bool.true_and, Bool.or_true, Bool.true_or]
  have hb := Int.tmod_lt_of_pos x hn
  have hb2 : -n < x.tmod n := by
    have := Int.lt_tmod_of_pos x hn
    omega
  have h0 := Int.emod_nonneg x (by omega : n ≠ 0)
  have h1 := Int.emod_lt_of_pos x hn
  have key : x % n = if x.tmod n < 0 then x.tmod n + n else x.tmod n := by
    have := @Int.tmod_eq_emod x n
    rw [this]
    split at this <;> split <;> omega
  refine ⟨by omega, fun h => ?_, fun h => ?_⟩
  · simp only [h, if_true] at key
    simp only [oneOr, sealDepth, sealV_int, key]
    rw [wrap_i64 (by omega) (by omega)]
  · simp only [h, if_false] at key
    simp only [oneOr, sealDepth, sealV_int, key]

theorem same_call (a b : List Int) (la : a.length < 2 ^ 62) (σ : S) : callFn env (ev env) 18 [rowI a, rowI b] σ = some (.bool (decide (a = b)), σ) := by
  refine callFn_pure rfl rfl (by simp [closed_ints]) at18 rfl (by simp [Try.f18]) (by simp [Try.f18]) (G_start ?_) σ
  simp only [Try.f18, G_seq, G_block, G_skip_code, G_skip_blk, G_skip_nil, G_exit_code, G_exit_blk, G_exit_nil, G_ret_code, G_ret_blk, G_ret_nil, G_cond, G_cond_const, G_loop, G_region, G_draw, GL_nil, GL_op, GL_none, GL_guard, GS_some, GS_ite, GS_nite, GN_some, GN_ite, GN_nite, GB_true, GB_false, GB_dec, GG_true_true, GG_true_false, GG_false_true, GG_false_false, GG_true_dec, GG_false_dec, opT_move, opT_assign, opT_pick, pickO_true, pickO_false, opT_binOp, binO_some, opT_unOp, opT_extract, extrO_tup, opT_indexAddr, idxO_slice, opT_load, opT_call, opT_len, opT_append, opT_convert, convO_int, callV_func, evalT, upd_at, Nat.reduceLT, Nat.reduceEqDiff, if_true, if_false, reduceIte, true_and, map_mk, bind_mk, map_ite', map_nite, bind_ite', bind_nite, vBin_add, vBin_sub, vBin_mul, vBin_eql, vBin_neq, vBin_lss, vBin_leq, vBin_gtr, vBin_geq, vBin_rem, vBin_quo, vBin_beql, vBin_bneq, vUn_not, vUn_true, vUn_false, index_row, len_row, len_nilsl, listO_nil, listO_cons, ofVal, ofCell, argT, List.getD_cons_zero, List.getD_cons_succ, List.getElem?_toArray, List.getElem?_cons_zero, List.getElem?_cons_succ, List.nil_append, List.cons_append, List.append_nil, resT, wpR_nil, V1_some, Nat.mul_one, load_row, load_ptr, cellAt_some, opT_store, store_ptr, storeAt_some, cells_row, isCell_row, cells_nilsl, push_mk, set_mk, setT, vUn_neg, opT_max, opT_min, max_two, min_two, List.append_eq, opT_makeFunc, opT_fieldAddr, opT_build, partsO_nil, partsO_cons, faddr_ptr, faddr_rptr, cells_agg, push_last, Nat.add_zero, opT_box, opT_alloc, ints_get, post_norm, post_exit, post_ret, Int.toNat_natCast, Bool.false_eq_true, Int.reduceEq, Int.reduceLT, Int.reduceLE, Int.reduceNeg, not_false_eq_true, and_self, map_nothing, bind_nothing, Int.natCast_one, Int.cast_ofNat_Int, not_true_eq_false, decide_true, decide_false, true_implies, false_implies, Int.toNat_zero, List.length_cons, List.length_nil, Nat.zero_add, mb, Nat.reduceBEq, Bool.false_and, Bool.and_false, cells_int, tys, stb, GK_nil, GK_op, GKS_some, GKS_none, GKS_ite, GKS_nite, Bool.or_false, Bool.false_or, Bool.true_and, Bool.or_true, Bool.true_or]
  refine ⟨fun h => ?_, fun h => ?_⟩
  · have : a ≠ b := fun e => h (by rw [e])
    simp [oneOr, sealDepth, sealV_bool, this]
  · have hl : a.length = b.length := by omega
    refine loop_rule (fun m T D σ => D = [] ∧ σ = S.empty ∧ T 0 = rowI a ∧ T 1 = rowI b ∧ ∃ i : Nat, T 5 = .int .i64 i ∧ i ≤ a.length ∧ m = a.length - i ∧ (∀ j (h : j < i), a.getD j 0 = b.getD j 0)) ?_ _ _ _ _ ⟨rfl, rfl, rfl, rfl, 0, rfl, by omega, rfl, fun j h => by omega⟩
    rintro m T D σ ⟨rfl, rfl, h0, h1, i, h5, hi, rfl, hj⟩
    refine G_start ?_
    simp only [G_seq, G_block, G_skip_code, G_skip_blk, G_skip_nil, G_exit_code, G_exit_blk, G_exit_nil, G_ret_code, G_ret_blk, G_ret_nil, G_cond, G_cond_const, G_loop, G_region, G_draw, GL_nil, GL_op, GL_none, GL_guard, GS_some, GS_ite, GS_nite, GN_some, GN_ite, GN_nite, GB_true, GB_false, GB_dec, GG_true_true, GG_true_false, GG_false_true, GG_false_false, GG_true_dec, GG_false_dec, opT_move, opT_assign, opT_pick, pickO_true, pickO_false, opT_binOp, binO_some, opT_unOp, opT_extract, extrO_tup, opT_indexAddr, idxO_slice, opT_load, opT_call, opT_len, opT_append, opT_convert, convO_int, callV_func, evalT, upd_at, Nat.reduceLT, Nat.reduceEqDiff, if_true, if_false, reduceIte, true_and, map_mk, bind_mk, map_ite', map_nite, bind_ite', bind_nite, vBin_add, vBin_sub, vBin_mul, vBin_eql, vBin_neq, vBin_lss, vBin_leq, vBin_gtr, vBin_geq, vBin_rem, vBin_quo, vBin_beql, vBin_bneq, vUn_not, vUn_true, vUn_false, index_row, len_row, len_nilsl, listO_nil, listO_cons, ofVal, ofCell, argT, List.getD_cons_zero, List.getD_cons_succ, List.getElem?_toArray, List.getElem?_cons_zero, List.getElem?_cons_succ, List.nil_append, List.cons_append, List.append_nil, resT, wpR_nil, V1_some, Nat.mul_one, load_row, load_ptr, cellAt_some, opT_store, store_ptr, storeAt_some, cells_row, isCell_row, cells_nilsl, push_mk, set_mk, setT, vUn_neg, opT_max, opT_min, max_two, min_two, List.append_eq, opT_makeFunc, opT_fieldAddr, opT_build, partsO_nil, partsO_cons, faddr_ptr, faddr_rptr, cells_agg, push_last, Nat.add_zero, opT_box, opT_alloc, ints_get, post_norm, post_exit, post_ret, Int.toNat_natCast, Bool.false_eq_true, Int.reduceEq, Int.reduceLT, Int.reduceLE, Int.reduceNeg, not_false_eq_true, and_self, map_nothing, bind_nothing, Int.natCast_one, Int.cast_ofNat_Int, not_true_eq_false, decide_true, decide_false, true_implies, false_implies, Int.toNat_zero, List.length_cons, List.length_nil, Nat.zero_add, mb, Nat.reduceBEq, Bool.false_and, Bool.and_false, cells_int, tys, stb, GK_nil, GK_op, GKS_some, GKS_none, GKS_ite, GKS_nite, Bool.or_false, Bool.false_or, Bool.true_and, Bool.or_true, Bool.true_or, h0, h1, h5]
    refine ⟨fun h => ⟨by kernel_rfl, ⟨by omega, by omega⟩, by omega, ⟨by omega, by omega⟩, by omega, fun hn => ?_, fun hn => ?_⟩, fun h => ?_⟩
    · have : a ≠ b := fun e => hn (by rw [e])
      simp [oneOr, sealDepth, sealV_bool, this]
    ·
      refine ⟨a.length - (i + 1), by omega, i + 1, ?_, by omega, rfl, fun j h => ?_⟩
      · rw [wrap_i64 (by omega) (by omega)]; simp
      · rcases Nat.lt_or_ge j i with h2 | h2
        · exact hj j h2
        · have : j = i := by omega
          subst this
          exact Classical.not_not.1 hn
    · have : a = b := by
        apply List.ext_getElem hl
        intro j h1 h2
        have := hj j (by omega)
        simpa [List.getD, h1, h2] using this
      simp [oneOr, sealDepth, sealV_bool, this]
end Go.Proofs.Ytkomkiejakcilaa

namespace Go.Proofs.Ytkomkiejakcilaa
open Go.Ab
set_option maxRecDepth 100000
set_option linter.unusedSimpArgs false
set_option linter.unusedVariables false
theorem one22 : One env 22 3 8 := ⟨e22, s3, b3, z3, u22, ⟨.int .i64 0, by kernel_rfl, rfl⟩⟩
theorem bs1 {T : Tm} {σ : S} (x : Operand) : opT env false T σ (.buildSlice 22 1 #[(0, x)]) = (evalT env T x).bind fun v => if v.cells.length = 1 then some (.row v.cells 1 .full, σ) else none := build_one one22
theorem bs0 {T : Tm} {σ : S} : opT env false T σ (.buildSlice 22 0 #[]) = some (.row [] 0 .full, σ) := build_none one22
theorem at14 : env.P.funcs[14]? = some Try.f14 := by kernel_rfl
theorem at22 : env.P.funcs[22]? = some Try.f22 := by kernel_rfl

def hgt (n : Int) : Nat := if n ≤ 1 then 0 else if n ≤ 2 then 1 else if n ≤ 4 then 2 else if n ≤ 8 then 3 else if n ≤ 16 then 4 else if n ≤ 32 then 5 else if n ≤ 64 then 6 else 7
theorem hgt_le (n : Int) : hgt n ≤ 7 := by unfold hgt; repeat' split <;> try omega
def isInt (y : Int) : Option Res → Bool
  | some { ex := .ret, vals := [.int .i64 x], dfs := [], .. } => decide (x = y)
  | _ => false
theorem isInt_eq {y : Int} {o : Option Res} (h : isInt y o = true) : ∃ σ', o = some ⟨.ret, [.int .i64 y], [], σ'⟩ := by
  unfold isInt at h
  split at h
  · simp at h; subst h; exact ⟨_, rfl⟩
  · simp at h
noncomputable def lenOK (x : Nat) : Bool := isInt (hgt (x + 1)) (run env 5 (.call 28 [.int .u64 x] S.empty))
theorem len_all : (List.range 128).all lenOK = true := by kernel_rfl
theorem len_call (n : Int) (h1 : 1 ≤ n) (h2 : n ≤ 128) (σ : S) : callFn env (ev env) 28 [.int .u64 (n - 1)] σ = some (.int .i64 (hgt n), σ) := by
  have h := List.all_eq_true.1 len_all (n - 1).toNat (by simp; omega)
  obtain ⟨σ', hr⟩ := isInt_eq h
  have e : (((n - 1).toNat : Nat) : Int) = n - 1 := by omega
  rw [e] at hr
  have e2 : n - 1 + 1 = n := by omega
  rw [e2] at hr
  exact callFn_run rfl rfl rfl hr rfl σ

theorem height_ok (n : Int) (h1 : 1 ≤ n) (h2 : n ≤ 128) (σ : S) : callFn env (ev env) 16 [.int .i64 n] σ = some (.tup [.int .i64 (hgt n), .int .i64 0], σ) := by
  refine callFn_pure rfl rfl rfl at16 rfl (by simp [Try.f16]) (by simp [Try.f16]) (G_start ?_) σ
  have hl := len_call n h1 h2
  have e1 : IntKind.i64.wrap (n - 1) = n - 1 := wrap_i64 (by omega) (by omega)
  have e2 : IntKind.u64.wrap (n - 1) = n - 1 := Go.IntWalk.u64_in _ (by omega)
  have e3 : ¬ n < 1 := by omega
  have e4 : ¬ 128 < n := by omega
  simp only [Try.f16, G_seq, G_block, G_skip_code, G_skip_blk, G_skip_nil, G_exit_code, G_exit_blk, G_exit_nil, G_ret_code, G_ret_blk, G_ret_nil, G_cond, G_cond_const, G_loop, G_region, G_draw, GL_nil, GL_op, GL_none, GL_guard, GS_some, GS_ite, GS_nite, GN_some, GN_ite, GN_nite, GB_true, GB_false, GB_dec, GG_true_true, GG_true_false, GG_false_true, GG_false_false, GG_true_dec, GG_false_dec, opT_move, opT_assign, opT_pick, pickO_true, pickO_false, opT_binOp, binO_some, opT_unOp, opT_extract, extrO_tup, opT_indexAddr, idxO_slice, opT_load, opT_call, opT_len, opT_append, opT_convert, convO_int, callV_func, evalT, upd_at, Nat.reduceLT, Nat.reduceEqDiff, if_true, if_false, reduceIte, true_and, map_mk, bind_mk, map_ite', map_nite, bind_ite', bind_nite, vBin_add, vBin_sub, vBin_mul, vBin_eql, vBin_neq, vBin_lss, vBin_leq, vBin_gtr, vBin_geq, vBin_rem, vBin_quo, vBin_beql, vBin_bneq, vUn_not, vUn_true, vUn_false, index_row, len_row, len_nilsl, listO_nil, listO_cons, ofVal, ofCell, argT, List.getD_cons_zero, List.getD_cons_succ, List.getElem?_toArray, List.getElem?_cons_zero, List.getElem?_cons_succ, List.nil_append, List.cons_append, List.append_nil, resT, wpR_nil, V1_some, Nat.mul_one, load_row, load_ptr, cellAt_some, opT_store, store_ptr, storeAt_some, cells_row, isCell_row, cells_nilsl, push_mk, set_mk, setT, vUn_neg, opT_max, opT_min, max_two, min_two, List.append_eq, opT_makeFunc, opT_fieldAddr, opT_build, partsO_nil, partsO_cons, faddr_ptr, faddr_rptr, cells_agg, push_last, Nat.add_zero, opT_box, opT_alloc, ints_get, post_norm, post_exit, post_ret, Int.toNat_natCast, Bool.false_eq_true, Int.reduceEq, Int.reduceLT, Int.reduceLE, Int.reduceNeg, not_false_eq_true, and_self, map_nothing, bind_nothing, Int.natCast_one, Int.cast_ofNat_Int, not_true_eq_false, decide_true, decide_false, true_implies, false_implies, Int.toNat_zero, List.length_cons, List.length_nil, Nat.zero_add, mb, Nat.reduceBEq, Bool.false_and, Bool.and_false, cells_int, tys, stb, GK_nil, GK_op, GKS_some, GKS_none, GKS_ite, GKS_nite, Bool.or_false, Bool.false_or, Bool.true_and, Bool.or_true, Bool.true_or, e1, e3, e4, decide_false, decide_true, u45, e2, hl]
  simp [oneOr, sealDepth, sealV_tup, mapM_seal_cons, sealV_int]
end Go.Proofs.Ytkomkiejakcilaa

namespace Go.Proofs.Ytkomkiejakcilaa
open Go.Ab
set_option maxRecDepth 100000
set_option linter.unusedSimpArgs false
set_option linter.unusedVariables false

theorem height_bad (n : Int) (h : n < 1 ∨ 128 < n) (σ : S) : callFn env (ev env) 16 [.int .i64 n] σ = some (.tup [.int .i64 0, .int .i64 2], σ) := by
  refine callFn_pure rfl rfl rfl at16 rfl (by simp [Try.f16]) (by simp [Try.f16]) (G_start ?_) σ
  by_cases e3 : n < 1
  · simp only [Try.f16, G_seq, G_block, G_skip_code, G_skip_blk, G_skip_nil, G_exit_code, G_exit_blk, G_exit_nil, G_ret_code, G_ret_blk, G_ret_nil, G_cond, G_cond_const, G_loop, G_region, G_draw, GL_nil, GL_op, GL_none, GL_guard, GS_some, GS_ite, GS_nite, GN_some, GN_ite, GN_nite, GB_true, GB_false, GB_dec, GG_true_true, GG_true_false, GG_false_true, GG_false_false, GG_true_dec, GG_false_dec, opT_move, opT_assign, opT_pick, pickO_true, pickO_false, opT_binOp, binO_some, opT_unOp, opT_extract, extrO_tup, opT_indexAddr, idxO_slice, opT_load, opT_call, opT_len, opT_append, opT_convert, convO_int, callV_func, evalT, upd_at, Nat.reduceLT, Nat.reduceEqDiff, if_true, if_false, reduceIte, true_and, map_mk, bind_mk, map_ite', map_nite, bind_ite', bind_nite, vBin_add, vBin_sub, vBin_mul, vBin_eql, vBin_neq, vBin_lss, vBin_leq, vBin_gtr, vBin_geq, vBin_rem, vBin_quo, vBin_beql, vBin_bneq, vUn_not, vUn_true, vUn_false, index_row, len_row, len_nilsl, listO_nil, listO_cons, ofVal, ofCell, argT, List.getD_cons_zero, List.getD_cons_succ, List.getElem?_toArray, List.getElem?_cons_zero, List.getElem?_cons_succ, List.nil_append, List.cons_append, List.append_nil, resT, wpR_nil, V1_some, Nat.mul_one, load_row, load_ptr, cellAt_some, opT_store, store_ptr, storeAt_some, cells_row, isCell_row, cells_nilsl, push_mk, set_mk, setT, vUn_neg, opT_max, opT_min, max_two, min_two, List.append_eq, opT_makeFunc, opT_fieldAddr, opT_build, partsO_nil, partsO_cons, faddr_ptr, faddr_rptr, cells_agg, push_last, Nat.add_zero, opT_box, opT_alloc, ints_get, post_norm, post_exit, post_ret, Int.toNat_natCast, Bool.false_eq_true, Int.reduceEq, Int.reduceLT, Int.reduceLE, Int.reduceNeg, not_false_eq_true, and_self, map_nothing, bind_nothing, Int.natCast_one, Int.cast_ofNat_Int, not_true_eq_false, decide_true, decide_false, true_implies, false_implies, Int.toNat_zero, List.length_cons, List.length_nil, Nat.zero_add, mb, Nat.reduceBEq, Bool.false_and, Bool.and_false, cells_int, tys, stb, GK_nil, GK_op, GKS_some, GKS_none, GKS_ite, GKS_nite, Bool.or_false, Bool.false_or, Bool.true_and, Bool.or_true, Bool.true_or, e3, decide_false, decide_true]
    simp [oneOr, sealDepth, sealV_tup, mapM_seal_cons, sealV_int]
  · have e4 : 128 < n := by omega
    simp only [Try.f16, G_seq, G_block, G_skip_code, G_skip_blk, G_skip_nil, G_exit_code, G_exit_blk, G_exit_nil, G_ret_code, G_ret_blk, G_ret_nil, G_cond, G_cond_const, G_loop, G_region, G_draw, GL_nil, GL_op, GL_none, GL_guard, GS_some, GS_ite, GS_nite, GN_some, GN_ite, GN_nite, GB_true, GB_false, GB_dec, GG_true_true, GG_true_false, GG_false_true, GG_false_false, GG_true_dec, GG_false_dec, opT_move, opT_assign, opT_pick, pickO_true, pickO_false, opT_binOp, binO_some, opT_unOp, opT_extract, extrO_tup, opT_indexAddr, idxO_slice, opT_load, opT_call, opT_len, opT_append, opT_convert, convO_int, callV_func, evalT, upd_at, Nat.reduceLT, Nat.reduceEqDiff, if_true, if_false, reduceIte, true_and, map_mk, bind_mk, map_ite', map_nite, bind_ite', bind_nite, vBin_add, vBin_sub, vBin_mul, vBin_eql, vBin_neq, vBin_lss, vBin_leq, vBin_gtr, vBin_geq, vBin_rem, vBin_quo, vBin_beql, vBin_bneq, vUn_not, vUn_true, vUn_false, index_row, len_row, len_nilsl, listO_nil, listO_cons, ofVal, ofCell, argT, List.getD_cons_zero, List.getD_cons_succ, List.getElem?_toArray, List.getElem?_cons_zero, List.getElem?_cons_succ, List.nil_append, List.cons_append, List.append_nil, resT, wpR_nil, V1_some, Nat.mul_one, load_row, load_ptr, cellAt_some, opT_store, store_ptr, storeAt_some, cells_row, isCell_row, cells_nilsl, push_mk, set_mk, setT, vUn_neg, opT_max, opT_min, max_two, min_two, List.append_eq, opT_makeFunc, opT_fieldAddr, opT_build, partsO_nil, partsO_cons, faddr_ptr, faddr_rptr, cells_agg, push_last, Nat.add_zero, opT_box, opT_alloc, ints_get, post_norm, post_exit, post_ret, Int.toNat_natCast, Bool.false_eq_true, Int.reduceEq, Int.reduceLT, Int.reduceLE, Int.reduceNeg, not_false_eq_true, and_self, map_nothing, bind_nothing, Int.natCast_one, Int.cast_ofNat_Int, not_true_eq_false, decide_true, decide_false, true_implies, false_implies, Int.toNat_zero, List.length_cons, List.length_nil, Nat.zero_add, mb, Nat.reduceBEq, Bool.false_and, Bool.and_false, cells_int, tys, stb, GK_nil, GK_op, GKS_some, GKS_none, GKS_ite, GKS_nite, Bool.or_false, Bool.false_or, Bool.true_and, Bool.or_true, Bool.true_or, e3, e4, decide_false, decide_true]
    simp [oneOr, sealDepth, sealV_tup, mapM_seal_cons, sealV_int]

theorem pow_small (h : Nat) (hh : h ≤ 9) : h = 0 ∨ h = 1 ∨ h = 2 ∨ h = 3 ∨ h = 4 ∨ h = 5 ∨ h = 6 ∨ h = 7 ∨ h = 8 ∨ h = 9 := by omega
theorem shl_small (h : Nat) (hh : h ≤ 9) (a : Int) (ha : a = 1 ∨ a = 2) (us : Option TypeDesc) (cc : Bool) : vBinT us cc .shl (.int .i64 a) (.int .i64 h) = some (.int .i64 (a * 2 ^ h)) := by
  rw [vBin_shl, if_neg (by omega)]
  rcases ha with rfl | rfl <;> rcases pow_small h hh with e | e | e | e | e | e | e | e | e | e <;> subst e <;> rfl

theorem leaf_call (h : Nat) (hh : h ≤ 9) (σ : S) : callFn env (ev env) 25 [.int .i64 h] σ = some (.int .i64 (2 ^ h - 1), σ) := by
  refine callFn_pure rfl rfl rfl at25 rfl (by simp [Try.f25]) (by simp [Try.f25]) (G_start ?_) σ
  have e := shl_small h hh 1 (.inl rfl)
  have e1 : IntKind.i64.wrap (1 * 2 ^ h - 1) = 2 ^ h - 1 := by rcases pow_small h hh with e | e | e | e | e | e | e | e | e | e <;> subst e <;> rfl
  simp only [Try.f25, G_seq, G_block, G_skip_code, G_skip_blk, G_skip_nil, G_exit_code, G_exit_blk, G_exit_nil, G_ret_code, G_ret_blk, G_ret_nil, G_cond, G_cond_const, G_loop, G_region, G_draw, GL_nil, GL_op, GL_none, GL_guard, GS_some, GS_ite, GS_nite, GN_some, GN_ite, GN_nite, GB_true, GB_false, GB_dec, GG_true_true, GG_true_false, GG_false_true, GG_false_false, GG_true_dec, GG_false_dec, opT_move, opT_assign, opT_pick, pickO_true, pickO_false, opT_binOp, binO_some, opT_unOp, opT_extract, extrO_tup, opT_indexAddr, idxO_slice, opT_load, opT_call, opT_len, opT_append, opT_convert, convO_int, callV_func, evalT, upd_at, Nat.reduceLT, Nat.reduceEqDiff, if_true, if_false, reduceIte, true_and, map_mk, bind_mk, map_ite', map_nite, bind_ite', bind_nite, vBin_add, vBin_sub, vBin_mul, vBin_eql, vBin_neq, vBin_lss, vBin_leq, vBin_gtr, vBin_geq, vBin_rem, vBin_quo, vBin_beql, vBin_bneq, vUn_not, vUn_true, vUn_false, index_row, len_row, len_nilsl, listO_nil, listO_cons, ofVal, ofCell, argT, List.getD_cons_zero, List.getD_cons_succ, List.getElem?_toArray, List.getElem?_cons_zero, List.getElem?_cons_succ, List.nil_append, List.cons_append, List.append_nil, resT, wpR_nil, V1_some, Nat.mul_one, load_row, load_ptr, cellAt_some, opT_store, store_ptr, storeAt_some, cells_row, isCell_row, cells_nilsl, push_mk, set_mk, setT, vUn_neg, opT_max, opT_min, max_two, min_two, List.append_eq, opT_makeFunc, opT_fieldAddr, opT_build, partsO_nil, partsO_cons, faddr_ptr, faddr_rptr, cells_agg, push_last, Nat.add_zero, opT_box, opT_alloc, ints_get, post_norm, post_exit, post_ret, Int.toNat_natCast, Bool.false_eq_true, Int.reduceEq, Int.reduceLT, Int.reduceLE, Int.reduceNeg, not_false_eq_true, and_self, map_nothing, bind_nothing, Int.natCast_one, Int.cast_ofNat_Int, not_true_eq_false, decide_true, decide_false, true_implies, false_implies, Int.toNat_zero, List.length_cons, List.length_nil, Nat.zero_add, mb, Nat.reduceBEq, Bool.false_and, Bool.and_false, cells_int, tys, stb, GK_nil, GK_op, GKS_some, GKS_none, GKS_ite, GKS_nite, Bool.or_false, Bool.false_or, Bool.true_and, Bool.or_true, Bool.true_or, e, e1]
  simp [oneOr, sealDepth, sealV_int]

theorem hgt_step (n : Int) (h1 : 1 ≤ n) (h2 : n ≤ 128) (h : Nat) (hh : h ≤ hgt n) : (1 * 2 ^ h < n) ↔ h < hgt n := by
  have := hgt_le n
  rcases pow_small h (by omega) with e | e | e | e | e | e | e | e | e | e <;> subst e <;> simp only [hgt] at * <;> (repeat' split) <;> (repeat' split at hh) <;> omega

theorem rheight_ok (n : Int) (h1 : 1 ≤ n) (h2 : n ≤ 128) (σ : S) : callFn env (ev env) 19 [.int .i64 n] σ = some (.tup [.int .i64 (hgt n), .int .i64 0], σ) := by
  refine callFn_pure rfl rfl rfl at19 rfl (by simp [Try.f19]) (by simp [Try.f19]) (G_start ?_) σ
  have e3 : ¬ n < 1 := by omega
  have e4 : ¬ 128 < n := by omega
  have h7 := hgt_le n
  simp only [Try.f19, G_seq, G_block, G_skip_code, G_skip_blk, G_skip_nil, G_exit_code, G_exit_blk, G_exit_nil, G_ret_code, G_ret_blk, G_ret_nil, G_cond, G_cond_const, G_loop, G_region, G_draw, GL_nil, GL_op, GL_none, GL_guard, GS_some, GS_ite, GS_nite, GN_some, GN_ite, GN_nite, GB_true, GB_false, GB_dec, GG_true_true, GG_true_false, GG_false_true, GG_false_false, GG_true_dec, GG_false_dec, opT_move, opT_assign, opT_pick, pickO_true, pickO_false, opT_binOp, binO_some, opT_unOp, opT_extract, extrO_tup, opT_indexAddr, idxO_slice, opT_load, opT_call, opT_len, opT_append, opT_convert, convO_int, callV_func, evalT, upd_at, Nat.reduceLT, Nat.reduceEqDiff, if_true, if_false, reduceIte, true_and, map_mk, bind_mk, map_ite', map_nite, bind_ite', bind_nite, vBin_add, vBin_sub, vBin_mul, vBin_eql, vBin_neq, vBin_lss, vBin_leq, vBin_gtr, vBin_geq, vBin_rem, vBin_quo, vBin_beql, vBin_bneq, vUn_not, vUn_true, vUn_false, index_row, len_row, len_nilsl, listO_nil, listO_cons, ofVal, ofCell, argT, List.getD_cons_zero, List.getD_cons_succ, List.getElem?_toArray, List.getElem?_cons_zero, List.getElem?_cons_succ, List.nil_append, List.cons_append, List.append_nil, resT, wpR_nil, V1_some, Nat.mul_one, load_row, load_ptr, cellAt_some, opT_store, store_ptr, storeAt_some, cells_row, isCell_row, cells_nilsl, push_mk, set_mk, setT, vUn_neg, opT_max, opT_min, max_two, min_two, List.append_eq, opT_makeFunc, opT_fieldAddr, opT_build, partsO_nil, partsO_cons, faddr_ptr, faddr_rptr, cells_agg, push_last, Nat.add_zero, opT_box, opT_alloc, ints_get, post_norm, post_exit, post_ret, Int.toNat_natCast, Bool.false_eq_true, Int.reduceEq, Int.reduceLT, Int.reduceLE, Int.reduceNeg, not_false_eq_true, and_self, map_nothing, bind_nothing, Int.natCast_one, Int.cast_ofNat_Int, not_true_eq_false, decide_true, decide_false, true_implies, false_implies, Int.toNat_zero, List.length_cons, List.length_nil, Nat.zero_add, mb, Nat.reduceBEq, Bool.false_and, Bool.and_false, cells_int, tys, stb, GK_nil, GK_op, GKS_some, GKS_none, GKS_ite, GKS_nite, Bool.or_false, Bool.false_or, Bool.true_and, Bool.or_true, Bool.true_or, e3, e4, decide_false, decide_true]
  refine loop_rule (fun m T D σ => D = [] ∧ σ = S.empty ∧ T 0 = .int .i64 n ∧ ∃ h : Nat, T 4 = .int .i64 h ∧ h ≤ hgt n ∧ m = hgt n - h) ?_ _ _ _ _ ⟨rfl, rfl, rfl, 0, rfl, by omega, rfl⟩
  rintro m T D σ ⟨rfl, rfl, h0, h, h4, hh, rfl⟩
  refine G_start ?_
  have e := shl_small h (by omega) 1 (.inl rfl)
  have e1 : IntKind.i64.wrap ((h : Int) + 1) = ((h + 1 : Nat) : Int) := by rw [wrap_i64 (by omega) (by omega)]; omega
  simp only [G_seq, G_block, G_skip_code, G_skip_blk, G_skip_nil, G_exit_code, G_exit_blk, G_exit_nil, G_ret_code, G_ret_blk, G_ret_nil, G_cond, G_cond_const, G_loop, G_region, G_draw, GL_nil, GL_op, GL_none, GL_guard, GS_some, GS_ite, GS_nite, GN_some, GN_ite, GN_nite, GB_true, GB_false, GB_dec, GG_true_true, GG_true_false, GG_false_true, GG_false_false, GG_true_dec, GG_false_dec, opT_move, opT_assign, opT_pick, pickO_true, pickO_false, opT_binOp, binO_some, opT_unOp, opT_extract, extrO_tup, opT_indexAddr, idxO_slice, opT_load, opT_call, opT_len, opT_append, opT_convert, convO_int, callV_func, evalT, upd_at, Nat.reduceLT, Nat.reduceEqDiff, if_true, if_false, reduceIte, true_and, map_mk, bind_mk, map_ite', map_nite, bind_ite', bind_nite, vBin_add, vBin_sub, vBin_mul, vBin_eql, vBin_neq, vBin_lss, vBin_leq, vBin_gtr, vBin_geq, vBin_rem, vBin_quo, vBin_beql, vBin_bneq, vUn_not, vUn_true, vUn_false, index_row, len_row, len_nilsl, listO_nil, listO_cons, ofVal, ofCell, argT, List.getD_cons_zero, List.getD_cons_succ, List.getElem?_toArray, List.getElem?_cons_zero, List.getElem?_cons_succ, List.nil_append, List.cons_append, List.append_nil, resT, wpR_nil, V1_some, Nat.mul_one, load_row, load_ptr, cellAt_some, opT_store, store_ptr, storeAt_some, cells_row, isCell_row, cells_nilsl, push_mk, set_mk, setT, vUn_neg, opT_max, opT_min, max_two, min_two, List.append_eq, opT_makeFunc, opT_fieldAddr, opT_build, partsO_nil, partsO_cons, faddr_ptr, faddr_rptr, cells_agg, push_last, Nat.add_zero, opT_box, opT_alloc, ints_get, post_norm, post_exit, post_ret, Int.toNat_natCast, Bool.false_eq_true, Int.reduceEq, Int.reduceLT, Int.reduceLE, Int.reduceNeg, not_false_eq_true, and_self, map_nothing, bind_nothing, Int.natCast_one, Int.cast_ofNat_Int, not_true_eq_false, decide_true, decide_false, true_implies, false_implies, Int.toNat_zero, List.length_cons, List.length_nil, Nat.zero_add, mb, Nat.reduceBEq, Bool.false_and, Bool.and_false, cells_int, tys, stb, GK_nil, GK_op, GKS_some, GKS_none, GKS_ite, GKS_nite, Bool.or_false, Bool.false_or, Bool.true_and, Bool.or_true, Bool.true_or, h0, h4, e, e1, hgt_step n h1 h2 h hh]
  refine ⟨fun hl => ⟨hgt n - (h + 1), by omega, h + 1, rfl, by omega, rfl⟩, fun hl => ?_⟩
  have : h = hgt n := by omega
  simp [oneOr, sealDepth, sealV_tup, mapM_seal_cons, sealV_int, this]

theorem rheight_bad (n : Int) (h : n < 1 ∨ 128 < n) (σ : S) : callFn env (ev env) 19 [.int .i64 n] σ = some (.tup [.int .i64 0, .int .i64 2], σ) := by
  refine callFn_pure rfl rfl rfl at19 rfl (by simp [Try.f19]) (by simp [Try.f19]) (G_start ?_) σ
  by_cases e3 : n < 1
  · simp only [Try.f19, G_seq, G_block, G_skip_code, G_skip_blk, G_skip_nil, G_exit_code, G_exit_blk, G_exit_nil, G_ret_code, G_ret_blk, G_ret_nil, G_cond, G_cond_const, G_loop, G_region, G_draw, GL_nil, GL_op, GL_none, GL_guard, GS_some, GS_ite, GS_nite, GN_some, GN_ite, GN_nite, GB_true, GB_false, GB_dec, GG_true_true, GG_true_false, GG_false_true, GG_false_false, GG_true_dec, GG_false_dec, opT_move, opT_assign, opT_pick, pickO_true, pickO_false, opT_binOp, binO_some, opT_unOp, opT_extract, extrO_tup, opT_indexAddr, idxO_slice, opT_load, opT_call, opT_len, opT_append, opT_convert, convO_int, callV_func, evalT, upd_at, Nat.reduceLT, Nat.reduceEqDiff, if_true, if_false, reduceIte, true_and, map_mk, bind_mk, map_ite', map_nite, bind_ite', bind_nite, vBin_add, vBin_sub, vBin_mul, vBin_eql, vBin_neq, vBin_lss, vBin_leq, vBin_gtr, vBin_geq, vBin_rem, vBin_quo, vBin_beql, vBin_bneq, vUn_not, vUn_true, vUn_false, index_row, len_row, len_nilsl, listO_nil, listO_cons, ofVal, ofCell, argT, List.getD_cons_zero, List.getD_cons_succ, List.getElem?_toArray, List.getElem?_cons_zero, List.getElem?_cons_succ, List.nil_append, List.cons_append, List.append_nil, resT, wpR_nil, V1_some, Nat.mul_one, load_row, load_ptr, cellAt_some, opT_store, store_ptr, storeAt_some, cells_row, isCell_row, cells_nilsl, push_mk, set_mk, setT, vUn_neg, opT_max, opT_min, max_two, min_two, List.append_eq, opT_makeFunc, opT_fieldAddr, opT_build, partsO_nil, partsO_cons, faddr_ptr, faddr_rptr, cells_agg, push_last, Nat.add_zero, opT_box, opT_alloc, ints_get, post_norm, post_exit, post_ret, Int.toNat_natCast, Bool.false_eq_true, Int.reduceEq, Int.reduceLT, Int.reduceLE, Int.reduceNeg, not_false_eq_true, and_self, map_nothing, bind_nothing, Int.natCast_one, Int.cast_ofNat_Int, not_true_eq_false, decide_true, decide_false, true_implies, false_implies, Int.toNat_zero, List.length_cons, List.length_nil, Nat.zero_add, mb, Nat.reduceBEq, Bool.false_and, Bool.and_false, cells_int, tys, stb, GK_nil, GK_op, GKS_some, GKS_none, GKS_ite, GKS_nite, Bool.or_false, Bool.false_or, Bool.true_and, Bool.or_true, Bool.true_or, e3, decide_false, decide_true]
    simp [oneOr, sealDepth, sealV_tup, mapM_seal_cons, sealV_int]
  · have e4 : 128 < n := by omega
    simp only [Try.f19, G_seq, G_block, G_skip_code, G_skip_blk, G_skip_nil, G_exit_code, G_exit_blk, G_exit_nil, G_ret_code, G_ret_blk, G_ret_nil, G_cond, G_cond_const, G_loop, G_region, G_draw, GL_nil, GL_op, GL_none, GL_guard, GS_some, GS_ite, GS_nite, GN_some, GN_ite, GN_nite, GB_true, GB_false, GB_dec, GG_true_true, GG_true_false, GG_false_true, GG_false_false, GG_true_dec, GG_false_dec, opT_move, opT_assign, opT_pick, pickO_true, pickO_false, opT_binOp, binO_some, opT_unOp, opT_extract, extrO_tup, opT_indexAddr, idxO_slice, opT_load, opT_call, opT_len, opT_append, opT_convert, convO_int, callV_func, evalT, upd_at, Nat.reduceLT, Nat.reduceEqDiff, if_true, if_false, reduceIte, true_and, map_mk, bind_mk, map_ite', map_nite, bind_ite', bind_nite, vBin_add, vBin_sub, vBin_mul, vBin_eql, vBin_neq, vBin_lss, vBin_leq, vBin_gtr, vBin_geq, vBin_rem, vBin_quo, vBin_beql, vBin_bneq, vUn_not, vUn_true, vUn_false, index_row, len_row, len_nilsl, listO_nil, listO_cons, ofVal, ofCell, argT, List.getD_cons_zero, List.getD_cons_succ, List.getElem?_toArray, List.getElem?_cons_zero, List.getElem?_cons_succ, List.nil_append, List.cons_append, List.append_nil, resT, wpR_nil, V1_some, Nat.mul_one, load_row, load_ptr, cellAt_some, opT_store, store_ptr, storeAt_some, cells_row, isCell_row, cells_nilsl, push_mk, set_mk, setT, vUn_neg, opT_max, opT_min, max_two, min_two, List.append_eq, opT_makeFunc, opT_fieldAddr, opT_build, partsO_nil, partsO_cons, faddr_ptr, faddr_rptr, cells_agg, push_last, Nat.add_zero, opT_box, opT_alloc, ints_get, post_norm, post_exit, post_ret, Int.toNat_natCast, Bool.false_eq_true, Int.reduceEq, Int.reduceLT, Int.reduceLE, Int.reduceNeg, not_false_eq_true, and_self, map_nothing, bind_nothing, Int.natCast_one, Int.cast_ofNat_Int, not_true_eq_false, decide_true, decide_false, true_implies, false_implies, Int.toNat_zero, List.length_cons, List.length_nil, Nat.zero_add, mb, Nat.reduceBEq, Bool.false_and, Bool.and_false, cells_int, tys, stb, GK_nil, GK_op, GKS_some, GKS_none, GKS_ite, GKS_nite, Bool.or_false, Bool.false_or, Bool.true_and, Bool.or_true, Bool.true_or, e3, e4, decide_false, decide_true]
    simp [oneOr, sealDepth, sealV_tup, mapM_seal_cons, sealV_int]

theorem has_call (l : List Int) (x : Int) (la : l.length < 2 ^ 62) (σ : S) : callFn env (ev env) 15 [rowI l, .int .i64 x] σ = some (.bool (decide (x ∈ l)), σ) := by
  refine callFn_pure rfl rfl (by simp [ints_closed, V.closed]) at15 rfl (by simp [Try.f15]) (by simp [Try.f15]) (G_start ?_) σ
  simp only [Try.f15, G_seq, G_block, G_skip_code, G_skip_blk, G_skip_nil, G_exit_code, G_exit_blk, G_exit_nil, G_ret_code, G_ret_blk, G_ret_nil, G_cond, G_cond_const, G_loop, G_region, G_draw, GL_nil, GL_op, GL_none, GL_guard, GS_some, GS_ite, GS_nite, GN_some, GN_ite, GN_nite, GB_true, GB_false, GB_dec, GG_true_true, GG_true_false, GG_false_true, GG_false_false, GG_true_dec, GG_false_dec, opT_move, opT_assign, opT_pick, pickO_true, pickO_false, opT_binOp, binO_some, opT_unOp, opT_extract, extrO_tup, opT_indexAddr, idxO_slice, opT_load, opT_call, opT_len, opT_append, opT_convert, convO_int, callV_func, evalT, upd_at, Nat.reduceLT, Nat.reduceEqDiff, if_true, if_false, reduceIte, true_and, map_mk, bind_mk, map_ite', map_nite, bind_ite', bind_nite, vBin_add, vBin_sub, vBin_mul, vBin_eql, vBin_neq, vBin_lss, vBin_leq, vBin_gtr, vBin_geq, vBin_rem, vBin_quo, vBin_beql, vBin_bneq, vUn_not, vUn_true, vUn_false, index_row, len_row, len_nilsl, listO_nil, listO_cons, ofVal, ofCell, argT, List.getD_cons_zero, List.getD_cons_succ, List.getElem?_toArray, List.getElem?_cons_zero, List.getElem?_cons_succ, List.nil_append, List.cons_append, List.append_nil, resT, wpR_nil, V1_some, Nat.mul_one, load_row, load_ptr, cellAt_some, opT_store, store_ptr, storeAt_some, cells_row, isCell_row, cells_nilsl, push_mk, set_mk, setT, vUn_neg, opT_max, opT_min, max_two, min_two, List.append_eq, opT_makeFunc, opT_fieldAddr, opT_build, partsO_nil, partsO_cons, faddr_ptr, faddr_rptr, cells_agg, push_last, Nat.add_zero, opT_box, opT_alloc, ints_get, post_norm, post_exit, post_ret, Int.toNat_natCast, Bool.false_eq_true, Int.reduceEq, Int.reduceLT, Int.reduceLE, Int.reduceNeg, not_false_eq_true, and_self, map_nothing, bind_nothing, Int.natCast_one, Int.cast_ofNat_Int, not_true_eq_false, decide_true, decide_false, true_implies, false_implies, Int.toNat_zero, List.length_cons, List.length_nil, Nat.zero_add, mb, Nat.reduceBEq, Bool.false_and, Bool.and_false, cells_int, tys, stb, GK_nil, GK_op, GKS_some, GKS_none, GKS_ite, GKS_nite, Bool.or_false, Bool.false_or, Bool.true_and, Bool.or_true, Bool.true_or]
  refine loop_rule (fun m T D σ => D = [] ∧ σ = S.empty ∧ T 0 = rowI l ∧ T 1 = .int .i64 x ∧ ∃ i : Nat, T 5 = .int .i64 i ∧ i ≤ l.length ∧ m = l.length - i ∧ (∀ j (h : j < i), l.getD j 0 ≠ x)) ?_ _ _ _ _ ⟨rfl, rfl, rfl, rfl, 0, rfl, by omega, rfl, fun j h => by omega⟩
  rintro m T D σ ⟨rfl, rfl, h0, h1, i, h5, hi, rfl, hj⟩
  refine G_start ?_
  simp only [G_seq, G_block, G_skip_code, G_skip_blk, G_skip_nil, G_exit_code, G_exit_blk, G_exit_nil, G_ret_code, G_ret_blk, G_ret_nil, G_cond, G_cond_const, G_loop, G_region, G_draw, GL_nil, GL_op, GL_none, GL_guard, GS_some, GS_ite, GS_nite, GN_some, GN_ite, GN_nite, GB_true, GB_false, GB_dec, GG_true_true, GG_true_false, GG_false_true, GG_false_false, GG_true_dec, GG_false_dec, opT_move, opT_assign, opT_pick, pickO_true, pickO_false, opT_binOp, binO_some, opT_unOp, opT_extract, extrO_tup, opT_indexAddr, idxO_slice, opT_load, opT_call, opT_len, opT_append, opT_convert, convO_int, callV_func, evalT, upd_at, Nat.reduceLT, Nat.reduceEqDiff, if_true, if_false, reduceIte, true_and, map_mk, bind_mk, map_ite', map_nite, bind_ite', bind_nite, vBin_add, vBin_sub, vBin_mul, vBin_eql, vBin_neq, vBin_lss, vBin_leq, vBin_gtr, vBin_geq, vBin_rem, vBin_quo, vBin_beql, vBin_bneq, vUn_not, vUn_true, vUn_false, index_row, len_row, len_nilsl, listO_nil, listO_cons, ofVal, ofCell, argT, List.getD_cons_zero, List.getD_cons_succ, List.getElem?_toArray, List.getElem?_cons_zero, List.getElem?_cons_succ, List.nil_append, List.cons_append, List.append_nil, resT, wpR_nil, V1_some, Nat.mul_one, load_row, load_ptr, cellAt_some, opT_store, store_ptr, storeAt_some, cells_row, isCell_row, cells_nilsl, push_mk, set_mk, setT, vUn_neg, opT_max, opT_min, max_two, min_two, List.append_eq, opT_makeFunc, opT_fieldAddr, opT_build, partsO_nil, partsO_cons, faddr_ptr, faddr_rptr, cells_agg, push_last, Nat.add_zero, opT_box, opT_alloc, ints_get, post_norm, post_exit, post_ret, Int.toNat_natCast, Bool.false_eq_true, Int.reduceEq, Int.reduceLT, Int.reduceLE, Int.reduceNeg, not_false_eq_true, and_self, map_nothing, bind_nothing, Int.natCast_one, Int.cast_ofNat_Int, not_true_eq_false, decide_true, decide_false, true_implies, false_implies, Int.toNat_zero, List.length_cons, List.length_nil, Nat.zero_add, mb, Nat.reduceBEq, Bool.false_and, Bool.and_false, cells_int, tys, stb, GK_nil, GK_op, GKS_some, GKS_none, GKS_ite, GKS_nite, Bool.or_false, Bool.false_or, Bool.true_and, Bool.or_true, Bool.true_or, h0, h1, h5]
  refine ⟨fun h => ⟨⟨by omega, by omega⟩, by omega, fun hn => ?_, fun hn => ?_⟩, fun h => ?_⟩
  · have hlt : i < l.length := by omega
    have : x ∈ l := by
      rw [← hn]
      simp [List.getD, hlt]
    simp [oneOr, sealDepth, sealV_bool, this]
  · refine ⟨l.length - (i + 1), by omega, i + 1, ?_, by omega, rfl, fun j h => ?_⟩
    · rw [wrap_i64 (by omega) (by omega)]; simp
    · rcases Nat.lt_or_ge j i with h2 | h2
      · exact hj j h2
      · have : j = i := by omega
        subst this
        exact hn
  · have : x ∉ l := by
      intro hm
      obtain ⟨j, hlt, he⟩ := List.getElem_of_mem hm
      have := hj j (by omega)
      simp [List.getD, hlt, he] at this
    simp [oneOr, sealDepth, sealV_bool, this]

theorem ints_cells (zs : List Int) : (zs.map (V.int .i64)).all V.isCell = true := by simp [V.isCell]
theorem ints_app (zs ys : List Int) : zs.map (V.int .i64) ++ ys.map (V.int .i64) = (zs ++ ys).map (V.int .i64) := by simp

end Go.Proofs.Ytkomkiejakcilaa

namespace Go.Proofs.Ytkomkiejakcilaa
open Go.Ab
set_option maxRecDepth 100000
set_option linter.unusedSimpArgs false
set_option linter.unusedVariables false

/-- the nodes above a node -/
def upFrom : Nat → Nat → List Int
  | 0, _ => []
  | f + 1, k => if k = 0 then [] else (((k - 1) / 2 : Nat) : Int) :: upFrom f ((k - 1) / 2)
theorem upFrom_more : ∀ (f g k : Nat), k ≤ f → k ≤ g → upFrom f k = upFrom g k
  | 0, 0, k, _, _ => rfl
  | 0, g + 1, k, h, _ => by have : k = 0 := by omega
                            subst this; rfl
  | f + 1, 0, k, _, h => by have : k = 0 := by omega
                            subst this; rfl
  | f + 1, g + 1, k, h, h2 => by
    simp only [upFrom]
    by_cases e : k = 0
    · simp [e]
    · simp only [e, if_false]
      rw [upFrom_more f g _ (by omega) (by omega)]
def up (k : Nat) : List Int := upFrom k k
theorem up_zero : up 0 = [] := rfl
theorem up_pos (k : Nat) (h : 0 < k) : up k = (((k - 1) / 2 : Nat) : Int) :: up ((k - 1) / 2) := by
  have : up k = upFrom (k + 1) k := upFrom_more _ _ _ (by omega) (by omega)
  rw [this]
  simp only [upFrom, show ¬ k = 0 by omega, if_false]
  rw [show upFrom k ((k - 1) / 2) = up ((k - 1) / 2) from upFrom_more _ _ _ (by omega) (by omega)]
theorem upFrom_len : ∀ (f k : Nat), (upFrom f k).length ≤ f
  | 0, k => by simp [upFrom]
  | f + 1, k => by
    simp only [upFrom]
    split
    · simp
    · have := upFrom_len f ((k - 1) / 2)
      simp; omega
theorem up_len (k : Nat) : (up k).length ≤ k := upFrom_len k k
/-- the path of the value i in a tree of height h -/
def pathL (h i : Nat) : List Int := ((2 ^ h - 1 + i : Nat) : Int) :: up (2 ^ h - 1 + i)

theorem pow_le (h : Nat) (hh : h ≤ 7) : 2 ^ h ≤ 128 ∧ 1 ≤ 2 ^ h := by
  rcases pow_small h (by omega) with e | e | e | e | e | e | e | e | e | e <;> subst e <;> omega

theorem load_first (h : List AObj) (v : V) (vs : List V) : (loadCellsV h 1 (.rptr (List.drop 0 (v :: vs)))).bind (·[0]?) = some v := by
  rw [load_row]; rfl
theorem seal_tup2 (h : List AObj) (zs : List Int) (x : Int) (n : Nat) (c : RCap) : sealV h 12 (.tup [.row (zs.map (V.int .i64)) n c, .int .i64 x]) = some (.tup [.row (zs.map (V.int .i64)) n .unk, .int .i64 x]) := by
  rw [sealV_tup, mapM_seal_cons, sealV_row, mapM_seal_ints]
  rfl

theorem seal_grow2 {ts : List Nat} {v : V} {zs : List Int} (g : Grow ts v (zs.map (V.int .i64))) (hz : zs ≠ []) (h : List AObj) (x : Int) : sealV h 12 (.tup [v, .int .i64 x]) = some (.tup [rowI zs, .int .i64 x]) := by
  generalize hc : zs.map (V.int .i64) = cs at g
  cases g with
  | nil => simp at hc; exact absurd hc hz
  | full _ => subst hc; rw [seal_tup2]; simp [rowI]
  | tok _ k e _ => subst hc; rw [seal_tup2]; simp [rowI]

theorem path_ok (n : Int) (h1 : 1 ≤ n) (h2 : n ≤ 128) (i : Nat) (hi : (i : Int) < n) (σ : S) : callFn env (ev env) 14 [.int .i64 n, .int .i64 i] σ = some (.tup [rowI (pathL (hgt n) i), .int .i64 0], σ) := by
  refine callFn_pure rfl rfl rfl at14 rfl (by simp [Try.f14]) (by simp [Try.f14]) (G_start ?_) σ
  have hp := pow_le (hgt n) (hgt_le n)
  have c1 : ¬ (i : Int) < 0 := by omega
  have c2 : ¬ n ≤ (i : Int) := by omega
  have e1 : IntKind.i64.wrap (2 ^ hgt n - 1 + (i : Int)) = ((2 ^ hgt n - 1 + i : Nat) : Int) := by
    have : ((2 ^ hgt n : Nat) : Int) = 2 ^ hgt n := by simp
    rw [wrap_i64 (by omega) (by omega)]; omega
  have hlen : ([V.int .i64 ((2 ^ hgt n - 1 + i : Nat) : Int)] : List V).length = 1 := rfl
  simp only [Try.f14, G_seq, G_block, G_skip_code, G_skip_blk, G_skip_nil, G_exit_code, G_exit_blk, G_exit_nil, G_ret_code, G_ret_blk, G_ret_nil, G_cond, G_cond_const, G_loop, G_region, G_draw, GL_nil, GL_op, GL_none, GL_guard, GS_some, GS_ite, GS_nite, GN_some, GN_ite, GN_nite, GB_true, GB_false, GB_dec, GG_true_true, GG_true_false, GG_false_true, GG_false_false, GG_true_dec, GG_false_dec, opT_move, opT_assign, opT_pick, pickO_true, pickO_false, opT_binOp, binO_some, opT_unOp, opT_extract, extrO_tup, opT_indexAddr, idxO_slice, opT_load, opT_call, opT_len, opT_append, opT_convert, convO_int, callV_func, evalT, upd_at, Nat.reduceLT, Nat.reduceEqDiff, if_true, if_false, reduceIte, true_and, map_mk, bind_mk, map_ite', map_nite, bind_ite', bind_nite, vBin_add, vBin_sub, vBin_mul, vBin_eql, vBin_neq, vBin_lss, vBin_leq, vBin_gtr, vBin_geq, vBin_rem, vBin_quo, vBin_beql, vBin_bneq, vUn_not, vUn_true, vUn_false, index_row, len_row, len_nilsl, listO_nil, listO_cons, ofVal, ofCell, argT, List.getD_cons_zero, List.getD_cons_succ, List.getElem?_toArray, List.getElem?_cons_zero, List.getElem?_cons_succ, List.nil_append, List.cons_append, List.append_nil, resT, wpR_nil, V1_some, Nat.mul_one, load_row, load_ptr, cellAt_some, opT_store, store_ptr, storeAt_some, cells_row, isCell_row, cells_nilsl, push_mk, set_mk, setT, vUn_neg, opT_max, opT_min, max_two, min_two, List.append_eq, opT_makeFunc, opT_fieldAddr, opT_build, partsO_nil, partsO_cons, faddr_ptr, faddr_rptr, cells_agg, push_last, Nat.add_zero, opT_box, opT_alloc, ints_get, post_norm, post_exit, post_ret, Int.toNat_natCast, Bool.false_eq_true, Int.reduceEq, Int.reduceLT, Int.reduceLE, Int.reduceNeg, not_false_eq_true, and_self, map_nothing, bind_nothing, Int.natCast_one, Int.cast_ofNat_Int, not_true_eq_false, decide_true, decide_false, true_implies, false_implies, Int.toNat_zero, List.length_cons, List.length_nil, Nat.zero_add, mb, Nat.reduceBEq, Bool.false_and, Bool.and_false, cells_int, tys, stb, GK_nil, GK_op, GKS_some, GKS_none, GKS_ite, GKS_nite, Bool.or_false, Bool.false_or, Bool.true_and, Bool.or_true, Bool.true_or, height_ok n h1 h2, leaf_call (hgt n) (by have := hgt_le n; omega), c1, c2, bs1, e1, load_first]
  have hk0 : 2 ^ hgt n - 1 + i ≤ 256 := by omega
  unfold pathL
  generalize 2 ^ hgt n - 1 + i = k0 at *
  refine loop_rule (fun m T D σ => D = [] ∧ σ.heap = [] ∧ ∃ (out : List Int) (k : Nat), T 9 = .int .i64 k ∧ Grow σ.toks (T 8) (out.map (V.int .i64)) ∧ out.length + k ≤ 300 ∧ out ++ up k = (k0 : Int) :: up k0 ∧ m = k) ?_ _ _ _ _ ⟨rfl, rfl, [(k0 : Int)], k0, rfl, .full [V.int .i64 k0], by simp; omega, rfl, rfl⟩
  rintro m T D ⟨hp, ts⟩ ⟨rfl, rfl, out, k, h9, g, hle, hout, hm⟩
  refine G_start ?_
  simp only at g
  by_cases hk : k = 0
  · subst hk
    have c3 : ¬ (0 : Int) < ((0 : Nat) : Int) := by decide
    rw [up_zero, List.append_nil] at hout
    subst hout
    generalize h8 : T 8 = v at g
    simp only [G_seq, G_block, G_skip_code, G_skip_blk, G_skip_nil, G_exit_code, G_exit_blk, G_exit_nil, G_ret_code, G_ret_blk, G_ret_nil, G_cond, G_cond_const, G_loop, G_region, G_draw, GL_nil, GL_op, GL_none, GL_guard, GS_some, GS_ite, GS_nite, GN_some, GN_ite, GN_nite, GB_true, GB_false, GB_dec, GG_true_true, GG_true_false, GG_false_true, GG_false_false, GG_true_dec, GG_false_dec, opT_move, opT_assign, opT_pick, pickO_true, pickO_false, opT_binOp, binO_some, opT_unOp, opT_extract, extrO_tup, opT_indexAddr, idxO_slice, opT_load, opT_call, opT_len, opT_append, opT_convert, convO_int, callV_func, evalT, upd_at, Nat.reduceLT, Nat.reduceEqDiff, if_true, if_false, reduceIte, true_and, map_mk, bind_mk, map_ite', map_nite, bind_ite', bind_nite, vBin_add, vBin_sub, vBin_mul, vBin_eql, vBin_neq, vBin_lss, vBin_leq, vBin_gtr, vBin_geq, vBin_rem, vBin_quo, vBin_beql, vBin_bneq, vUn_not, vUn_true, vUn_false, index_row, len_row, len_nilsl, listO_nil, listO_cons, ofVal, ofCell, argT, List.getD_cons_zero, List.getD_cons_succ, List.getElem?_toArray, List.getElem?_cons_zero, List.getElem?_cons_succ, List.nil_append, List.cons_append, List.append_nil, resT, wpR_nil, V1_some, Nat.mul_one, load_row, load_ptr, cellAt_some, opT_store, store_ptr, storeAt_some, cells_row, isCell_row, cells_nilsl, push_mk, set_mk, setT, vUn_neg, opT_max, opT_min, max_two, min_two, List.append_eq, opT_makeFunc, opT_fieldAddr, opT_build, partsO_nil, partsO_cons, faddr_ptr, faddr_rptr, cells_agg, push_last, Nat.add_zero, opT_box, opT_alloc, ints_get, post_norm, post_exit, post_ret, Int.toNat_natCast, Bool.false_eq_true, Int.reduceEq, Int.reduceLT, Int.reduceLE, Int.reduceNeg, not_false_eq_true, and_self, map_nothing, bind_nothing, Int.natCast_one, Int.cast_ofNat_Int, not_true_eq_false, decide_true, decide_false, true_implies, false_implies, Int.toNat_zero, List.length_cons, List.length_nil, Nat.zero_add, mb, Nat.reduceBEq, Bool.false_and, Bool.and_false, cells_int, tys, stb, GK_nil, GK_op, GKS_some, GKS_none, GKS_ite, GKS_nite, Bool.or_false, Bool.false_or, Bool.true_and, Bool.or_true, Bool.true_or, h9, h8, c3]
    exact seal_grow2 g (by simp) _ _
  · have c3 : (0 : Int) < (k : Int) := by omega
    have e2 : IntKind.i64.wrap ((k : Int) - 1) = ((k - 1 : Nat) : Int) := by rw [wrap_i64 (by omega) (by omega)]; omega
    have e3 : IntKind.i64.wrap (((k - 1 : Nat) : Int).tdiv 2) = (((k - 1) / 2 : Nat) : Int) := by
      rw [Int.tdiv_eq_ediv_of_nonneg (by omega), wrap_i64 (by omega) (by omega)]; omega
    generalize h8 : T 8 = v at g
    obtain ⟨tk, te, ts', ha, htk⟩ := Grow.append one22 (hp := []) g (new := [(((k - 1) / 2 : Nat) : Int)].map (V.int .i64)) (c := .full) (by simp) (ints_cells _) (by simp [lim]; omega) (by simp [lim]; omega)
    rw [ints_app] at ha
    simp only [List.map_cons, List.map_nil, List.length_cons, List.length_nil, Nat.zero_add] at ha
    simp only [G_seq, G_block, G_skip_code, G_skip_blk, G_skip_nil, G_exit_code, G_exit_blk, G_exit_nil, G_ret_code, G_ret_blk, G_ret_nil, G_cond, G_cond_const, G_loop, G_region, G_draw, GL_nil, GL_op, GL_none, GL_guard, GS_some, GS_ite, GS_nite, GN_some, GN_ite, GN_nite, GB_true, GB_false, GB_dec, GG_true_true, GG_true_false, GG_false_true, GG_false_false, GG_true_dec, GG_false_dec, opT_move, opT_assign, opT_pick, pickO_true, pickO_false, opT_binOp, binO_some, opT_unOp, opT_extract, extrO_tup, opT_indexAddr, idxO_slice, opT_load, opT_call, opT_len, opT_append, opT_convert, convO_int, callV_func, evalT, upd_at, Nat.reduceLT, Nat.reduceEqDiff, if_true, if_false, reduceIte, true_and, map_mk, bind_mk, map_ite', map_nite, bind_ite', bind_nite, vBin_add, vBin_sub, vBin_mul, vBin_eql, vBin_neq, vBin_lss, vBin_leq, vBin_gtr, vBin_geq, vBin_rem, vBin_quo, vBin_beql, vBin_bneq, vUn_not, vUn_true, vUn_false, index_row, len_row, len_nilsl, listO_nil, listO_cons, ofVal, ofCell, argT, List.getD_cons_zero, List.getD_cons_succ, List.getElem?_toArray, List.getElem?_cons_zero, List.getElem?_cons_succ, List.nil_append, List.cons_append, List.append_nil, resT, wpR_nil, V1_some, Nat.mul_one, load_row, load_ptr, cellAt_some, opT_store, store_ptr, storeAt_some, cells_row, isCell_row, cells_nilsl, push_mk, set_mk, setT, vUn_neg, opT_max, opT_min, max_two, min_two, List.append_eq, opT_makeFunc, opT_fieldAddr, opT_build, partsO_nil, partsO_cons, faddr_ptr, faddr_rptr, cells_agg, push_last, Nat.add_zero, opT_box, opT_alloc, ints_get, post_norm, post_exit, post_ret, Int.toNat_natCast, Bool.false_eq_true, Int.reduceEq, Int.reduceLT, Int.reduceLE, Int.reduceNeg, not_false_eq_true, and_self, map_nothing, bind_nothing, Int.natCast_one, Int.cast_ofNat_Int, not_true_eq_false, decide_true, decide_false, true_implies, false_implies, Int.toNat_zero, List.length_cons, List.length_nil, Nat.zero_add, mb, Nat.reduceBEq, Bool.false_and, Bool.and_false, cells_int, tys, stb, GK_nil, GK_op, GKS_some, GKS_none, GKS_ite, GKS_nite, Bool.or_false, Bool.false_or, Bool.true_and, Bool.or_true, Bool.true_or, h9, h8, c3, e2, e3, bs1, ha]
    refine ⟨(k - 1) / 2, by omega, out ++ [(((k - 1) / 2 : Nat) : Int)], (k - 1) / 2, rfl, ?_, by simp; omega, ?_, rfl⟩
    · exact .tok _ tk te htk
    · rw [← hout, up_pos k (by omega)]; simp
end Go.Proofs.Ytkomkiejakcilaa

namespace Go.Proofs.Ytkomkiejakcilaa
open Go.Ab
set_option maxRecDepth 100000
set_option linter.unusedSimpArgs false
set_option linter.unusedVariables false

theorem seal_nil2 (h : List AObj) (x : Int) : sealV h 12 (.tup [.nilsl, .int .i64 x]) = some (.tup [.nilsl, .int .i64 x]) := rfl

theorem path_bad (n i : Int) (h : n < 1 ∨ 128 < n ∨ i < 0 ∨ n ≤ i) (σ : S) : callFn env (ev env) 14 [.int .i64 n, .int .i64 i] σ = some (.tup [.nilsl, .int .i64 2], σ) := by
  refine callFn_pure rfl rfl rfl at14 rfl (by simp [Try.f14]) (by simp [Try.f14]) (G_start ?_) σ
  by_cases hn : n < 1 ∨ 128 < n
  · simp only [Try.f14, G_seq, G_block, G_skip_code, G_skip_blk, G_skip_nil, G_exit_code, G_exit_blk, G_exit_nil, G_ret_code, G_ret_blk, G_ret_nil, G_cond, G_cond_const, G_loop, G_region, G_draw, GL_nil, GL_op, GL_none, GL_guard, GS_some, GS_ite, GS_nite, GN_some, GN_ite, GN_nite, GB_true, GB_false, GB_dec, GG_true_true, GG_true_false, GG_false_true, GG_false_false, GG_true_dec, GG_false_dec, opT_move, opT_assign, opT_pick, pickO_true, pickO_false, opT_binOp, binO_some, opT_unOp, opT_extract, extrO_tup, opT_indexAddr, idxO_slice, opT_load, opT_call, opT_len, opT_append, opT_convert, convO_int, callV_func, evalT, upd_at, Nat.reduceLT, Nat.reduceEqDiff, if_true, if_false, reduceIte, true_and, map_mk, bind_mk, map_ite', map_nite, bind_ite', bind_nite, vBin_add, vBin_sub, vBin_mul, vBin_eql, vBin_neq, vBin_lss, vBin_leq, vBin_gtr, vBin_geq, vBin_rem, vBin_quo, vBin_beql, vBin_bneq, vUn_not, vUn_true, vUn_false, index_row, len_row, len_nilsl, listO_nil, listO_cons, ofVal, ofCell, argT, List.getD_cons_zero, List.getD_cons_succ, List.getElem?_toArray, List.getElem?_cons_zero, List.getElem?_cons_succ, List.nil_append, List.cons_append, List.append_nil, resT, wpR_nil, V1_some, Nat.mul_one, load_row, load_ptr, cellAt_some, opT_store, store_ptr, storeAt_some, cells_row, isCell_row, cells_nilsl, push_mk, set_mk, setT, vUn_neg, opT_max, opT_min, max_two, min_two, List.append_eq, opT_makeFunc, opT_fieldAddr, opT_build, partsO_nil, partsO_cons, faddr_ptr, faddr_rptr, cells_agg, push_last, Nat.add_zero, opT_box, opT_alloc, ints_get, post_norm, post_exit, post_ret, Int.toNat_natCast, Bool.false_eq_true, Int.reduceEq, Int.reduceLT, Int.reduceLE, Int.reduceNeg, not_false_eq_true, and_self, map_nothing, bind_nothing, Int.natCast_one, Int.cast_ofNat_Int, not_true_eq_false, decide_true, decide_false, true_implies, false_implies, Int.toNat_zero, List.length_cons, List.length_nil, Nat.zero_add, mb, Nat.reduceBEq, Bool.false_and, Bool.and_false, cells_int, tys, stb, GK_nil, GK_op, GKS_some, GKS_none, GKS_ite, GKS_nite, Bool.or_false, Bool.false_or, Bool.true_and, Bool.or_true, Bool.true_or, height_bad n hn]
    rfl
  · by_cases hi : i < 0
    · simp only [Try.f14, G_seq, G_block, G_skip_code, G_skip_blk, G_skip_nil, G_exit_code, G_exit_blk, G_exit_nil, G_ret_code, G_ret_blk, G_ret_nil, G_cond, G_cond_const, G_loop, G_region, G_draw, GL_nil, GL_op, GL_none, GL_guard, GS_some, GS_ite, GS_nite, GN_some, GN_ite, GN_nite, GB_true, GB_false, GB_dec, GG_true_true, GG_true_false, GG_false_true, GG_false_false, GG_true_dec, GG_false_dec, opT_move, opT_assign, opT_pick, pickO_true, pickO_false, opT_binOp, binO_some, opT_unOp, opT_extract, extrO_tup, opT_indexAddr, idxO_slice, opT_load, opT_call, opT_len, opT_append, opT_convert, convO_int, callV_func, evalT, upd_at, Nat.reduceLT, Nat.reduceEqDiff, if_true, if_false, reduceIte, true_and, map_mk, bind_mk, map_ite', map_nite, bind_ite', bind_nite, vBin_add, vBin_sub, vBin_mul, vBin_eql, vBin_neq, vBin_lss, vBin_leq, vBin_gtr, vBin_geq, vBin_rem, vBin_quo, vBin_beql, vBin_bneq, vUn_not, vUn_true, vUn_false, index_row, len_row, len_nilsl, listO_nil, listO_cons, ofVal, ofCell, argT, List.getD_cons_zero, List.getD_cons_succ, List.getElem?_toArray, List.getElem?_cons_zero, List.getElem?_cons_succ, List.nil_append, List.cons_append, List.append_nil, resT, wpR_nil, V1_some, Nat.mul_one, load_row, load_ptr, cellAt_some, opT_store, store_ptr, storeAt_some, cells_row, isCell_row, cells_nilsl, push_mk, set_mk, setT, vUn_neg, opT_max, opT_min, max_two, min_two, List.append_eq, opT_makeFunc, opT_fieldAddr, opT_build, partsO_nil, partsO_cons, faddr_ptr, faddr_rptr, cells_agg, push_last, Nat.add_zero, opT_box, opT_alloc, ints_get, post_norm, post_exit, post_ret, Int.toNat_natCast, Bool.false_eq_true, Int.reduceEq, Int.reduceLT, Int.reduceLE, Int.reduceNeg, not_false_eq_true, and_self, map_nothing, bind_nothing, Int.natCast_one, Int.cast_ofNat_Int, not_true_eq_false, decide_true, decide_false, true_implies, false_implies, Int.toNat_zero, List.length_cons, List.length_nil, Nat.zero_add, mb, Nat.reduceBEq, Bool.false_and, Bool.and_false, cells_int, tys, stb, GK_nil, GK_op, GKS_some, GKS_none, GKS_ite, GKS_nite, Bool.or_false, Bool.false_or, Bool.true_and, Bool.or_true, Bool.true_or, height_ok n (by omega) (by omega), hi]
      rfl
    · have : n ≤ i := by omega
      simp only [Try.f14, G_seq, G_block, G_skip_code, G_skip_blk, G_skip_nil, G_exit_code, G_exit_blk, G_exit_nil, G_ret_code, G_ret_blk, G_ret_nil, G_cond, G_cond_const, G_loop, G_region, G_draw, GL_nil, GL_op, GL_none, GL_guard, GS_some, GS_ite, GS_nite, GN_some, GN_ite, GN_nite, GB_true, GB_false, GB_dec, GG_true_true, GG_true_false, GG_false_true, GG_false_false, GG_true_dec, GG_false_dec, opT_move, opT_assign, opT_pick, pickO_true, pickO_false, opT_binOp, binO_some, opT_unOp, opT_extract, extrO_tup, opT_indexAddr, idxO_slice, opT_load, opT_call, opT_len, opT_append, opT_convert, convO_int, callV_func, evalT, upd_at, Nat.reduceLT, Nat.reduceEqDiff, if_true, if_false, reduceIte, true_and, map_mk, bind_mk, map_ite', map_nite, bind_ite', bind_nite, vBin_add, vBin_sub, vBin_mul, vBin_eql, vBin_neq, vBin_lss, vBin_leq, vBin_gtr, vBin_geq, vBin_rem, vBin_quo, vBin_beql, vBin_bneq, vUn_not, vUn_true, vUn_false, index_row, len_row, len_nilsl, listO_nil, listO_cons, ofVal, ofCell, argT, List.getD_cons_zero, List.getD_cons_succ, List.getElem?_toArray, List.getElem?_cons_zero, List.getElem?_cons_succ, List.nil_append, List.cons_append, List.append_nil, resT, wpR_nil, V1_some, Nat.mul_one, load_row, load_ptr, cellAt_some, opT_store, store_ptr, storeAt_some, cells_row, isCell_row, cells_nilsl, push_mk, set_mk, setT, vUn_neg, opT_max, opT_min, max_two, min_two, List.append_eq, opT_makeFunc, opT_fieldAddr, opT_build, partsO_nil, partsO_cons, faddr_ptr, faddr_rptr, cells_agg, push_last, Nat.add_zero, opT_box, opT_alloc, ints_get, post_norm, post_exit, post_ret, Int.toNat_natCast, Bool.false_eq_true, Int.reduceEq, Int.reduceLT, Int.reduceLE, Int.reduceNeg, not_false_eq_true, and_self, map_nothing, bind_nothing, Int.natCast_one, Int.cast_ofNat_Int, not_true_eq_false, decide_true, decide_false, true_implies, false_implies, Int.toNat_zero, List.length_cons, List.length_nil, Nat.zero_add, mb, Nat.reduceBEq, Bool.false_and, Bool.and_false, cells_int, tys, stb, GK_nil, GK_op, GKS_some, GKS_none, GKS_ite, GKS_nite, Bool.or_false, Bool.false_or, Bool.true_and, Bool.or_true, Bool.true_or, height_ok n (by omega) (by omega), hi, this]
      rfl

theorem rpath_bad (n i : Int) (h : n < 1 ∨ 128 < n ∨ i < 0 ∨ n ≤ i) (σ : S) : callFn env (ev env) 22 [.int .i64 n, .int .i64 i] σ = some (.tup [.nilsl, .int .i64 2], σ) := by
  refine callFn_pure rfl rfl rfl at22 rfl (by simp [Try.f22]) (by simp [Try.f22]) (G_start ?_) σ
  by_cases hn : n < 1 ∨ 128 < n
  · simp only [Try.f22, G_seq, G_block, G_skip_code, G_skip_blk, G_skip_nil, G_exit_code, G_exit_blk, G_exit_nil, G_ret_code, G_ret_blk, G_ret_nil, G_cond, G_cond_const, G_loop, G_region, G_draw, GL_nil, GL_op, GL_none, GL_guard, GS_some, GS_ite, GS_nite, GN_some, GN_ite, GN_nite, GB_true, GB_false, GB_dec, GG_true_true, GG_true_false, GG_false_true, GG_false_false, GG_true_dec, GG_false_dec, opT_move, opT_assign, opT_pick, pickO_true, pickO_false, opT_binOp, binO_some, opT_unOp, opT_extract, extrO_tup, opT_indexAddr, idxO_slice, opT_load, opT_call, opT_len, opT_append, opT_convert, convO_int, callV_func, evalT, upd_at, Nat.reduceLT, Nat.reduceEqDiff, if_true, if_false, reduceIte, true_and, map_mk, bind_mk, map_ite', map_nite, bind_ite', bind_nite, vBin_add, vBin_sub, vBin_mul, vBin_eql, vBin_neq, vBin_lss, vBin_leq, vBin_gtr, vBin_geq, vBin_rem, vBin_quo, vBin_beql, vBin_bneq, vUn_not, vUn_true, vUn_false, index_row, len_row, len_nilsl, listO_nil, listO_cons, ofVal, ofCell, argT, List.getD_cons_zero, List.getD_cons_succ, List.getElem?_toArray, List.getElem?_cons_zero, List.getElem?_cons_succ, List.nil_append, List.cons_append, List.append_nil, resT, wpR_nil, V1_some, Nat.mul_one, load_row, load_ptr, cellAt_some, opT_store, store_ptr, storeAt_some, cells_row, isCell_row, cells_nilsl, push_mk, set_mk, setT, vUn_neg, opT_max, opT_min, max_two, min_two, List.append_eq, opT_makeFunc, opT_fieldAddr, opT_build, partsO_nil, partsO_cons, faddr_ptr, faddr_rptr, cells_agg, push_last, Nat.add_zero, opT_box, opT_alloc, ints_get, post_norm, post_exit, post_ret, Int.toNat_natCast, Bool.false_eq_true, Int.reduceEq, Int.reduceLT, Int.reduceLE, Int.reduceNeg, not_false_eq_true, and_self, map_nothing, bind_nothing, Int.natCast_one, Int.cast_ofNat_Int, not_true_eq_false, decide_true, decide_false, true_implies, false_implies, Int.toNat_zero, List.length_cons, List.length_nil, Nat.zero_add, mb, Nat.reduceBEq, Bool.false_and, Bool.and_false, cells_int, tys, stb, GK_nil, GK_op, GKS_some, GKS_none, GKS_ite, GKS_nite, Bool.or_false, Bool.false_or, Bool.true_and, Bool.or_true, Bool.true_or, rheight_bad n hn]
    rfl
  · by_cases hi : i < 0
    · simp only [Try.f22, G_seq, G_block, G_skip_code, G_skip_blk, G_skip_nil, G_exit_code, G_exit_blk, G_exit_nil, G_ret_code, G_ret_blk, G_ret_nil, G_cond, G_cond_const, G_loop, G_region, G_draw, GL_nil, GL_op, GL_none, GL_guard, GS_some, GS_ite, GS_nite, GN_some, GN_ite, GN_nite, GB_true, GB_false, GB_dec, GG_true_true, GG_true_false, GG_false_true, GG_false_false, GG_true_dec, GG_false_dec, opT_move, opT_assign, opT_pick, pickO_true, pickO_false, opT_binOp, binO_some, opT_unOp, opT_extract, extrO_tup, opT_indexAddr, idxO_slice, opT_load, opT_call, opT_len, opT_append, opT_convert, convO_int, callV_func, evalT, upd_at, Nat.reduceLT, Nat.reduceEqDiff, if_true, if_false, reduceIte, true_and, map_mk, bind_mk, map_ite', map_nite, bind_ite', bind_nite, vBin_add, vBin_sub, vBin_mul, vBin_eql, vBin_neq, vBin_lss, vBin_leq, vBin_gtr, vBin_geq, vBin_rem, vBin_quo, vBin_beql, vBin_bneq, vUn_not, vUn_true, vUn_false, index_row, len_row, len_nilsl, listO_nil, listO_cons, ofVal, ofCell, argT, List.getD_cons_zero, List.getD_cons_succ, List.getElem?_toArray, List.getElem?_cons_zero, List.getElem?_cons_succ, List.nil_append, List.cons_append, List.append_nil, resT, wpR_nil, V1_some, Nat.mul_one, load_row, load_ptr, cellAt_some, opT_store, store_ptr, storeAt_some, cells_row, isCell_row, cells_nilsl, push_mk, set_mk, setT, vUn_neg, opT_max, opT_min, max_two, min_two, List.append_eq, opT_makeFunc, opT_fieldAddr, opT_build, partsO_nil, partsO_cons, faddr_ptr, faddr_rptr, cells_agg, push_last, Nat.add_zero, opT_box, opT_alloc, ints_get, post_norm, post_exit, post_ret, Int.toNat_natCast, Bool.false_eq_true, Int.reduceEq, Int.reduceLT, Int.reduceLE, Int.reduceNeg, not_false_eq_true, and_self, map_nothing, bind_nothing, Int.natCast_one, Int.cast_ofNat_Int, not_true_eq_false, decide_true, decide_false, true_implies, false_implies, Int.toNat_zero, List.length_cons, List.length_nil, Nat.zero_add, mb, Nat.reduceBEq, Bool.false_and, Bool.and_false, cells_int, tys, stb, GK_nil, GK_op, GKS_some, GKS_none, GKS_ite, GKS_nite, Bool.or_false, Bool.false_or, Bool.true_and, Bool.or_true, Bool.true_or, rheight_ok n (by omega) (by omega), hi]
      rfl
    · have : n ≤ i := by omega
      simp only [Try.f22, G_seq, G_block, G_skip_code, G_skip_blk, G_skip_nil, G_exit_code, G_exit_blk, G_exit_nil, G_ret_code, G_ret_blk, G_ret_nil, G_cond, G_cond_const, G_loop, G_region, G_draw, GL_nil, GL_op, GL_none, GL_guard, GS_some, GS_ite, GS_nite, GN_some, GN_ite, GN_nite, GB_true, GB_false, GB_dec, GG_true_true, GG_true_false, GG_false_true, GG_false_false, GG_true_dec, GG_false_dec, opT_move, opT_assign, opT_pick, pickO_true, pickO_false, opT_binOp, binO_some, opT_unOp, opT_extract, extrO_tup, opT_indexAddr, idxO_slice, opT_load, opT_call, opT_len, opT_append, opT_convert, convO_int, callV_func, evalT, upd_at, Nat.reduceLT, Nat.reduceEqDiff, if_true, if_false, reduceIte, true_and, map_mk, bind_mk, map_ite', map_nite, bind_ite', bind_nite, vBin_add, vBin_sub, vBin_mul, vBin_eql, vBin_neq, vBin_lss, vBin_leq, vBin_gtr, vBin_geq, vBin_rem, vBin_quo, vBin_beql, vBin_bneq, vUn_not, vUn_true, vUn_false, index_row, len_row, len_nilsl, listO_nil, listO_cons, ofVal, ofCell, argT, List.getD_cons_zero, List.getD_cons_succ, List.getElem?_toArray, List.getElem?_cons_zero, List.getElem?_cons_succ, List.nil_append, List.cons_append, List.append_nil, resT, wpR_nil, V1_some, Nat.mul_one, load_row, load_ptr, cellAt_some, opT_store, store_ptr, storeAt_some, cells_row, isCell_row, cells_nilsl, push_mk, set_mk, setT, vUn_neg, opT_max, opT_min, max_two, min_two, List.append_eq, opT_makeFunc, opT_fieldAddr, opT_build, partsO_nil, partsO_cons, faddr_ptr, faddr_rptr, cells_agg, push_last, Nat.add_zero, opT_box, opT_alloc, ints_get, post_norm, post_exit, post_ret, Int.toNat_natCast, Bool.false_eq_true, Int.reduceEq, Int.reduceLT, Int.reduceLE, Int.reduceNeg, not_false_eq_true, and_self, map_nothing, bind_nothing, Int.natCast_one, Int.cast_ofNat_Int, not_true_eq_false, decide_true, decide_false, true_implies, false_implies, Int.toNat_zero, List.length_cons, List.length_nil, Nat.zero_add, mb, Nat.reduceBEq, Bool.false_and, Bool.and_false, cells_int, tys, stb, GK_nil, GK_op, GKS_some, GKS_none, GKS_ite, GKS_nite, Bool.or_false, Bool.false_or, Bool.true_and, Bool.or_true, Bool.true_or, rheight_ok n (by omega) (by omega), hi, this]
      rfl

theorem pow_cast (h : Nat) : ((2 ^ h : Nat) : Int) = 2 ^ h := by simp

theorem rpath_ok (n : Int) (h1 : 1 ≤ n) (h2 : n ≤ 128) (i : Nat) (hi : (i : Int) < n) (σ : S) : callFn env (ev env) 22 [.int .i64 n, .int .i64 i] σ = some (.tup [rowI (pathL (hgt n) i), .int .i64 0], σ) := by
  refine callFn_pure rfl rfl rfl at22 rfl (by simp [Try.f22]) (by simp [Try.f22]) (G_start ?_) σ
  have hp := pow_le (hgt n) (hgt_le n)
  have c1 : ¬ (i : Int) < 0 := by omega
  have c2 : ¬ n ≤ (i : Int) := by omega
  have hc := pow_cast (hgt n)
  have e0 : IntKind.i64.wrap (1 * 2 ^ hgt n - 1) = 2 ^ hgt n - 1 := by rw [wrap_i64 (by omega) (by omega)]; omega
  have e1 : IntKind.i64.wrap (2 ^ hgt n - 1 + (i : Int)) = ((2 ^ hgt n - 1 + i : Nat) : Int) := by rw [wrap_i64 (by omega) (by omega)]; omega
  simp only [Try.f22, G_seq, G_block, G_skip_code, G_skip_blk, G_skip_nil, G_exit_code, G_exit_blk, G_exit_nil, G_ret_code, G_ret_blk, G_ret_nil, G_cond, G_cond_const, G_loop, G_region, G_draw, GL_nil, GL_op, GL_none, GL_guard, GS_some, GS_ite, GS_nite, GN_some, GN_ite, GN_nite, GB_true, GB_false, GB_dec, GG_true_true, GG_true_false, GG_false_true, GG_false_false, GG_true_dec, GG_false_dec, opT_move, opT_assign, opT_pick, pickO_true, pickO_false, opT_binOp, binO_some, opT_unOp, opT_extract, extrO_tup, opT_indexAddr, idxO_slice, opT_load, opT_call, opT_len, opT_append, opT_convert, convO_int, callV_func, evalT, upd_at, Nat.reduceLT, Nat.reduceEqDiff, if_true, if_false, reduceIte, true_and, map_mk, bind_mk, map_ite', map_nite, bind_ite', bind_nite, vBin_add, vBin_sub, vBin_mul, vBin_eql, vBin_neq, vBin_lss, vBin_leq, vBin_gtr, vBin_geq, vBin_rem, vBin_quo, vBin_beql, vBin_bneq, vUn_not, vUn_true, vUn_false, index_row, len_row, len_nilsl, listO_nil, listO_cons, ofVal, ofCell, argT, List.getD_cons_zero, List.getD_cons_succ, List.getElem?_toArray, List.getElem?_cons_zero, List.getElem?_cons_succ, List.nil_append, List.cons_append, List.append_nil, resT, wpR_nil, V1_some, Nat.mul_one, load_row, load_ptr, cellAt_some, opT_store, store_ptr, storeAt_some, cells_row, isCell_row, cells_nilsl, push_mk, set_mk, setT, vUn_neg, opT_max, opT_min, max_two, min_two, List.append_eq, opT_makeFunc, opT_fieldAddr, opT_build, partsO_nil, partsO_cons, faddr_ptr, faddr_rptr, cells_agg, push_last, Nat.add_zero, opT_box, opT_alloc, ints_get, post_norm, post_exit, post_ret, Int.toNat_natCast, Bool.false_eq_true, Int.reduceEq, Int.reduceLT, Int.reduceLE, Int.reduceNeg, not_false_eq_true, and_self, map_nothing, bind_nothing, Int.natCast_one, Int.cast_ofNat_Int, not_true_eq_false, decide_true, decide_false, true_implies, false_implies, Int.toNat_zero, List.length_cons, List.length_nil, Nat.zero_add, mb, Nat.reduceBEq, Bool.false_and, Bool.and_false, cells_int, tys, stb, GK_nil, GK_op, GKS_some, GKS_none, GKS_ite, GKS_nite, Bool.or_false, Bool.false_or, Bool.true_and, Bool.or_true, Bool.true_or, rheight_ok n h1 h2, shl_small (hgt n) (by have := hgt_le n; omega) 1 (.inl rfl), c1, c2, bs1, e0, e1]
  have hk0 : 2 ^ hgt n - 1 + i ≤ 256 := by omega
  unfold pathL
  generalize 2 ^ hgt n - 1 + i = k0 at *
  refine loop_rule (fun m T D σ => D = [] ∧ σ.heap = [] ∧ ∃ (out : List Int) (k : Nat), T 8 = .int .i64 k ∧ Grow σ.toks (T 9) (out.map (V.int .i64)) ∧ out.length + k ≤ 300 ∧ out ++ up k = (k0 : Int) :: up k0 ∧ m = k) ?_ _ _ _ _ ⟨rfl, rfl, [(k0 : Int)], k0, rfl, .full [V.int .i64 k0], by simp; omega, rfl, rfl⟩
  rintro m T D ⟨hp, ts⟩ ⟨rfl, rfl, out, k, h9, g, hle, hout, hm⟩
  refine G_start ?_
  simp only at g
  by_cases hk : k = 0
  · subst hk
    have c3 : ¬ (0 : Int) < ((0 : Nat) : Int) := by decide
    rw [up_zero, List.append_nil] at hout
    subst hout
    generalize h8 : T 9 = v at g
    simp only [G_seq, G_block, G_skip_code, G_skip_blk, G_skip_nil, G_exit_code, G_exit_blk, G_exit_nil, G_ret_code, G_ret_blk, G_ret_nil, G_cond, G_cond_const, G_loop, G_region, G_draw, GL_nil, GL_op, GL_none, GL_guard, GS_some, GS_ite, GS_nite, GN_some, GN_ite, GN_nite, GB_true, GB_false, GB_dec, GG_true_true, GG_true_false, GG_false_true, GG_false_false, GG_true_dec, GG_false_dec, opT_move, opT_assign, opT_pick, pickO_true, pickO_false, opT_binOp, binO_some, opT_unOp, opT_extract, extrO_tup, opT_indexAddr, idxO_slice, opT_load, opT_call, opT_len, opT_append, opT_convert, convO_int, callV_func, evalT, upd_at, Nat.reduceLT, Nat.reduceEqDiff, if_true, if_false, reduceIte, true_and, map_mk, bind_mk, map_ite', map_nite, bind_ite', bind_nite, vBin_add, vBin_sub, vBin_mul, vBin_eql, vBin_neq, vBin_lss, vBin_leq, vBin_gtr, vBin_geq, vBin_rem, vBin_quo, vBin_beql, vBin_bneq, vUn_not, vUn_true, vUn_false, index_row, len_row, len_nilsl, listO_nil, listO_cons, ofVal, ofCell, argT, List.getD_cons_zero, List.getD_cons_succ, List.getElem?_toArray, List.getElem?_cons_zero, List.getElem?_cons_succ, List.nil_append, List.cons_append, List.append_nil, resT, wpR_nil, V1_some, Nat.mul_one, load_row, load_ptr, cellAt_some, opT_store, store_ptr, storeAt_some, cells_row, isCell_row, cells_nilsl, push_mk, set_mk, setT, vUn_neg, opT_max, opT_min, max_two, min_two, List.append_eq, opT_makeFunc, opT_fieldAddr, opT_build, partsO_nil, partsO_cons, faddr_ptr, faddr_rptr, cells_agg, push_last, Nat.add_zero, opT_box, opT_alloc, ints_get, post_norm, post_exit, post_ret, Int.toNat_natCast, Bool.false_eq_true, Int.reduceEq, Int.reduceLT, Int.reduceLE, Int.reduceNeg, not_false_eq_true, and_self, map_nothing, bind_nothing, Int.natCast_one, Int.cast_ofNat_Int, not_true_eq_false, decide_true, decide_false, true_implies, false_implies, Int.toNat_zero, List.length_cons, List.length_nil, Nat.zero_add, mb, Nat.reduceBEq, Bool.false_and, Bool.and_false, cells_int, tys, stb, GK_nil, GK_op, GKS_some, GKS_none, GKS_ite, GKS_nite, Bool.or_false, Bool.false_or, Bool.true_and, Bool.or_true, Bool.true_or, h9, h8, c3]
    exact seal_grow2 g (by simp) _ _
  · have c3 : (0 : Int) < (k : Int) := by omega
    have e2 : IntKind.i64.wrap ((k : Int) - 1) = ((k - 1 : Nat) : Int) := by rw [wrap_i64 (by omega) (by omega)]; omega
    have e3 : IntKind.i64.wrap (((k - 1 : Nat) : Int).tdiv 2) = (((k - 1) / 2 : Nat) : Int) := by
      rw [Int.tdiv_eq_ediv_of_nonneg (by omega), wrap_i64 (by omega) (by omega)]; omega
    generalize h8 : T 9 = v at g
    obtain ⟨tk, te, ts', ha, htk⟩ := Grow.append one22 (hp := []) g (new := [(((k - 1) / 2 : Nat) : Int)].map (V.int .i64)) (c := .full) (by simp) (ints_cells _) (by simp [lim]; omega) (by simp [lim]; omega)
    rw [ints_app] at ha
    simp only [List.map_cons, List.map_nil, List.length_cons, List.length_nil, Nat.zero_add] at ha
    simp only [G_seq, G_block, G_skip_code, G_skip_blk, G_skip_nil, G_exit_code, G_exit_blk, G_exit_nil, G_ret_code, G_ret_blk, G_ret_nil, G_cond, G_cond_const, G_loop, G_region, G_draw, GL_nil, GL_op, GL_none, GL_guard, GS_some, GS_ite, GS_nite, GN_some, GN_ite, GN_nite, GB_true, GB_false, GB_dec, GG_true_true, GG_true_false, GG_false_true, GG_false_false, GG_true_dec, GG_false_dec, opT_move, opT_assign, opT_pick, pickO_true, pickO_false, opT_binOp, binO_some, opT_unOp, opT_extract, extrO_tup, opT_indexAddr, idxO_slice, opT_load, opT_call, opT_len, opT_append, opT_convert, convO_int, callV_func, evalT, upd_at, Nat.reduceLT, Nat.reduceEqDiff, if_true, if_false, reduceIte, true_and, map_mk, bind_mk, map_ite', map_nite, bind_ite', bind_nite, vBin_add, vBin_sub, vBin_mul, vBin_eql, vBin_neq, vBin_lss, vBin_leq, vBin_gtr, vBin_geq, vBin_rem, vBin_quo, vBin_beql, vBin_bneq, vUn_not, vUn_true, vUn_false, index_row, len_row, len_nilsl, listO_nil, listO_cons, ofVal, ofCell, argT, List.getD_cons_zero, List.getD_cons_succ, List.getElem?_toArray, List.getElem?_cons_zero, List.getElem?_cons_succ, List.nil_append, List.cons_append, List.append_nil, resT, wpR_nil, V1_some, Nat.mul_one, load_row, load_ptr, cellAt_some, opT_store, store_ptr, storeAt_some, cells_row, isCell_row, cells_nilsl, push_mk, set_mk, setT, vUn_neg, opT_max, opT_min, max_two, min_two, List.append_eq, opT_makeFunc, opT_fieldAddr, opT_build, partsO_nil, partsO_cons, faddr_ptr, faddr_rptr, cells_agg, push_last, Nat.add_zero, opT_box, opT_alloc, ints_get, post_norm, post_exit, post_ret, Int.toNat_natCast, Bool.false_eq_true, Int.reduceEq, Int.reduceLT, Int.reduceLE, Int.reduceNeg, not_false_eq_true, and_self, map_nothing, bind_nothing, Int.natCast_one, Int.cast_ofNat_Int, not_true_eq_false, decide_true, decide_false, true_implies, false_implies, Int.toNat_zero, List.length_cons, List.length_nil, Nat.zero_add, mb, Nat.reduceBEq, Bool.false_and, Bool.and_false, cells_int, tys, stb, GK_nil, GK_op, GKS_some, GKS_none, GKS_ite, GKS_nite, Bool.or_false, Bool.false_or, Bool.true_and, Bool.or_true, Bool.true_or, h9, h8, c3, e2, e3, bs1, ha]
    refine ⟨(k - 1) / 2, by omega, out ++ [(((k - 1) / 2 : Nat) : Int)], (k - 1) / 2, rfl, ?_, by simp; omega, ?_, rfl⟩
    · exact .tok _ tk te htk
    · rw [← hout, up_pos k (by omega)]; simp
end Go.Proofs.Ytkomkiejakcilaa

namespace Go.Proofs.Ytkomkiejakcilaa
open Go.Ab
set_option maxRecDepth 100000
set_option linter.unusedSimpArgs false
set_option linter.unusedVariables false
theorem at24 : env.P.funcs[24]? = some Try.f24 := by kernel_rfl
theorem at31 : env.P.funcs[31]? = some Try.f31 := by kernel_rfl
theorem at32 : env.P.funcs[32]? = some Try.f32 := by kernel_rfl
theorem at38 : env.P.funcs[38]? = some Try.f38 := by kernel_rfl

theorem bad_call (b : Nat) (most x : Int) (hm : 0 ≤ most ∧ most ≤ 2 ^ 62) (σ : S) (hb : σ.heap[b]? = some (.cells [.int .i64 most] 3)) :
    callFn env (ev env) 32 [.int .i64 x, .ptr b 0] σ = some (.bool (decide (x < -most ∨ most < x)), σ) := by
  refine callFn_eq rfl rfl at32 rfl (by simp [Try.f32]) (by simp [Try.f32]) ?_
  have e1 : IntKind.i64.wrap (0 - most) = -most := by rw [wrap_i64 (by omega) (by omega)]; omega
  simp only [Try.f32, G_seq, G_block, G_skip_code, G_skip_blk, G_skip_nil, G_exit_code, G_exit_blk, G_exit_nil, G_ret_code, G_ret_blk, G_ret_nil, G_cond, G_cond_const, G_loop, G_region, G_draw, GL_nil, GL_op, GL_none, GL_guard, GS_some, GS_ite, GS_nite, GN_some, GN_ite, GN_nite, GB_true, GB_false, GB_dec, GG_true_true, GG_true_false, GG_false_true, GG_false_false, GG_true_dec, GG_false_dec, opT_move, opT_assign, opT_pick, pickO_true, pickO_false, opT_binOp, binO_some, opT_unOp, opT_extract, extrO_tup, opT_indexAddr, idxO_slice, opT_load, opT_call, opT_len, opT_append, opT_convert, convO_int, callV_func, evalT, upd_at, Nat.reduceLT, Nat.reduceEqDiff, if_true, if_false, reduceIte, true_and, map_mk, bind_mk, map_ite', map_nite, bind_ite', bind_nite, vBin_add, vBin_sub, vBin_mul, vBin_eql, vBin_neq, vBin_lss, vBin_leq, vBin_gtr, vBin_geq, vBin_rem, vBin_quo, vBin_beql, vBin_bneq, vUn_not, vUn_true, vUn_false, index_row, len_row, len_nilsl, listO_nil, listO_cons, ofVal, ofCell, argT, List.getD_cons_zero, List.getD_cons_succ, List.getElem?_toArray, List.getElem?_cons_zero, List.getElem?_cons_succ, List.nil_append, List.cons_append, List.append_nil, resT, wpR_nil, V1_some, Nat.mul_one, load_row, load_ptr, cellAt_some, opT_store, store_ptr, storeAt_some, cells_row, isCell_row, cells_nilsl, push_mk, set_mk, setT, vUn_neg, opT_max, opT_min, max_two, min_two, List.append_eq, opT_makeFunc, opT_fieldAddr, opT_build, partsO_nil, partsO_cons, faddr_ptr, faddr_rptr, cells_agg, push_last, Nat.add_zero, opT_box, opT_alloc, ints_get, post_norm, post_exit, post_ret, Int.toNat_natCast, Bool.false_eq_true, Int.reduceEq, Int.reduceLT, Int.reduceLE, Int.reduceNeg, not_false_eq_true, and_self, map_nothing, bind_nothing, Int.natCast_one, Int.cast_ofNat_Int, not_true_eq_false, decide_true, decide_false, true_implies, false_implies, Int.toNat_zero, List.length_cons, List.length_nil, Nat.zero_add, mb, Nat.reduceBEq, Bool.false_and, Bool.and_false, cells_int, tys, stb, GK_nil, GK_op, GKS_some, GKS_none, GKS_ite, GKS_nite, Bool.or_false, Bool.false_or, Bool.true_and, Bool.or_true, Bool.true_or, hb, e1]
  refine ⟨fun h => ?_, fun h => ?_⟩
  · simp [oneOr, h]
  · simp [oneOr, h]

theorem index_call (b : Nat) (most : Int) (hm : 0 ≤ most ∧ most ≤ 2 ^ 62) (l : List Int) (hl : l.length ≤ 2 ^ 20) (σ : S) (hb : σ.heap[b]? = some (.cells [.int .i64 most] 3)) :
    ∃ r : Int, callFn env (ev env) 38 [rowI l, .func 32 [] [.ptr b 0]] σ = some (.int .i64 r, σ) ∧ (0 ≤ r ↔ ¬ ∀ z ∈ l, -most ≤ z ∧ z ≤ most) := by
  have key : ∃ v σ', callFn env (ev env) 38 [rowI l, .func 32 [] [.ptr b 0]] σ = some (v, σ') ∧ ∃ r : Int, v = .int .i64 r ∧ σ' = σ ∧ (0 ≤ r ↔ ¬ ∀ z ∈ l, -most ≤ z ∧ z ≤ most) := by
    refine callFn_any rfl rfl at38 rfl (by simp [Try.f38]) (by simp [Try.f38]) (G_start ?_)
    simp only [Try.f38, G_seq, G_block, G_skip_code, G_skip_blk, G_skip_nil, G_exit_code, G_exit_blk, G_exit_nil, G_ret_code, G_ret_blk, G_ret_nil, G_cond, G_cond_const, G_loop, G_region, G_draw, GL_nil, GL_op, GL_none, GL_guard, GS_some, GS_ite, GS_nite, GN_some, GN_ite, GN_nite, GB_true, GB_false, GB_dec, GG_true_true, GG_true_false, GG_false_true, GG_false_false, GG_true_dec, GG_false_dec, opT_move, opT_assign, opT_pick, pickO_true, pickO_false, opT_binOp, binO_some, opT_unOp, opT_extract, extrO_tup, opT_indexAddr, idxO_slice, opT_load, opT_call, opT_len, opT_append, opT_convert, convO_int, callV_func, evalT, upd_at, Nat.reduceLT, Nat.reduceEqDiff, if_true, if_false, reduceIte, true_and, map_mk, bind_mk, map_ite', map_nite, bind_ite', bind_nite, vBin_add, vBin_sub, vBin_mul, vBin_eql, vBin_neq, vBin_lss, vBin_leq, vBin_gtr, vBin_geq, vBin_rem, vBin_quo, vBin_beql, vBin_bneq, vUn_not, vUn_true, vUn_false, index_row, len_row, len_nilsl, listO_nil, listO_cons, ofVal, ofCell, argT, List.getD_cons_zero, List.getD_cons_succ, List.getElem?_toArray, List.getElem?_cons_zero, List.getElem?_cons_succ, List.nil_append, List.cons_append, List.append_nil, resT, wpR_nil, V1_some, Nat.mul_one, load_row, load_ptr, cellAt_some, opT_store, store_ptr, storeAt_some, cells_row, isCell_row, cells_nilsl, push_mk, set_mk, setT, vUn_neg, opT_max, opT_min, max_two, min_two, List.append_eq, opT_makeFunc, opT_fieldAddr, opT_build, partsO_nil, partsO_cons, faddr_ptr, faddr_rptr, cells_agg, push_last, Nat.add_zero, opT_box, opT_alloc, ints_get, post_norm, post_exit, post_ret, Int.toNat_natCast, Bool.false_eq_true, Int.reduceEq, Int.reduceLT, Int.reduceLE, Int.reduceNeg, not_false_eq_true, and_self, map_nothing, bind_nothing, Int.natCast_one, Int.cast_ofNat_Int, not_true_eq_false, decide_true, decide_false, true_implies, false_implies, Int.toNat_zero, List.length_cons, List.length_nil, Nat.zero_add, mb, Nat.reduceBEq, Bool.false_and, Bool.and_false, cells_int, tys, stb, GK_nil, GK_op, GKS_some, GKS_none, GKS_ite, GKS_nite, Bool.or_false, Bool.false_or, Bool.true_and, Bool.or_true, Bool.true_or]
    refine loop_rule (fun m T D σ' => D = [] ∧ σ' = σ ∧ T 0 = rowI l ∧ T 1 = .func 32 [] [.ptr b 0] ∧ T 7 = .int .i64 l.length ∧ ∃ i : Nat, T 8 = .int .i64 i ∧ i ≤ l.length ∧ m = l.length - i ∧ (∀ j (h : j < i), -most ≤ l.getD j 0 ∧ l.getD j 0 ≤ most)) ?_ _ _ _ _ ⟨rfl, rfl, rfl, rfl, rfl, 0, rfl, by omega, rfl, fun j h => by omega⟩
    rintro m T D σ' ⟨rfl, rfl, h0, h1, h7, i, h8, hi, rfl, hj⟩
    refine G_start ?_
    have hcall := fun x => bad_call b most x hm σ' hb
    simp only [G_seq, G_block, G_skip_code, G_skip_blk, G_skip_nil, G_exit_code, G_exit_blk, G_exit_nil, G_ret_code, G_ret_blk, G_ret_nil, G_cond, G_cond_const, G_loop, G_region, G_draw, GL_nil, GL_op, GL_none, GL_guard, GS_some, GS_ite, GS_nite, GN_some, GN_ite, GN_nite, GB_true, GB_false, GB_dec, GG_true_true, GG_true_false, GG_false_true, GG_false_false, GG_true_dec, GG_false_dec, opT_move, opT_assign, opT_pick, pickO_true, pickO_false, opT_binOp, binO_some, opT_unOp, opT_extract, extrO_tup, opT_indexAddr, idxO_slice, opT_load, opT_call, opT_len, opT_append, opT_convert, convO_int, callV_func, evalT, upd_at, Nat.reduceLT, Nat.reduceEqDiff, if_true, if_false, reduceIte, true_and, map_mk, bind_mk, map_ite', map_nite, bind_ite', bind_nite, vBin_add, vBin_sub, vBin_mul, vBin_eql, vBin_neq, vBin_lss, vBin_leq, vBin_gtr, vBin_geq, vBin_rem, vBin_quo, vBin_beql, vBin_bneq, vUn_not, vUn_true, vUn_false, index_row, len_row, len_nilsl, listO_nil, listO_cons, ofVal, ofCell, argT, List.getD_cons_zero, List.getD_cons_succ, List.getElem?_toArray, List.getElem?_cons_zero, List.getElem?_cons_succ, List.nil_append, List.cons_append, List.append_nil, resT, wpR_nil, V1_some, Nat.mul_one, load_row, load_ptr, cellAt_some, opT_store, store_ptr, storeAt_some, cells_row, isCell_row, cells_nilsl, push_mk, set_mk, setT, vUn_neg, opT_max, opT_min, max_two, min_two, List.append_eq, opT_makeFunc, opT_fieldAddr, opT_build, partsO_nil, partsO_cons, faddr_ptr, faddr_rptr, cells_agg, push_last, Nat.add_zero, opT_box, opT_alloc, ints_get, post_norm, post_exit, post_ret, Int.toNat_natCast, Bool.false_eq_true, Int.reduceEq, Int.reduceLT, Int.reduceLE, Int.reduceNeg, not_false_eq_true, and_self, map_nothing, bind_nothing, Int.natCast_one, Int.cast_ofNat_Int, not_true_eq_false, decide_true, decide_false, true_implies, false_implies, Int.toNat_zero, List.length_cons, List.length_nil, Nat.zero_add, mb, Nat.reduceBEq, Bool.false_and, Bool.and_false, cells_int, tys, stb, GK_nil, GK_op, GKS_some, GKS_none, GKS_ite, GKS_nite, Bool.or_false, Bool.false_or, Bool.true_and, Bool.or_true, Bool.true_or, h0, h1, h7, h8, hcall]
    refine ⟨fun h => ⟨⟨by omega, by omega⟩, by omega, fun hn => ?_, fun hn => ?_⟩, fun h => ?_⟩
    · have hlt : i < l.length := by omega
      refine ⟨i, rfl, ?_⟩
      constructor
      · intro _ hall
        have := hall (l.getD i 0) (by simp [List.getD, hlt])
        omega
      · intro _; omega
    · refine ⟨l.length - (i + 1), by omega, i + 1, ?_, by omega, rfl, fun j h => ?_⟩
      · rw [wrap_i64 (by omega) (by omega)]; simp
      · rcases Nat.lt_or_ge j i with h2 | h2
        · exact hj j h2
        · have : j = i := by omega
          subst this
          omega
    · refine ⟨-1, rfl, ?_⟩
      constructor
      · intro h; omega
      · intro h
        exfalso
        apply h
        intro z hz
        obtain ⟨j, hlt, he⟩ := List.getElem_of_mem hz
        have := hj j (by omega)
        simpa [List.getD, hlt, he] using this
  obtain ⟨v, σ', h1, r, rfl, rfl, h2⟩ := key
  exact ⟨r, h1, h2⟩

def Within (l : List Int) (most : Int) : Prop := ∀ z ∈ l, -most ≤ z ∧ z ≤ most
instance (l : List Int) (most : Int) : Decidable (Within l most) := inferInstanceAs (Decidable (∀ z ∈ l, -most ≤ z ∧ z ≤ most))

theorem contains_call (b : Nat) (most : Int) (hm : 0 ≤ most ∧ most ≤ 2 ^ 62) (l : List Int) (hl : l.length ≤ 2 ^ 20) (σ : S) (hb : σ.heap[b]? = some (.cells [.int .i64 most] 3)) :
    callFn env (ev env) 31 [rowI l, .func 32 [] [.ptr b 0]] σ = some (.bool (decide (¬ Within l most)), σ) := by
  obtain ⟨r, h1, h2⟩ := index_call b most hm l hl σ hb
  refine callFn_eq rfl rfl at31 rfl (by simp [Try.f31]) (by simp [Try.f31]) ?_
  simp only [Try.f31, G_seq, G_block, G_skip_code, G_skip_blk, G_skip_nil, G_exit_code, G_exit_blk, G_exit_nil, G_ret_code, G_ret_blk, G_ret_nil, G_cond, G_cond_const, G_loop, G_region, G_draw, GL_nil, GL_op, GL_none, GL_guard, GS_some, GS_ite, GS_nite, GN_some, GN_ite, GN_nite, GB_true, GB_false, GB_dec, GG_true_true, GG_true_false, GG_false_true, GG_false_false, GG_true_dec, GG_false_dec, opT_move, opT_assign, opT_pick, pickO_true, pickO_false, opT_binOp, binO_some, opT_unOp, opT_extract, extrO_tup, opT_indexAddr, idxO_slice, opT_load, opT_call, opT_len, opT_append, opT_convert, convO_int, callV_func, evalT, upd_at, Nat.reduceLT, Nat.reduceEqDiff, if_true, if_false, reduceIte, true_and, map_mk, bind_mk, map_ite', map_nite, bind_ite', bind_nite, vBin_add, vBin_sub, vBin_mul, vBin_eql, vBin_neq, vBin_lss, vBin_leq, vBin_gtr, vBin_geq, vBin_rem, vBin_quo, vBin_beql, vBin_bneq, vUn_not, vUn_true, vUn_false, index_row, len_row, len_nilsl, listO_nil, listO_cons, ofVal, ofCell, argT, List.getD_cons_zero, List.getD_cons_succ, List.getElem?_toArray, List.getElem?_cons_zero, List.getElem?_cons_succ, List.nil_append, List.cons_append, List.append_nil, resT, wpR_nil, V1_some, Nat.mul_one, load_row, load_ptr, cellAt_some, opT_store, store_ptr, storeAt_some, cells_row, isCell_row, cells_nilsl, push_mk, set_mk, setT, vUn_neg, opT_max, opT_min, max_two, min_two, List.append_eq, opT_makeFunc, opT_fieldAddr, opT_build, partsO_nil, partsO_cons, faddr_ptr, faddr_rptr, cells_agg, push_last, Nat.add_zero, opT_box, opT_alloc, ints_get, post_norm, post_exit, post_ret, Int.toNat_natCast, Bool.false_eq_true, Int.reduceEq, Int.reduceLT, Int.reduceLE, Int.reduceNeg, not_false_eq_true, and_self, map_nothing, bind_nothing, Int.natCast_one, Int.cast_ofNat_Int, not_true_eq_false, decide_true, decide_false, true_implies, false_implies, Int.toNat_zero, List.length_cons, List.length_nil, Nat.zero_add, mb, Nat.reduceBEq, Bool.false_and, Bool.and_false, cells_int, tys, stb, GK_nil, GK_op, GKS_some, GKS_none, GKS_ite, GKS_nite, Bool.or_false, Bool.false_or, Bool.true_and, Bool.or_true, Bool.true_or, h1]
  simp only [oneOr, h2, Within]
  exact ⟨rfl, trivial⟩

theorem within_call (l : List Int) (most : Int) (hm : 0 ≤ most ∧ most ≤ 2 ^ 62) (hl : l.length ≤ 2 ^ 20) (σ : S) :
    callFn env (ev env) 24 [rowI l, .int .i64 most] σ = some (.bool (decide (Within l most)), σ) := by
  refine callFn_pure rfl rfl (by simp [ints_closed, V.closed]) at24 rfl (by simp [Try.f24]) (by simp [Try.f24]) (G_start ?_) σ
  have h := contains_call 0 most hm l hl ⟨[.cells [.int .i64 most] 3], []⟩ rfl
  simp only [Try.f24, G_seq, G_block, G_skip_code, G_skip_blk, G_skip_nil, G_exit_code, G_exit_blk, G_exit_nil, G_ret_code, G_ret_blk, G_ret_nil, G_cond, G_cond_const, G_loop, G_region, G_draw, GL_nil, GL_op, GL_none, GL_guard, GS_some, GS_ite, GS_nite, GN_some, GN_ite, GN_nite, GB_true, GB_false, GB_dec, GG_true_true, GG_true_false, GG_false_true, GG_false_false, GG_true_dec, GG_false_dec, opT_move, opT_assign, opT_pick, pickO_true, pickO_false, opT_binOp, binO_some, opT_unOp, opT_extract, extrO_tup, opT_indexAddr, idxO_slice, opT_load, opT_call, opT_len, opT_append, opT_convert, convO_int, callV_func, evalT, upd_at, Nat.reduceLT, Nat.reduceEqDiff, if_true, if_false, reduceIte, true_and, map_mk, bind_mk, map_ite', map_nite, bind_ite', bind_nite, vBin_add, vBin_sub, vBin_mul, vBin_eql, vBin_neq, vBin_lss, vBin_leq, vBin_gtr, vBin_geq, vBin_rem, vBin_quo, vBin_beql, vBin_bneq, vUn_not, vUn_true, vUn_false, index_row, len_row, len_nilsl, listO_nil, listO_cons, ofVal, ofCell, argT, List.getD_cons_zero, List.getD_cons_succ, List.getElem?_toArray, List.getElem?_cons_zero, List.getElem?_cons_succ, List.nil_append, List.cons_append, List.append_nil, resT, wpR_nil, V1_some, Nat.mul_one, load_row, load_ptr, cellAt_some, opT_store, store_ptr, storeAt_some, cells_row, isCell_row, cells_nilsl, push_mk, set_mk, setT, vUn_neg, opT_max, opT_min, max_two, min_two, List.append_eq, opT_makeFunc, opT_fieldAddr, opT_build, partsO_nil, partsO_cons, faddr_ptr, faddr_rptr, cells_agg, push_last, Nat.add_zero, opT_box, opT_alloc, ints_get, post_norm, post_exit, post_ret, Int.toNat_natCast, Bool.false_eq_true, Int.reduceEq, Int.reduceLT, Int.reduceLE, Int.reduceNeg, not_false_eq_true, and_self, map_nothing, bind_nothing, Int.natCast_one, Int.cast_ofNat_Int, not_true_eq_false, decide_true, decide_false, true_implies, false_implies, Int.toNat_zero, List.length_cons, List.length_nil, Nat.zero_add, mb, Nat.reduceBEq, Bool.false_and, Bool.and_false, cells_int, tys, stb, GK_nil, GK_op, GKS_some, GKS_none, GKS_ite, GKS_nite, Bool.or_false, Bool.false_or, Bool.true_and, Bool.or_true, Bool.true_or, empty_mk, push_mk, h]
  simp [oneOr, sealDepth, sealV_bool]
end Go.Proofs.Ytkomkiejakcilaa
