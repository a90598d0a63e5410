/- Proved here: what the law TreeChange comes to. Conditions: those of each theorem; no statement of the seat is proved in this text. -/
import Derived.Test.YtkomkiejakcilaaTrBD
namespace Go.Proofs.Ytkomkiejakcilaa
open Go.Ab
set_option maxRecDepth 100000
set_option linter.unusedSimpArgs false
set_option linter.unusedVariables false
theorem at26 : env.P.funcs[26]? = some Try.f26 := by kernel_rfl
theorem at10 : env.P.funcs[10]? = some Try.f10 := by kernel_rfl
theorem g40 : aggT env 40 = some false := by kernel_rfl
theorem ld40 (h : List AObj) (p : V) : aload env h 40 p = (loadCellsV h 1 p).bind (·[0]?) := aload_one g40
theorem ld22 (h : List AObj) (p : V) : aload env h 22 p = (loadCellsV h 1 p).bind (·[0]?) := aload_one g22

/-- the nodes below one, filled in -/
def fillL : Nat → Nat → List Int → List Int
  | 0, _, o => o
  | d + 1, node, o =>
    (fillL d (2 * node + 2) (fillL d (2 * node + 1) o)).set node (IntKind.i64.wrap ((fillL d (2 * node + 1) o).getD (2 * node + 1) 0 + (fillL d (2 * node + 2) (fillL d (2 * node + 1) o)).getD (2 * node + 2) 0))
theorem fillL_len : ∀ (d node : Nat) (o : List Int), (fillL d node o).length = o.length
  | 0, _, _ => rfl
  | d + 1, node, o => by simp only [fillL, List.length_set, fillL_len d]

theorem set_same {σ : S} {b : Nat} {o : AObj} (h : σ.heap[b]? = some o) : σ.set b o = σ := by
  obtain ⟨hp, ts⟩ := σ
  simp only [S.set] at *
  rw [List.getElem?_eq_some_iff] at h
  obtain ⟨h1, h2⟩ := h
  rw [← h2, List.set_getElem_self]
theorem set_set (σ : S) (b : Nat) (o o' : AObj) : (σ.set b o).set b o' = σ.set b o' := by simp [S.set]
theorem set_at {σ : S} {b c : Nat} {o : AObj} (h : b ≠ c) : (σ.set b o).heap[c]? = σ.heap[c]? := by simp only [S.set]; exact List.getElem?_set_ne h
theorem set_here {σ : S} {b : Nat} {o o' : AObj} (h : σ.heap[b]? = some o') : (σ.set b o).heap[b]? = some o := by
  simp only [S.set]
  exact List.getElem?_set_self (List.getElem?_eq_some_iff.1 h).1
theorem map_set (zs : List Int) (i : Nat) (x : Int) (h : i < zs.length) : storeList (zs.map (V.int .i64)) i [V.int .i64 x] = (zs.set i x).map (V.int .i64) := by
  simp only [storeList, List.length_cons, List.length_nil, Nat.zero_add]
  rw [List.set_eq_take_append_cons_drop, if_pos h]
  simp

theorem getD_set_here {l : List Int} {i : Nat} {x : Int} (h : i < l.length) : (l.set i x).getD i 0 = x := by simp [List.getD, h]
set_option maxHeartbeats 4000000 in
theorem fill_call (h : Nat) (hh : h ≤ 7) (hb fb ob B : Nat) (n1 : B ≠ hb) (n2 : B ≠ fb) (n3 : B ≠ ob) : ∀ (d node at' : Nat), d ≤ h → (node + 1) * 2 ^ d = 2 ^ h + at' → at' + 2 ^ d ≤ 2 ^ h → ∀ (o : List Int) (σ : S), o.length = 2 ^ (h + 1) - 1 →
    σ.heap[hb]? = some (.cells [.int .i64 h] 3) → σ.heap[fb]? = some (.cells [.func 26 [] [.ptr hb 0, .ptr fb 0, .ptr ob 0]] 40) → σ.heap[ob]? = some (.cells [.hsl B 0 (2 ^ (h + 1) - 1) (2 ^ (h + 1) - 1) true] 22) → σ.heap[B]? = some (.cells (o.map (V.int .i64)) 3) →
    callFn env (ev env) 26 [.int .i64 node, .ptr hb 0, .ptr fb 0, .ptr ob 0] σ = some (.int .i64 ((fillL d node o).getD node 0), σ.set B (.cells ((fillL d node o).map (V.int .i64)) 3)) := by
  have hp := pow_le h hh
  have e2 : 2 ^ (h + 1) = 2 * 2 ^ h := by rw [Nat.pow_succ]; omega
  have hc := pow_cast h
  intro d
  induction d with
  | zero =>
    intro node at' hd hn ha o σ hl c1 c2 c3 c4
    have hlt : ¬ (node : Int) < 2 ^ h - 1 := by omega
    have hno : node < o.length := by omega
    refine callFn_eq rfl rfl at26 rfl (by simp [Try.f26]) (by simp [Try.f26]) ?_
    simp only [Try.f26, G_seq, G_block, G_skip_code, G_skip_blk, G_skip_nil, G_exit_code, G_exit_blk, G_exit_nil, G_ret_code, G_ret_blk, G_ret_nil, G_cond, G_cond_const, G_loop, G_region, G_draw, GL_nil, GL_op, GL_none, GL_guard, GS_some, GS_ite, GS_nite, GN_some, GN_ite, GN_nite, GB_true, GB_false, GB_dec, GG_true_true, GG_true_false, GG_false_true, GG_false_false, GG_true_dec, GG_false_dec, opT_move, opT_assign, opT_pick, pickO_true, pickO_false, opT_binOp, binO_some, opT_unOp, opT_extract, extrO_tup, opT_indexAddr, idxO_slice, opT_load, opT_call, opT_len, opT_append, opT_convert, convO_int, callV_func, evalT, upd_at, Nat.reduceLT, Nat.reduceEqDiff, if_true, if_false, reduceIte, true_and, map_mk, bind_mk, map_ite', map_nite, bind_ite', bind_nite, vBin_add, vBin_sub, vBin_mul, vBin_eql, vBin_neq, vBin_lss, vBin_leq, vBin_gtr, vBin_geq, vBin_rem, vBin_quo, vBin_beql, vBin_bneq, vUn_not, vUn_true, vUn_false, index_row, len_row, len_nilsl, listO_nil, listO_cons, ofVal, ofCell, argT, List.getD_cons_zero, List.getD_cons_succ, List.getElem?_toArray, List.getElem?_cons_zero, List.getElem?_cons_succ, List.nil_append, List.cons_append, List.append_nil, resT, wpR_nil, V1_some, Nat.mul_one, load_row, load_ptr, cellAt_some, opT_store, store_ptr, storeAt_some, cells_row, isCell_row, cells_nilsl, push_mk, set_mk, setT, vUn_neg, opT_max, opT_min, max_two, min_two, List.append_eq, opT_makeFunc, opT_fieldAddr, opT_build, partsO_nil, partsO_cons, faddr_ptr, faddr_rptr, cells_agg, push_last, Nat.add_zero, opT_box, opT_alloc, ints_get, post_norm, post_exit, post_ret, Int.toNat_natCast, Bool.false_eq_true, Int.reduceEq, Int.reduceLT, Int.reduceLE, Int.reduceNeg, not_false_eq_true, and_self, map_nothing, bind_nothing, Int.natCast_one, Int.cast_ofNat_Int, not_true_eq_false, decide_true, decide_false, true_implies, false_implies, Int.toNat_zero, List.length_cons, List.length_nil, Nat.zero_add, mb, Nat.reduceBEq, Bool.false_and, Bool.and_false, cells_int, tys, stb, GK_nil, GK_op, GKS_some, GKS_none, GKS_ite, GKS_nite, Bool.or_false, Bool.false_or, Bool.true_and, Bool.or_true, Bool.true_or, c1, c2, c3, c4, leaf_call h (by omega), hlt, index_hsl, hno]
    refine ⟨⟨by omega, by omega⟩, rfl, ?_⟩
    rw [show fillL 0 node o = o from rfl, set_same c4]
  | succ d ih =>
    intro node at' hd hn ha o σ hl c1 c2 c3 c4
    have hpd : 1 ≤ 2 ^ d := Nat.one_le_two_pow
    have h2 : 2 ^ (d + 1) = 2 * 2 ^ d := by rw [Nat.pow_succ]; omega
    have hlt : (node : Int) < 2 ^ h - 1 := by
      have : (node + 1) * 2 ≤ (node + 1) * 2 ^ (d + 1) := Nat.mul_le_mul_left _ (by omega)
      omega
    refine callFn_eq rfl rfl at26 rfl (by simp [Try.f26]) (by simp [Try.f26]) ?_
    simp only [Try.f26, G_seq, G_block, G_skip_code, G_skip_blk, G_skip_nil, G_exit_code, G_exit_blk, G_exit_nil, G_ret_code, G_ret_blk, G_ret_nil, G_cond, G_cond_const, G_loop, G_region, G_draw, GL_nil, GL_op, GL_none, GL_guard, GS_some, GS_ite, GS_nite, GN_some, GN_ite, GN_nite, GB_true, GB_false, GB_dec, GG_true_true, GG_true_false, GG_false_true, GG_false_false, GG_true_dec, GG_false_dec, opT_move, opT_assign, opT_pick, pickO_true, pickO_false, opT_binOp, binO_some, opT_unOp, opT_extract, extrO_tup, opT_indexAddr, idxO_slice, opT_load, opT_call, opT_len, opT_append, opT_convert, convO_int, callV_func, evalT, upd_at, Nat.reduceLT, Nat.reduceEqDiff, if_true, if_false, reduceIte, true_and, map_mk, bind_mk, map_ite', map_nite, bind_ite', bind_nite, vBin_add, vBin_sub, vBin_mul, vBin_eql, vBin_neq, vBin_lss, vBin_leq, vBin_gtr, vBin_geq, vBin_rem, vBin_quo, vBin_beql, vBin_bneq, vUn_not, vUn_true, vUn_false, index_row, len_row, len_nilsl, listO_nil, listO_cons, ofVal, ofCell, argT, List.getD_cons_zero, List.getD_cons_succ, List.getElem?_toArray, List.getElem?_cons_zero, List.getElem?_cons_succ, List.nil_append, List.cons_append, List.append_nil, resT, wpR_nil, V1_some, Nat.mul_one, load_row, load_ptr, cellAt_some, opT_store, store_ptr, storeAt_some, cells_row, isCell_row, cells_nilsl, push_mk, set_mk, setT, vUn_neg, opT_max, opT_min, max_two, min_two, List.append_eq, opT_makeFunc, opT_fieldAddr, opT_build, partsO_nil, partsO_cons, faddr_ptr, faddr_rptr, cells_agg, push_last, Nat.add_zero, opT_box, opT_alloc, ints_get, post_norm, post_exit, post_ret, Int.toNat_natCast, Bool.false_eq_true, Int.reduceEq, Int.reduceLT, Int.reduceLE, Int.reduceNeg, not_false_eq_true, and_self, map_nothing, bind_nothing, Int.natCast_one, Int.cast_ofNat_Int, not_true_eq_false, decide_true, decide_false, true_implies, false_implies, Int.toNat_zero, List.length_cons, List.length_nil, Nat.zero_add, mb, Nat.reduceBEq, Bool.false_and, Bool.and_false, cells_int, tys, stb, GK_nil, GK_op, GKS_some, GKS_none, GKS_ite, GKS_nite, Bool.or_false, Bool.false_or, Bool.true_and, Bool.or_true, Bool.true_or, c1, c2, c3, c4, leaf_call h (by omega), hlt]
    refine G_stab rfl (fun s => s.heap[ob]? = some (.cells [.hsl B 0 (2 ^ (h + 1) - 1) (2 ^ (h + 1) - 1) true] 22) ∧ s.heap[fb]? = some (.cells [.func 26 [] [.ptr hb 0, .ptr fb 0, .ptr ob 0]] 40)) ⟨c3, c2⟩ (by kernel_rfl) ?_
    have hnode : node + 1 < 2 ^ h := by omega
    have e3 : IntKind.i64.wrap (2 * (node : Int)) = ((2 * node : Nat) : Int) := by rw [wrap_i64 (by omega) (by omega)]; omega
    have e4 : IntKind.i64.wrap (((2 * node : Nat) : Int) + 1) = ((2 * node + 1 : Nat) : Int) := by rw [wrap_i64 (by omega) (by omega)]; omega
    have e5 : IntKind.i64.wrap (((2 * node : Nat) : Int) + 2) = ((2 * node + 2 : Nat) : Int) := by rw [wrap_i64 (by omega) (by omega)]; omega
    have s1 : ∀ x, (σ.set B x).heap[hb]? = some (.cells [.int .i64 h] 3) := fun x => by rw [set_at n1]; exact c1
    have s2 : ∀ x, (σ.set B x).heap[fb]? = some (.cells [.func 26 [] [.ptr hb 0, .ptr fb 0, .ptr ob 0]] 40) := fun x => by rw [set_at n2]; exact c2
    have s3 : ∀ x, (σ.set B x).heap[ob]? = some (.cells [.hsl B 0 (2 ^ (h + 1) - 1) (2 ^ (h + 1) - 1) true] 22) := fun x => by rw [set_at n3]; exact c3
    have s4 : ∀ x, (σ.set B x).heap[B]? = some x := fun x => set_here c4
    have ih1 := ih (2 * node + 1) at' (by omega) (by rw [← hn, h2, ← Nat.mul_assoc]; congr 1; omega) (by omega) o σ hl c1 c2 c3 c4
    have ih2 := ih (2 * node + 2) (at' + 2 ^ d) (by omega) (by
      have : (2 * node + 2) * 2 ^ d = 2 ^ h + at' := by rw [← hn, h2, ← Nat.mul_assoc]; congr 1; omega
      rw [show 2 * node + 2 + 1 = (2 * node + 2) + 1 by omega, Nat.succ_mul, this]; omega) (by omega) (fillL d (2 * node + 1) o) _ (by rw [fillL_len]; exact hl) (s1 _) (s2 _) (s3 _) (s4 _)
    have hfl : (fillL (d + 1) node o).getD node 0 = IntKind.i64.wrap ((fillL d (2 * node + 1) o).getD (2 * node + 1) 0 + (fillL d (2 * node + 2) (fillL d (2 * node + 1) o)).getD (2 * node + 2) 0) := by
      simp only [fillL]
      exact getD_set_here (by rw [fillL_len, fillL_len]; omega)
    have hms : storeList ((fillL d (2 * node + 2) (fillL d (2 * node + 1) o)).map (V.int .i64)) node [V.int .i64 (IntKind.i64.wrap ((fillL d (2 * node + 1) o).getD (2 * node + 1) 0 + (fillL d (2 * node + 2) (fillL d (2 * node + 1) o)).getD (2 * node + 2) 0))] = (fillL (d + 1) node o).map (V.int .i64) := by
      rw [map_set _ _ _ (by rw [fillL_len, fillL_len]; omega)]; rfl
    have hno : node < (fillL (d + 1) node o).length := by rw [fillL_len]; omega
    simp only [G_seq, G_block, G_skip_code, G_skip_blk, G_skip_nil, G_exit_code, G_exit_blk, G_exit_nil, G_ret_code, G_ret_blk, G_ret_nil, G_cond, G_cond_const, G_loop, G_region, G_draw, GL_nil, GL_op, GL_none, GL_guard, GS_some, GS_ite, GS_nite, GN_some, GN_ite, GN_nite, GB_true, GB_false, GB_dec, GG_true_true, GG_true_false, GG_false_true, GG_false_false, GG_true_dec, GG_false_dec, opT_move, opT_assign, opT_pick, pickO_true, pickO_false, opT_binOp, binO_some, opT_unOp, opT_extract, extrO_tup, opT_indexAddr, idxO_slice, opT_load, opT_call, opT_len, opT_append, opT_convert, convO_int, callV_func, evalT, upd_at, Nat.reduceLT, Nat.reduceEqDiff, if_true, if_false, reduceIte, true_and, map_mk, bind_mk, map_ite', map_nite, bind_ite', bind_nite, vBin_add, vBin_sub, vBin_mul, vBin_eql, vBin_neq, vBin_lss, vBin_leq, vBin_gtr, vBin_geq, vBin_rem, vBin_quo, vBin_beql, vBin_bneq, vUn_not, vUn_true, vUn_false, index_row, len_row, len_nilsl, listO_nil, listO_cons, ofVal, ofCell, argT, List.getD_cons_zero, List.getD_cons_succ, List.getElem?_toArray, List.getElem?_cons_zero, List.getElem?_cons_succ, List.nil_append, List.cons_append, List.append_nil, resT, wpR_nil, V1_some, Nat.mul_one, load_row, load_ptr, cellAt_some, opT_store, store_ptr, storeAt_some, cells_row, isCell_row, cells_nilsl, push_mk, set_mk, setT, vUn_neg, opT_max, opT_min, max_two, min_two, List.append_eq, opT_makeFunc, opT_fieldAddr, opT_build, partsO_nil, partsO_cons, faddr_ptr, faddr_rptr, cells_agg, push_last, Nat.add_zero, opT_box, opT_alloc, ints_get, post_norm, post_exit, post_ret, Int.toNat_natCast, Bool.false_eq_true, Int.reduceEq, Int.reduceLT, Int.reduceLE, Int.reduceNeg, not_false_eq_true, and_self, map_nothing, bind_nothing, Int.natCast_one, Int.cast_ofNat_Int, not_true_eq_false, decide_true, decide_false, true_implies, false_implies, Int.toNat_zero, List.length_cons, List.length_nil, Nat.zero_add, mb, Nat.reduceBEq, Bool.false_and, Bool.and_false, cells_int, tys, stb, GK_nil, GK_op, GKS_some, GKS_none, GKS_ite, GKS_nite, Bool.or_false, Bool.false_or, Bool.true_and, Bool.or_true, Bool.true_or, sc_load, sc_move, sc_assign, sc_pick, sc_binOp, sc_unOp, sc_indexAddr, sc_fieldAddr, sc_extract, sc_store, sc_callT, rd_load, rd_move, rd_assign, rd_pick, rd_binOp, rd_unOp, rd_indexAddr, rd_fieldAddr, rd_extract, rd_store, rd_call, aread_load, c1, c2, c3, c4, s1, s2, s3, s4, e3, e4, e5, ih1, ih2, index_hsl, set_set, hms, hno, hfl, ld40]
    exact ⟨fun s hs => by rw [hs.1]; rfl, fun s hs => by rw [hs.2]; rfl, fun s hs => by rw [hs.2]; rfl, ⟨by omega, by omega⟩, ⟨by simp [fillL_len]; omega, by simp [V.isCell]⟩, ⟨by omega, by omega⟩, rfl, trivial⟩
end Go.Proofs.Ytkomkiejakcilaa

namespace Go.Proofs.Ytkomkiejakcilaa
open Go.Ab
set_option maxRecDepth 100000
set_option linter.unusedSimpArgs false
set_option linter.unusedVariables false

def rsum (f : Nat → Int) (a : Nat) : Nat → Int
  | 0 => 0
  | n + 1 => rsum f a n + f (a + n)
theorem rsum_add (f : Nat → Int) (a n : Nat) : ∀ m, rsum f a (n + m) = rsum f a n + rsum f (a + n) m
  | 0 => by simp [rsum]
  | m + 1 => by
    show rsum f a (n + m) + f (a + (n + m)) = rsum f a n + (rsum f (a + n) m + f (a + n + m))
    rw [rsum_add f a n m, Nat.add_assoc]; omega
theorem rsum_bound (f : Nat → Int) (M : Int) (hf : ∀ k, -M ≤ f k ∧ f k ≤ M) (a : Nat) : ∀ n : Nat, -(M * n) ≤ rsum f a n ∧ rsum f a n ≤ M * n
  | 0 => by simp [rsum]
  | n + 1 => by
    have h := rsum_bound f M hf a n
    have h2 := hf (a + n)
    have e : M * ((n + 1 : Nat) : Int) = M * n + M := by rw [Int.natCast_add, Int.mul_add]; simp
    simp only [rsum]
    omega

/-- node k has height d, and its leaves begin at a -/
structure Lv (h d k a : Nat) : Prop where
  le : d ≤ h
  at_ : (k + 1) * 2 ^ d = 2 ^ h + a
  fit : a + 2 ^ d ≤ 2 ^ h

theorem Lv.left {h d k a : Nat} (l : Lv h (d + 1) k a) : Lv h d (2 * k + 1) a := by
  obtain ⟨h1, h2, h3⟩ := l
  have e : 2 ^ (d + 1) = 2 * 2 ^ d := by rw [Nat.pow_succ]; omega
  have hp : 1 ≤ 2 ^ d := Nat.one_le_two_pow
  refine ⟨by omega, ?_, by omega⟩
  rw [← h2, e, ← Nat.mul_assoc]; congr 1; omega
theorem Lv.right {h d k a : Nat} (l : Lv h (d + 1) k a) : Lv h d (2 * k + 2) (a + 2 ^ d) := by
  obtain ⟨h1, h2, h3⟩ := l
  have e : 2 ^ (d + 1) = 2 * 2 ^ d := by rw [Nat.pow_succ]; omega
  have hp : 1 ≤ 2 ^ d := Nat.one_le_two_pow
  refine ⟨by omega, ?_, by omega⟩
  have : (2 * k + 2) * 2 ^ d = 2 ^ h + a := by rw [← h2, e, ← Nat.mul_assoc]; congr 1; omega
  rw [show 2 * k + 2 + 1 = (2 * k + 2) + 1 by omega, Nat.succ_mul, this]; omega
theorem Lv.lt_false {h d k a d' a' : Nat} (l : Lv h d k a) (l' : Lv h d' k a') (hd : d < d') : False := by
  obtain ⟨h1, h2, h3⟩ := l
  obtain ⟨g1, g2, g3⟩ := l'
  have e : 2 ^ d' = 2 ^ d * 2 ^ (d' - d) := by rw [← Nat.pow_add]; congr 1; omega
  have h4 : 2 ≤ 2 ^ (d' - d) := by
    have : 2 ^ 1 ≤ 2 ^ (d' - d) := Nat.pow_le_pow_right (by omega) (by omega)
    omega
  have h5 : (k + 1) * 2 ^ d * 2 ≤ (k + 1) * 2 ^ d' := by rw [e, ← Nat.mul_assoc]; exact Nat.mul_le_mul_left _ h4
  have hp : 1 ≤ 2 ^ d' := Nat.one_le_two_pow
  omega
theorem Lv.inj {h d k a d' a' : Nat} (l : Lv h d k a) (l' : Lv h d' k a') : d = d' := by
  rcases Nat.lt_trichotomy d d' with h1 | h1 | h1
  · exact (l.lt_false l' h1).elim
  · exact h1
  · exact (l'.lt_false l h1).elim
theorem Lv.same {h d k k' a : Nat} (l : Lv h d k a) (l' : Lv h d k' a) : k = k' := by
  have := l.at_.trans l'.at_.symm
  have hp : 0 < 2 ^ d := Nat.one_le_two_pow
  have := Nat.eq_of_mul_eq_mul_right hp this
  omega
theorem Lv.bound {h d k a : Nat} (l : Lv h d k a) : k < 2 ^ (h + 1) - 1 := by
  obtain ⟨h1, h2, h3⟩ := l
  have hp : 1 ≤ 2 ^ d := Nat.one_le_two_pow
  have : (k + 1) * 1 ≤ (k + 1) * 2 ^ d := Nat.mul_le_mul_left _ hp
  have e : 2 ^ (h + 1) = 2 * 2 ^ h := by rw [Nat.pow_succ]; omega
  omega
theorem Lv.exists {h k : Nat} (hk : k < 2 ^ (h + 1) - 1) : ∃ d a, Lv h d k a := by
  have e : 2 ^ (h + 1) = 2 * 2 ^ h := by rw [Nat.pow_succ]; omega
  have h1 := Nat.log2_self_le (n := k + 1) (by omega)
  have h2 := Nat.lt_log2_self (n := k + 1)
  have hj : (k + 1).log2 ≤ h := by
    rcases Nat.lt_or_ge h (k + 1).log2 with h3 | h3
    · have : 2 ^ (h + 1) ≤ 2 ^ (k + 1).log2 := Nat.pow_le_pow_right (by omega) h3
      omega
    · exact h3
  generalize (k + 1).log2 = j at *
  have q1 : 2 ^ h = 2 ^ j * 2 ^ (h - j) := by rw [← Nat.pow_add]; congr 1; omega
  have q2 : 2 ^ (h + 1) = 2 ^ (j + 1) * 2 ^ (h - j) := by rw [← Nat.pow_add]; congr 1; omega
  have q3 : 2 ^ j * 2 ^ (h - j) ≤ (k + 1) * 2 ^ (h - j) := Nat.mul_le_mul_right _ h1
  have q4 : (k + 1 + 1) * 2 ^ (h - j) ≤ 2 ^ (j + 1) * 2 ^ (h - j) := Nat.mul_le_mul_right _ h2
  rw [Nat.succ_mul] at q4
  exact ⟨h - j, (k + 1) * 2 ^ (h - j) - 2 ^ h, by omega, by omega, by omega⟩
/-- the leaves of a node of height d' lie on one side of the middle of a greater one -/
theorem Lv.side {h d k a d' k' a' : Nat} (l : Lv h (d + 1) k a) (l' : Lv h d' k' a') (hd : d' ≤ d) : a' + 2 ^ d' ≤ a + 2 ^ d ∨ a + 2 ^ d ≤ a' := by
  have r := l.right
  obtain ⟨r1, r2, r3⟩ := r
  obtain ⟨g1, g2, g3⟩ := l'
  have e1 : 2 ^ d = 2 ^ (d - d') * 2 ^ d' := by rw [← Nat.pow_add]; congr 1; omega
  have q : (2 * k + 2 + 1) * 2 ^ (d - d') * 2 ^ d' = 2 ^ h + (a + 2 ^ d) := by rw [Nat.mul_assoc, ← e1]; exact r2
  generalize (2 * k + 2 + 1) * 2 ^ (d - d') = p at *
  rcases Nat.lt_or_ge (k' + 1) p with h1 | h1
  · left
    have : (k' + 1 + 1) * 2 ^ d' ≤ p * 2 ^ d' := Nat.mul_le_mul_right _ h1
    rw [Nat.succ_mul] at this
    omega
  · right
    have : p * 2 ^ d' ≤ (k' + 1) * 2 ^ d' := Nat.mul_le_mul_right _ h1
    omega

theorem getD_set_ne {l : List Int} {i j : Nat} {x : Int} (h : i ≠ j) : (l.set i x).getD j 0 = l.getD j 0 := by simp only [List.getD]; rw [List.getElem?_set_ne h]
theorem getD_set_eq {l : List Int} {i : Nat} {x : Int} (h : i < l.length) : (l.set i x).getD i 0 = x := by simp [List.getD, h]

theorem fillL_keep (h : Nat) : ∀ (d k a : Nat), Lv h d k a → ∀ (o : List Int) (d' k' a' : Nat), Lv h d' k' a' → (a' + 2 ^ d' ≤ a ∨ a + 2 ^ d ≤ a' ∨ d < d' ∨ d' = 0) → (fillL d k o).getD k' 0 = o.getD k' 0
  | 0, k, a, l, o, d', k', a', l', hd => rfl
  | d + 1, k, a, l, o, d', k', a', l', hd => by
    have e : 2 ^ (d + 1) = 2 * 2 ^ d := by rw [Nat.pow_succ]; omega
    have hp : 1 ≤ 2 ^ d' := Nat.one_le_two_pow
    have hp2 : 1 ≤ 2 ^ d := Nat.one_le_two_pow
    have hne : k ≠ k' := by
      intro he
      subst he
      have hdd := l.inj l'
      subst hdd
      have : a = a' := by have := l.at_; have := l'.at_; omega
      omega
    simp only [fillL]
    rw [getD_set_ne hne, fillL_keep h d _ _ l.right _ d' k' a' l' (by omega), fillL_keep h d _ _ l.left _ d' k' a' l' (by omega)]

theorem fillL_val (h : Nat) (hh : h ≤ 7) (f : Nat → Int) (hf : ∀ k, -(2 ^ 51) ≤ f k ∧ f k ≤ 2 ^ 51) : ∀ (d k a : Nat), Lv h d k a → ∀ (o : List Int), o.length = 2 ^ (h + 1) - 1 → (∀ j, j < 2 ^ h → o.getD (2 ^ h - 1 + j) 0 = f j) →
    ∀ d' k' a', Lv h d' k' a' → d' ≤ d → a ≤ a' → a' + 2 ^ d' ≤ a + 2 ^ d → (fillL d k o).getD k' 0 = rsum f a' (2 ^ d')
  | 0, k, a, l, o, hl, ho, d', k', a', l', hd, h1, h2 => by
    have : d' = 0 := by omega
    subst this
    have q := l'.at_
    have q3 := l'.fit
    have hp : 1 ≤ 2 ^ h := Nat.one_le_two_pow
    simp only [Nat.pow_zero, Nat.mul_one] at *
    have e : k' = 2 ^ h - 1 + a' := by omega
    show o.getD k' 0 = rsum f a' 1
    rw [e, ho a' (by omega)]
    simp [rsum]
  | d + 1, k, a, l, o, hl, ho, d', k', a', l', hd, h1, h2 => by
    have e : 2 ^ (d + 1) = 2 * 2 ^ d := by rw [Nat.pow_succ]; omega
    have hp2 : 1 ≤ 2 ^ d := Nat.one_le_two_pow
    have hph : 1 ≤ 2 ^ h := Nat.one_le_two_pow
    have hkeep : ∀ j, j < 2 ^ h → (fillL d (2 * k + 1) o).getD (2 ^ h - 1 + j) 0 = f j := fun j hj => by
      rw [fillL_keep h d _ _ l.left o 0 (2 ^ h - 1 + j) j ⟨by omega, by simp; omega, by simp; omega⟩ (by omega)]
      exact ho j hj
    have vl := fillL_val h hh f hf d _ _ l.left o hl ho
    have vr := fillL_val h hh f hf d _ _ l.right (fillL d (2 * k + 1) o) (by rw [fillL_len]; exact hl) hkeep
    have hkb := l.bound
    have hlen : k < (fillL d (2 * k + 2) (fillL d (2 * k + 1) o)).length := by rw [fillL_len, fillL_len]; omega
    simp only [fillL]
    by_cases hdd : d' = d + 1
    · subst hdd
      have ha : a' = a := by omega
      subst ha
      have hk := l.same l'
      subst hk
      rw [getD_set_eq hlen, vl d _ _ l.left (Nat.le_refl _) (Nat.le_refl _) (Nat.le_refl _), vr d _ _ l.right (Nat.le_refl _) (Nat.le_refl _) (Nat.le_refl _), e, show 2 * 2 ^ d = 2 ^ d + 2 ^ d by omega, rsum_add]
      have hb1 := rsum_bound f (2 ^ 51) hf a' (2 ^ d)
      have hb2 := rsum_bound f (2 ^ 51) hf (a' + 2 ^ d) (2 ^ d)
      have hd7 : 2 ^ d ≤ 2 ^ 7 := Nat.pow_le_pow_right (by omega) (by have := l.le; omega)
      rw [wrap_i64 (by omega) (by omega)]
    · have hd2 : d' ≤ d := by omega
      have hne : k ≠ k' := by
        intro he
        subst he
        exact hdd (l.inj l').symm
      rw [getD_set_ne hne]
      rcases l.side l' hd2 with hs | hs
      · rw [fillL_keep h d _ _ l.right _ d' k' a' l' (.inl hs)]
        exact vl d' k' a' l' hd2 h1 hs
      · exact vr d' k' a' l' hd2 hs (by omega)

/-- the numbers that Nodes begins with -/
def leaves (h : Nat) (zs : List Int) : List Int := List.replicate (2 ^ h - 1) 0 ++ zs ++ List.replicate (2 ^ h - zs.length) 0
def nodesL (h : Nat) (zs : List Int) : List Int := fillL h 0 (leaves h zs)
theorem leaves_len (h : Nat) (zs : List Int) (hz : zs.length ≤ 2 ^ h) : (leaves h zs).length = 2 ^ (h + 1) - 1 := by
  have e : 2 ^ (h + 1) = 2 * 2 ^ h := by rw [Nat.pow_succ]; omega
  have hp : 1 ≤ 2 ^ h := Nat.one_le_two_pow
  simp [leaves]; omega
theorem leaves_at (h : Nat) (zs : List Int) (hz : zs.length ≤ 2 ^ h) (j : Nat) (hj : j < 2 ^ h) : (leaves h zs).getD (2 ^ h - 1 + j) 0 = zs.getD j 0 := by
  have e : (List.replicate (2 ^ h - 1) (0 : Int)).length = 2 ^ h - 1 := by simp
  unfold leaves
  simp only [List.getD]
  rw [List.append_assoc, List.getElem?_append_right (by simp), List.length_replicate, Nat.add_sub_cancel_left]
  by_cases hjz : j < zs.length
  · rw [List.getElem?_append_left hjz]
  · rw [List.getElem?_append_right (by omega), List.getElem?_eq_none (l := zs) (by omega), List.getElem?_replicate]
    split <;> rfl

theorem nodes_val (h : Nat) (hh : h ≤ 7) (zs : List Int) (hz : zs.length ≤ 2 ^ h) (hw : Within zs 1125899906842624) {d k a : Nat} (l : Lv h d k a) : (nodesL h zs).getD k 0 = rsum (fun j => zs.getD j 0) a (2 ^ d) := by
  have hp : 1 ≤ 2 ^ h := Nat.one_le_two_pow
  have hf : ∀ j, -(2 ^ 51) ≤ zs.getD j 0 ∧ zs.getD j 0 ≤ 2 ^ 51 := fun j => by
    by_cases hj : j < zs.length
    · have := (within_iff _ _).1 hw j hj; omega
    · simp [List.getD, List.getElem?_eq_none (Nat.le_of_not_lt hj)]
  exact fillL_val h hh _ hf h 0 0 ⟨Nat.le_refl _, by omega, by omega⟩ (leaves h zs) (leaves_len h zs hz) (leaves_at h zs hz) d k a l l.le (Nat.zero_le _) (by have := l.fit; omega)
theorem nodesL_len (h : Nat) (zs : List Int) (hz : zs.length ≤ 2 ^ h) : (nodesL h zs).length = 2 ^ (h + 1) - 1 := by
  unfold nodesL
  rw [fillL_len, leaves_len h zs hz]

theorem nodes_within (h : Nat) (hh : h ≤ 7) (zs : List Int) (hz : zs.length ≤ 2 ^ h) (hw : Within zs 1125899906842624) : Within (nodesL h zs) 288230376151711744 := by
  rw [within_iff]
  intro k hk
  rw [nodesL_len h zs hz] at hk
  obtain ⟨d, a, l⟩ := Lv.exists hk
  rw [nodes_val h hh zs hz hw l]
  have hf : ∀ j, -(2 ^ 51) ≤ zs.getD j 0 ∧ zs.getD j 0 ≤ 2 ^ 51 := fun j => by
    by_cases hj : j < zs.length
    · have := (within_iff _ _).1 hw j hj; omega
    · simp [List.getD, List.getElem?_eq_none (Nat.le_of_not_lt hj)]
  have hb := rsum_bound _ (2 ^ 51) hf a (2 ^ d)
  have hd7 : 2 ^ d ≤ 2 ^ 7 := Nat.pow_le_pow_right (by omega) (by have := l.le; omega)
  omega

theorem cov_sum (h : Nat) (L : List Int) (f : Nat → Int) (hL : ∀ d k a, Lv h d k a → L.getD k 0 = rsum f a (2 ^ d)) (i : Nat) : ∀ (d k a : Nat), Lv h d k a →
    ((cov d k a i).map fun x => L.getD x.toNat 0).sum = rsum f a (min (2 ^ d) (i - a))
  | 0, k, a, l => by
    simp only [cov]
    split
    · rename_i hi
      rw [show i - a = 0 by omega]; simp [rsum]
    · rename_i hi
      rw [show min (2 ^ 0) (i - a) = 2 ^ 0 by simp; omega, ← hL 0 k a l]
      simp
  | d + 1, k, a, l => by
    have e : 2 ^ (d + 1) = 2 * 2 ^ d := by rw [Nat.pow_succ]; omega
    simp only [cov]
    split
    · rename_i hi
      rw [show i - a = 0 by omega]; simp [rsum]
    · rename_i hi
      split
      · rename_i hi2
        rw [show min (2 ^ (d + 1)) (i - a) = 2 ^ (d + 1) by omega, ← hL (d + 1) k a l]
        simp
      · rename_i hi2
        rw [List.map_append, List.sum_append, cov_sum h L f hL i d _ _ l.left, cov_sum h L f hL i d _ _ l.right]
        by_cases hc : i - a ≤ 2 ^ d
        · rw [show min (2 ^ d) (i - (a + 2 ^ d)) = 0 by omega, show min (2 ^ d) (i - a) = i - a by omega, show min (2 ^ (d + 1)) (i - a) = i - a by omega]
          simp [rsum]
        · rw [show min (2 ^ d) (i - a) = 2 ^ d by omega, show min (2 ^ d) (i - (a + 2 ^ d)) = i - (a + 2 ^ d) by omega, show min (2 ^ (d + 1)) (i - a) = 2 ^ d + (i - (a + 2 ^ d)) by omega, rsum_add]
end Go.Proofs.Ytkomkiejakcilaa

namespace Go.Proofs.Ytkomkiejakcilaa
open Go.Ab
set_option maxRecDepth 100000
set_option linter.unusedSimpArgs false
set_option linter.unusedVariables false
theorem zv3' : zeroV env 3 = some (.int .i64 0) := by kernel_rfl
theorem zv22 : zeroV env 22 = some .nilsl := by kernel_rfl
theorem zv40 : zeroV env 40 = some .nilfn := by kernel_rfl
theorem s40 : sz env 40 = some 1 := by kernel_rfl
theorem cells_nilfn : V.nilfn.cells = [.nilfn] := rfl
theorem cells_func (f : FuncId) (a b : List V) : (V.func f a b).cells = [.func f a b] := rfl
theorem cells_hsl (b o l c : Nat) (e : Bool) : (V.hsl b o l c e).cells = [.hsl b o l c e] := rfl
theorem isCell_func (f : FuncId) (a b : List V) : (V.func f a b).isCell = true := rfl
theorem isCell_hsl (b o l c : Nat) (e : Bool) : (V.hsl b o l c e).isCell = true := rfl

theorem slice_out (h : Nat) : sliceO env 22 (.hsl 1 0 (2 ^ (h + 1) - 1) (2 ^ (h + 1) - 1) true) (some (.int .i64 (2 ^ h - 1))) none none = some (.hsl 1 (2 ^ h - 1) (2 ^ h) (2 ^ h) true) := by
  have hp : 1 ≤ 2 ^ h := Nat.one_le_two_pow
  have e2 : 2 ^ (h + 1) = 2 * 2 ^ h := by rw [Nat.pow_succ]; omega
  have hc := pow_cast h
  have e : (2 ^ h - 1 : Int) = ((2 ^ h - 1 : Nat) : Int) := by omega
  have c1 : 2 ^ h - 1 ≤ 2 ^ (h + 1) - 1 := by omega
  have c2 : ¬ 2 ^ h - 1 = 2 ^ (h + 1) - 1 := by omega
  have c3 : 2 ^ (h + 1) - 1 - (2 ^ h - 1) = 2 ^ h := by omega
  rw [e]
  simp [sliceO, u22, s3, vSlice, vBound, c1, c2, c3]

theorem copy_out (h : Nat) (zs : List Int) (h1 : 1 ≤ zs.length) (hz : zs.length ≤ 2 ^ h) (hp : List AObj) (ts : List Nat) (hb : hp[1]? = some (.cells (List.replicate (2 ^ (h + 1) - 1) (V.int .i64 0)) 3)) :
    copyO env ⟨hp, ts⟩ 22 (.hsl 1 (2 ^ h - 1) (2 ^ h) (2 ^ h) true) (rowI zs) = some (.int .i64 (zs.length : Nat), ⟨hp.set 1 (.cells ((leaves h zs).map (V.int .i64)) 3), ts⟩) := by
  have hpp : 1 ≤ 2 ^ h := Nat.one_le_two_pow
  have e2 : 2 ^ (h + 1) = 2 * 2 ^ h := by rw [Nat.pow_succ]; omega
  have hst : storeList (List.replicate (2 ^ (h + 1) - 1) (V.int .i64 0)) (2 ^ h - 1) (zs.map (V.int .i64)) = (leaves h zs).map (V.int .i64) := by
    have q1 : min (2 ^ h - 1) (2 ^ (h + 1) - 1) = 2 ^ h - 1 := by omega
    have q2 : 2 ^ (h + 1) - 1 - (2 ^ h - 1 + zs.length) = 2 ^ h - zs.length := by omega
    simp only [storeList, leaves, List.map_append, List.map_replicate, List.take_replicate, List.drop_replicate, List.length_map, q1, q2]
  have hm : min zs.length (2 ^ h) = zs.length := by omega
  have hne : ¬ zs.length = 0 := by omega
  have c1 : 2 ^ h - 1 + zs.length ≤ 2 ^ (h + 1) - 1 := by omega
  simp only [copyO, e22, s3, Option.bind_some, vLen, hm, hne, if_false, vCells, Nat.mul_one, List.length_map, Nat.le_refl, and_self, if_true, storeCellsV, hb, List.length_replicate, ints_cells, c1, List.take_of_length_le, hst, S.set, Option.map_some]

theorem seal_out (hp : List AObj) (zs : List Int) (hb : hp[1]? = some (.cells (zs.map (V.int .i64)) 3)) (x : Int) : sealV hp 12 (.tup [.hsl 1 0 zs.length zs.length true, .int .i64 x]) = some (.tup [rowI zs, .int .i64 x]) := by
  have h1 : sealV hp 11 (.hsl 1 0 zs.length zs.length true) = some (rowI zs) := by
    rw [sealV_hsl hp 10 1 0 zs.length zs.length true _ _ hb (Nat.le_refl _), List.drop_zero, mapM_seal_ints]
    rfl
  rw [sealV_tup, mapM_seal_cons, h1, mapM_seal_cons, sealV_int, mapM_seal_nil]
  rfl

set_option maxHeartbeats 2000000 in
theorem nodes_wp (zs : List Int) (h1 : 1 ≤ zs.length) (h2 : zs.length ≤ 128) (hw : Within zs 1125899906842624) (body : Code) (hbody : Try.f10.body = some body) :
    wpC env 10 none Try.f10.ntmps body (argT [rowI zs]) [] S.empty ⟨wpR env Try.f10.results.toList fun v' σ' => sealV σ'.heap sealDepth v' = some (.tup [rowI (nodesL (hgt zs.length) zs), .int .i64 0]), fun _ _ _ _ => False, wpR env Try.f10.results.toList fun v' σ' => sealV σ'.heap sealDepth v' = some (.tup [rowI (nodesL (hgt zs.length) zs), .int .i64 0])⟩ := by
  obtain rfl : _ = body := Option.some.inj hbody
  refine G_start ?_
  have hh := hgt_le zs.length
  have hpw := hgt_pow zs.length (by omega) (by omega)
  have hwc := (show InI (rowI zs) zs from .inl rfl).within (by omega) 1125899906842624 (.inr rfl)
  have hht := height_ok zs.length (by omega) (by omega)
  have c1 : ¬ ((zs.length : Nat) : Int) = 0 := by omega
  have c2 : ¬ 128 < ((zs.length : Nat) : Int) := by omega
  have hcast := pow_cast (hgt zs.length)
  generalize hgt zs.length = h at *
  have hp := pow_le h hh
  have e2 : 2 ^ (h + 1) = 2 * 2 ^ h := by rw [Nat.pow_succ]; omega
  have hcast1 := pow_cast (h + 1)
  have e1 : IntKind.i64.wrap ((h : Int) + 1) = ((h + 1 : Nat) : Int) := by rw [wrap_i64 (by omega) (by omega)]; omega
  have e3 : (2 ^ (h + 1) - 1 : Int) = ((2 ^ (h + 1) - 1 : Nat) : Int) := by omega
  have hmk := fun σ => (make_one (E := env) (σ := σ) one22 zv3' rfl (2 ^ (h + 1) - 1) (by omega) (by omega)).resolve_right (by omega)
  have hzl : zs.length ≤ 2 ^ h := by omega
  have hcp := copy_out h zs h1 hzl
  have hcp' := hcp [.cells [.int .i64 h] 3, .cells (List.replicate (2 ^ (h + 1) - 1) (V.int .i64 0)) 3, .cells [.hsl 1 0 (2 ^ (h + 1) - 1) (2 ^ (h + 1) - 1) true] 22] [] rfl
  have hfill := fill_call h hh 0 3 2 1 (by omega) (by omega) (by omega) h 0 0 (Nat.le_refl _) (by omega) (by omega) (leaves h zs)
    ⟨[.cells [.int .i64 h] 3, .cells ((leaves h zs).map (V.int .i64)) 3, .cells [.hsl 1 0 (2 ^ (h + 1) - 1) (2 ^ (h + 1) - 1) true] 22, .cells [.func 26 [] [.ptr 0 0, .ptr 3 0, .ptr 2 0]] 40], []⟩ (leaves_len h zs hzl) rfl rfl rfl rfl
  simp only [Int.natCast_zero] at hfill
  simp only [Try.f10, G_seq, G_block, G_skip_code, G_skip_blk, G_skip_nil, G_exit_code, G_exit_blk, G_exit_nil, G_ret_code, G_ret_blk, G_ret_nil, G_cond, G_cond_const, G_loop, G_region, G_draw, GL_nil, GL_op, GL_none, GL_guard, GS_some, GS_ite, GS_nite, GN_some, GN_ite, GN_nite, GB_true, GB_false, GB_dec, GG_true_true, GG_true_false, GG_false_true, GG_false_false, GG_true_dec, GG_false_dec, opT_move, opT_assign, opT_pick, pickO_true, pickO_false, opT_binOp, binO_some, opT_unOp, opT_extract, extrO_tup, opT_indexAddr, idxO_slice, opT_load, opT_call, opT_len, opT_append, opT_convert, convO_int, callV_func, evalT, upd_at, Nat.reduceLT, Nat.reduceEqDiff, if_true, if_false, reduceIte, true_and, map_mk, bind_mk, map_ite', map_nite, bind_ite', bind_nite, vBin_add, vBin_sub, vBin_mul, vBin_eql, vBin_neq, vBin_lss, vBin_leq, vBin_gtr, vBin_geq, vBin_rem, vBin_quo, vBin_beql, vBin_bneq, vUn_not, vUn_true, vUn_false, index_row, len_row, len_nilsl, listO_nil, listO_cons, ofVal, ofCell, argT, List.getD_cons_zero, List.getD_cons_succ, List.getElem?_toArray, List.getElem?_cons_zero, List.getElem?_cons_succ, List.nil_append, List.cons_append, List.append_nil, resT, wpR_nil, V1_some, Nat.mul_one, load_row, load_ptr, cellAt_some, opT_store, store_ptr, storeAt_some, cells_row, isCell_row, cells_nilsl, push_mk, set_mk, setT, vUn_neg, opT_max, opT_min, max_two, min_two, List.append_eq, opT_makeFunc, opT_fieldAddr, opT_build, partsO_nil, partsO_cons, faddr_ptr, faddr_rptr, cells_agg, push_last, Nat.add_zero, opT_box, opT_alloc, ints_get, post_norm, post_exit, post_ret, Int.toNat_natCast, Bool.false_eq_true, Int.reduceEq, Int.reduceLT, Int.reduceLE, Int.reduceNeg, not_false_eq_true, and_self, map_nothing, bind_nothing, Int.natCast_one, Int.cast_ofNat_Int, not_true_eq_false, decide_true, decide_false, true_implies, false_implies, Int.toNat_zero, List.length_cons, List.length_nil, Nat.zero_add, mb, Nat.reduceBEq, Bool.false_and, Bool.and_false, cells_int, tys, stb, GK_nil, GK_op, GKS_some, GKS_none, GKS_ite, GKS_nite, Bool.or_false, Bool.false_or, Bool.true_and, Bool.or_true, Bool.true_or, hcp', hfill, c1, c2, hwc, hw, hht, zv3', zv22, zv40, s40, ld22, ld40, empty_mk, isCell_int, cells_nilfn, cells_func, cells_hsl, isCell_func, isCell_hsl, e1, leaf_call (h + 1) (by omega), leaf_call h (by omega), e3, opT_makeSlice, hmk, opT_slice, optO_none, optO_some, slice_out, opT_copy, List.all_cons, List.all_nil, Bool.and_true, List.set_cons_zero, List.set_cons_succ, store1, Nat.le_refl]
  refine ⟨by kernel_rfl, ?_⟩
  have hlen : (nodesL h zs).length = 2 ^ (h + 1) - 1 := nodesL_len h zs hzl
  have hs := seal_out [.cells [.int .i64 h] 3, .cells ((nodesL h zs).map (V.int .i64)) 3, .cells [.hsl 1 0 (2 ^ (h + 1) - 1) (2 ^ (h + 1) - 1) true] 22, .cells [.func 26 [] [.ptr 0 0, .ptr 3 0, .ptr 2 0]] 40] (nodesL h zs) rfl 0
  rw [hlen] at hs
  unfold nodesL at hs ⊢
  simp only [oneOr, sealDepth]
  exact hs

/-- what Nodes returns -/
def nodesV (zs : List Int) : V :=
  if zs.length = 0 then .tup [.nilsl, .int .i64 2] else if 128 < zs.length then .tup [.nilsl, .int .i64 4]
  else if Within zs 1125899906842624 then .tup [rowI (nodesL (hgt zs.length) zs), .int .i64 0] else .tup [.nilsl, .int .i64 2]

set_option maxHeartbeats 2000000 in
theorem nodes_all {v : V} {zs : List Int} (hv : InI v zs) (hl : zs.length ≤ 2 ^ 20) (body : Code) (hbody : Try.f10.body = some body) :
    wpC env 10 none Try.f10.ntmps body (argT [v]) [] S.empty ⟨wpR env Try.f10.results.toList fun v' σ' => sealV σ'.heap sealDepth v' = some (nodesV zs), fun _ _ _ _ => False, wpR env Try.f10.results.toList fun v' σ' => sealV σ'.heap sealDepth v' = some (nodesV zs)⟩ := by
  by_cases h0 : zs.length = 0
  · have e : nodesV zs = .tup [.nilsl, .int .i64 2] := by simp only [nodesV, h0, if_true]
    have c : ((zs.length : Nat) : Int) = 0 := by omega
    have hlen := hv.len 3
    obtain rfl : _ = body := Option.some.inj hbody
    refine G_start ?_
    simp only [Try.f10, G_seq, G_block, G_skip_code, G_skip_blk, G_skip_nil, G_exit_code, G_exit_blk, G_exit_nil, G_ret_code, G_ret_blk, G_ret_nil, G_cond, G_cond_const, G_loop, G_region, G_draw, GL_nil, GL_op, GL_none, GL_guard, GS_some, GS_ite, GS_nite, GN_some, GN_ite, GN_nite, GB_true, GB_false, GB_dec, GG_true_true, GG_true_false, GG_false_true, GG_false_false, GG_true_dec, GG_false_dec, opT_move, opT_assign, opT_pick, pickO_true, pickO_false, opT_binOp, binO_some, opT_unOp, opT_extract, extrO_tup, opT_indexAddr, idxO_slice, opT_load, opT_call, opT_len, opT_append, opT_convert, convO_int, callV_func, evalT, upd_at, Nat.reduceLT, Nat.reduceEqDiff, if_true, if_false, reduceIte, true_and, map_mk, bind_mk, map_ite', map_nite, bind_ite', bind_nite, vBin_add, vBin_sub, vBin_mul, vBin_eql, vBin_neq, vBin_lss, vBin_leq, vBin_gtr, vBin_geq, vBin_rem, vBin_quo, vBin_beql, vBin_bneq, vUn_not, vUn_true, vUn_false, index_row, len_row, len_nilsl, listO_nil, listO_cons, ofVal, ofCell, argT, List.getD_cons_zero, List.getD_cons_succ, List.getElem?_toArray, List.getElem?_cons_zero, List.getElem?_cons_succ, List.nil_append, List.cons_append, List.append_nil, resT, wpR_nil, V1_some, Nat.mul_one, load_row, load_ptr, cellAt_some, opT_store, store_ptr, storeAt_some, cells_row, isCell_row, cells_nilsl, push_mk, set_mk, setT, vUn_neg, opT_max, opT_min, max_two, min_two, List.append_eq, opT_makeFunc, opT_fieldAddr, opT_build, partsO_nil, partsO_cons, faddr_ptr, faddr_rptr, cells_agg, push_last, Nat.add_zero, opT_box, opT_alloc, ints_get, post_norm, post_exit, post_ret, Int.toNat_natCast, Bool.false_eq_true, Int.reduceEq, Int.reduceLT, Int.reduceLE, Int.reduceNeg, not_false_eq_true, and_self, map_nothing, bind_nothing, Int.natCast_one, Int.cast_ofNat_Int, not_true_eq_false, decide_true, decide_false, true_implies, false_implies, Int.toNat_zero, List.length_cons, List.length_nil, Nat.zero_add, mb, Nat.reduceBEq, Bool.false_and, Bool.and_false, cells_int, tys, stb, GK_nil, GK_op, GKS_some, GKS_none, GKS_ite, GKS_nite, Bool.or_false, Bool.false_or, Bool.true_and, Bool.or_true, Bool.true_or, hlen, c, e]
    rfl
  · have c0 : ¬ ((zs.length : Nat) : Int) = 0 := by omega
    have hvr : v = rowI zs := by
      rcases hv with h | ⟨_, h⟩
      · exact h
      · rw [h] at h0; simp at h0
    subst hvr
    by_cases h1 : 128 < zs.length
    · have e : nodesV zs = .tup [.nilsl, .int .i64 4] := by simp only [nodesV, h0, if_false, h1, if_true]
      have c : 128 < ((zs.length : Nat) : Int) := by omega
      obtain rfl : _ = body := Option.some.inj hbody
      refine G_start ?_
      simp only [Try.f10, G_seq, G_block, G_skip_code, G_skip_blk, G_skip_nil, G_exit_code, G_exit_blk, G_exit_nil, G_ret_code, G_ret_blk, G_ret_nil, G_cond, G_cond_const, G_loop, G_region, G_draw, GL_nil, GL_op, GL_none, GL_guard, GS_some, GS_ite, GS_nite, GN_some, GN_ite, GN_nite, GB_true, GB_false, GB_dec, GG_true_true, GG_true_false, GG_false_true, GG_false_false, GG_true_dec, GG_false_dec, opT_move, opT_assign, opT_pick, pickO_true, pickO_false, opT_binOp, binO_some, opT_unOp, opT_extract, extrO_tup, opT_indexAddr, idxO_slice, opT_load, opT_call, opT_len, opT_append, opT_convert, convO_int, callV_func, evalT, upd_at, Nat.reduceLT, Nat.reduceEqDiff, if_true, if_false, reduceIte, true_and, map_mk, bind_mk, map_ite', map_nite, bind_ite', bind_nite, vBin_add, vBin_sub, vBin_mul, vBin_eql, vBin_neq, vBin_lss, vBin_leq, vBin_gtr, vBin_geq, vBin_rem, vBin_quo, vBin_beql, vBin_bneq, vUn_not, vUn_true, vUn_false, index_row, len_row, len_nilsl, listO_nil, listO_cons, ofVal, ofCell, argT, List.getD_cons_zero, List.getD_cons_succ, List.getElem?_toArray, List.getElem?_cons_zero, List.getElem?_cons_succ, List.nil_append, List.cons_append, List.append_nil, resT, wpR_nil, V1_some, Nat.mul_one, load_row, load_ptr, cellAt_some, opT_store, store_ptr, storeAt_some, cells_row, isCell_row, cells_nilsl, push_mk, set_mk, setT, vUn_neg, opT_max, opT_min, max_two, min_two, List.append_eq, opT_makeFunc, opT_fieldAddr, opT_build, partsO_nil, partsO_cons, faddr_ptr, faddr_rptr, cells_agg, push_last, Nat.add_zero, opT_box, opT_alloc, ints_get, post_norm, post_exit, post_ret, Int.toNat_natCast, Bool.false_eq_true, Int.reduceEq, Int.reduceLT, Int.reduceLE, Int.reduceNeg, not_false_eq_true, and_self, map_nothing, bind_nothing, Int.natCast_one, Int.cast_ofNat_Int, not_true_eq_false, decide_true, decide_false, true_implies, false_implies, Int.toNat_zero, List.length_cons, List.length_nil, Nat.zero_add, mb, Nat.reduceBEq, Bool.false_and, Bool.and_false, cells_int, tys, stb, GK_nil, GK_op, GKS_some, GKS_none, GKS_ite, GKS_nite, Bool.or_false, Bool.false_or, Bool.true_and, Bool.or_true, Bool.true_or, c0, c, e]
      rfl
    · have c1 : ¬ 128 < ((zs.length : Nat) : Int) := by omega
      by_cases hw : Within zs 1125899906842624
      · have e : nodesV zs = .tup [rowI (nodesL (hgt zs.length) zs), .int .i64 0] := by simp only [nodesV, h0, if_false, h1, hw, if_true]
        rw [e]
        exact nodes_wp zs (by omega) (by omega) hw body hbody
      · have e : nodesV zs = .tup [.nilsl, .int .i64 2] := by simp only [nodesV, h0, if_false, h1, hw]
        have hwc := (show InI (rowI zs) zs from .inl rfl).within (by omega) 1125899906842624 (.inr rfl)
        obtain rfl : _ = body := Option.some.inj hbody
        refine G_start ?_
        simp only [Try.f10, G_seq, G_block, G_skip_code, G_skip_blk, G_skip_nil, G_exit_code, G_exit_blk, G_exit_nil, G_ret_code, G_ret_blk, G_ret_nil, G_cond, G_cond_const, G_loop, G_region, G_draw, GL_nil, GL_op, GL_none, GL_guard, GS_some, GS_ite, GS_nite, GN_some, GN_ite, GN_nite, GB_true, GB_false, GB_dec, GG_true_true, GG_true_false, GG_false_true, GG_false_false, GG_true_dec, GG_false_dec, opT_move, opT_assign, opT_pick, pickO_true, pickO_false, opT_binOp, binO_some, opT_unOp, opT_extract, extrO_tup, opT_indexAddr, idxO_slice, opT_load, opT_call, opT_len, opT_append, opT_convert, convO_int, callV_func, evalT, upd_at, Nat.reduceLT, Nat.reduceEqDiff, if_true, if_false, reduceIte, true_and, map_mk, bind_mk, map_ite', map_nite, bind_ite', bind_nite, vBin_add, vBin_sub, vBin_mul, vBin_eql, vBin_neq, vBin_lss, vBin_leq, vBin_gtr, vBin_geq, vBin_rem, vBin_quo, vBin_beql, vBin_bneq, vUn_not, vUn_true, vUn_false, index_row, len_row, len_nilsl, listO_nil, listO_cons, ofVal, ofCell, argT, List.getD_cons_zero, List.getD_cons_succ, List.getElem?_toArray, List.getElem?_cons_zero, List.getElem?_cons_succ, List.nil_append, List.cons_append, List.append_nil, resT, wpR_nil, V1_some, Nat.mul_one, load_row, load_ptr, cellAt_some, opT_store, store_ptr, storeAt_some, cells_row, isCell_row, cells_nilsl, push_mk, set_mk, setT, vUn_neg, opT_max, opT_min, max_two, min_two, List.append_eq, opT_makeFunc, opT_fieldAddr, opT_build, partsO_nil, partsO_cons, faddr_ptr, faddr_rptr, cells_agg, push_last, Nat.add_zero, opT_box, opT_alloc, ints_get, post_norm, post_exit, post_ret, Int.toNat_natCast, Bool.false_eq_true, Int.reduceEq, Int.reduceLT, Int.reduceLE, Int.reduceNeg, not_false_eq_true, and_self, map_nothing, bind_nothing, Int.natCast_one, Int.cast_ofNat_Int, not_true_eq_false, decide_true, decide_false, true_implies, false_implies, Int.toNat_zero, List.length_cons, List.length_nil, Nat.zero_add, mb, Nat.reduceBEq, Bool.false_and, Bool.and_false, cells_int, tys, stb, GK_nil, GK_op, GKS_some, GKS_none, GKS_ite, GKS_nite, Bool.or_false, Bool.false_or, Bool.true_and, Bool.or_true, Bool.true_or, c0, c1, hwc, hw, e]
        rfl
end Go.Proofs.Ytkomkiejakcilaa

namespace Go.Proofs.Ytkomkiejakcilaa
open Go.Ab
set_option maxRecDepth 100000
set_option linter.unusedSimpArgs false
set_option linter.unusedVariables false
theorem at5 : env.P.funcs[5]? = some Try.f5 := by kernel_rfl
theorem u4 : env.P.underlying 4 = some .bool := by kernel_rfl
theorem weakL_ints (k : IntKind) : ∀ zs : List Int, V.weak.weakL (zs.map (V.int k)) = zs.map (V.int k)
  | [] => rfl
  | z :: zs => by simp only [List.map_cons, V.weak.weakL, V.weak, weakL_ints k zs]
theorem all_ints (zs : List Int) : (zs.map (V.int .i64)).all V.closed = true := by
  rw [← closedL_all]; exact ints_closed _ _

theorem bs0m {T : Tm} {σ : S} : opT env true T σ (.buildSlice 22 0 #[]) = some (.hsl σ.heap.length 0 0 0 true, σ.push (.cells [] 3)) := by
  unfold opT
  simp [apure, aread, astate, partsO, e22, s3, vFill]
theorem app_own (xs : List Int) (h1 : 1 ≤ xs.length) (h2 : xs.length ≤ 128) : appO env true ⟨[.cells [] 3], []⟩ 22 22 (.hsl 0 0 0 0 true) (rowI xs) = some (.hsl 1 0 xs.length xs.length false, ⟨[.cells [] 3, .cells (xs.map (V.int .i64)) 3], []⟩) := by
  have c1 : ¬ xs.length = 0 := by omega
  have c2 : xs.length * 8 ≤ lim ∧ xs.length ≤ lim := by simp [lim]; omega
  simp [appO, e22, s3, b3, u22, z3, vLen, vCells, aappend, c1, c2, S.push, List.take_of_length_le]
theorem own2 (xs : List Int) (h1 : 1 ≤ xs.length) (h2 : xs.length ≤ 128) : callFn env (ev env) 13 [rowI xs] S.empty = some (.hsl 1 0 xs.length xs.length false, ⟨[.cells [] 3, .cells (xs.map (V.int .i64)) 3], []⟩) := by
  refine callFn_eq rfl rfl at13 rfl (by simp [Try.f13]) (by simp [Try.f13]) ?_
  have ha := app_own xs h1 h2
  simp only [Try.f13, G_seq, G_block, G_skip_code, G_skip_blk, G_skip_nil, G_exit_code, G_exit_blk, G_exit_nil, G_ret_code, G_ret_blk, G_ret_nil, G_cond, G_cond_const, G_loop, G_region, G_draw, GL_nil, GL_op, GL_none, GL_guard, GS_some, GS_ite, GS_nite, GN_some, GN_ite, GN_nite, GB_true, GB_false, GB_dec, GG_true_true, GG_true_false, GG_false_true, GG_false_false, GG_true_dec, GG_false_dec, opT_move, opT_assign, opT_pick, pickO_true, pickO_false, opT_binOp, binO_some, opT_unOp, opT_extract, extrO_tup, opT_indexAddr, idxO_slice, opT_load, opT_call, opT_len, opT_append, opT_convert, convO_int, callV_func, evalT, upd_at, Nat.reduceLT, Nat.reduceEqDiff, if_true, if_false, reduceIte, true_and, map_mk, bind_mk, map_ite', map_nite, bind_ite', bind_nite, vBin_add, vBin_sub, vBin_mul, vBin_eql, vBin_neq, vBin_lss, vBin_leq, vBin_gtr, vBin_geq, vBin_rem, vBin_quo, vBin_beql, vBin_bneq, vUn_not, vUn_true, vUn_false, index_row, len_row, len_nilsl, listO_nil, listO_cons, ofVal, ofCell, argT, List.getD_cons_zero, List.getD_cons_succ, List.getElem?_toArray, List.getElem?_cons_zero, List.getElem?_cons_succ, List.nil_append, List.cons_append, List.append_nil, resT, wpR_nil, V1_some, Nat.mul_one, load_row, load_ptr, cellAt_some, opT_store, store_ptr, storeAt_some, cells_row, isCell_row, cells_nilsl, push_mk, set_mk, setT, vUn_neg, opT_max, opT_min, max_two, min_two, List.append_eq, opT_makeFunc, opT_fieldAddr, opT_build, partsO_nil, partsO_cons, faddr_ptr, faddr_rptr, cells_agg, push_last, Nat.add_zero, opT_box, opT_alloc, ints_get, post_norm, post_exit, post_ret, Int.toNat_natCast, Bool.false_eq_true, Int.reduceEq, Int.reduceLT, Int.reduceLE, Int.reduceNeg, not_false_eq_true, and_self, map_nothing, bind_nothing, Int.natCast_one, Int.cast_ofNat_Int, not_true_eq_false, decide_true, decide_false, true_implies, false_implies, Int.toNat_zero, List.length_cons, List.length_nil, Nat.zero_add, mb, Nat.reduceBEq, Bool.false_and, Bool.and_false, cells_int, tys, stb, GK_nil, GK_op, GKS_some, GKS_none, GKS_ite, GKS_nite, Bool.or_false, Bool.false_or, Bool.true_and, Bool.or_true, Bool.true_or, mb, bs0m, empty_mk, ha]
  exact ⟨rfl, trivial⟩
theorem nodes_row (xs : List Int) (hl : xs.length ≤ 2 ^ 20) (σ : S) : callFn env (ev env) 10 [rowI xs] σ = some (nodesV xs, σ) := by
  refine callFn_frz (args' := [rowI xs]) rfl rfl rfl ?_ at10 rfl (by simp [Try.f10]) (by simp [Try.f10]) (nodes_all (.inl rfl) hl _ rfl)
  simp only [freezeL, freezeA, V.weak, RCap.weak, weakL_ints, closed_ints, if_true, Option.map_some]
theorem nodes_hsl (os : List Int) (hl : os.length ≤ 2 ^ 20) : callFn env (ev env) 10 [.hsl 1 0 os.length os.length false] ⟨[.cells [] 3, .cells (os.map (V.int .i64)) 3], []⟩ = some (nodesV os, ⟨[.cells [] 3, .ro (os.map (V.int .i64)) 3], []⟩) := by
  refine callFn_frz (args' := [rowI os]) rfl rfl rfl ?_ at10 rfl (by simp [Try.f10]) (by simp [Try.f10]) (nodes_all (.inl rfl) hl _ rfl)
  simp only [freezeL, freezeA, List.getElem?_cons_succ, List.getElem?_cons_zero, weakL_ints, all_ints, Nat.le_refl, and_self, if_true, List.drop_zero, S.set, List.set_cons_succ, List.set_cons_zero, Option.map_some]

theorem nodesV_form (zs : List Int) : ∃ x e, nodesV zs = .tup [x, .int .i64 e] := by
  unfold nodesV
  split
  · exact ⟨_, _, rfl⟩
  · split
    · exact ⟨_, _, rfl⟩
    · split <;> exact ⟨_, _, rfl⟩

noncomputable abbrev Q5 : Post := ⟨wpR env Try.f5.results.toList fun v _ => v = .bool true, fun _ _ _ _ => False, wpR env Try.f5.results.toList fun v _ => v = .bool true⟩

set_option maxHeartbeats 1000000 in
theorem change_s1 {v : V} {xs : List Int} (hv : InI v xs) (wh b : Int)
    (h : ∀ (w : Nat) (by' : Int), 1 ≤ xs.length → xs.length ≤ 128 → w < xs.length → -1000000 < by' → by' < 1000000 → ∀ T σ, T 0 = rowI xs → T 2 = .int .i64 by' → ∀ x1 e1 x2 e2, nodesV xs = .tup [x1, .int .i64 e1] → nodesV (xs.set w (IntKind.i64.wrap (xs.getD w 0 + by'))) = .tup [x2, .int .i64 e2] →
      T 8 = x1 → T 9 = .int .i64 e1 → T 10 = x2 → T 11 = .int .i64 e2 → T 12 = rowI (pathL (hgt xs.length) w) → T 13 = .int .i64 0 →
      G env 5 none Try.f5.ntmps Q5 [] (dropC 9 (bodyOf Try.f5)) T [] σ) :
    G env 5 none Try.f5.ntmps Q5 [] (bodyOf Try.f5) (argT [v, .int .i64 wh, .int .i64 b]) [] S.empty := by
  rw [G_cut 9]
  generalize (dropC 9 (bodyOf Try.f5)) = R at *
  have hlv := hv.len 3
  by_cases h0 : ((xs.length : Nat) : Int) = 0
  · simp only [bodyOf, Try.f5, Option.getD_some, takeC, G_seq, G_block, G_skip_code, G_skip_blk, G_skip_nil, G_exit_code, G_exit_blk, G_exit_nil, G_ret_code, G_ret_blk, G_ret_nil, G_cond, G_cond_const, G_loop, G_region, G_draw, GL_nil, GL_op, GL_none, GL_guard, GS_some, GS_ite, GS_nite, GN_some, GN_ite, GN_nite, GB_true, GB_false, GB_dec, GG_true_true, GG_true_false, GG_false_true, GG_false_false, GG_true_dec, GG_false_dec, opT_move, opT_assign, opT_pick, pickO_true, pickO_false, opT_binOp, binO_some, opT_unOp, opT_extract, extrO_tup, opT_indexAddr, idxO_slice, opT_load, opT_call, opT_len, opT_append, opT_convert, convO_int, callV_func, evalT, upd_at, Nat.reduceLT, Nat.reduceEqDiff, if_true, if_false, reduceIte, true_and, map_mk, bind_mk, map_ite', map_nite, bind_ite', bind_nite, vBin_add, vBin_sub, vBin_mul, vBin_eql, vBin_neq, vBin_lss, vBin_leq, vBin_gtr, vBin_geq, vBin_rem, vBin_quo, vBin_beql, vBin_bneq, vUn_not, vUn_true, vUn_false, index_row, len_row, len_nilsl, listO_nil, listO_cons, ofVal, ofCell, argT, List.getD_cons_zero, List.getD_cons_succ, List.getElem?_toArray, List.getElem?_cons_zero, List.getElem?_cons_succ, List.nil_append, List.cons_append, List.append_nil, resT, wpR_nil, V1_some, Nat.mul_one, load_row, load_ptr, cellAt_some, opT_store, store_ptr, storeAt_some, cells_row, isCell_row, cells_nilsl, push_mk, set_mk, setT, vUn_neg, opT_max, opT_min, max_two, min_two, List.append_eq, opT_makeFunc, opT_fieldAddr, opT_build, partsO_nil, partsO_cons, faddr_ptr, faddr_rptr, cells_agg, push_last, Nat.add_zero, opT_box, opT_alloc, ints_get, post_norm, post_exit, post_ret, Int.toNat_natCast, Bool.false_eq_true, Int.reduceEq, Int.reduceLT, Int.reduceLE, Int.reduceNeg, not_false_eq_true, and_self, map_nothing, bind_nothing, Int.natCast_one, Int.cast_ofNat_Int, not_true_eq_false, decide_true, decide_false, true_implies, false_implies, Int.toNat_zero, List.length_cons, List.length_nil, Nat.zero_add, mb, Nat.reduceBEq, Bool.false_and, Bool.and_false, cells_int, tys, stb, GK_nil, GK_op, GKS_some, GKS_none, GKS_ite, GKS_nite, Bool.or_false, Bool.false_or, Bool.true_and, Bool.or_true, Bool.true_or, lives_call, hlv, h0]
    rfl
  by_cases h1 : 128 < ((xs.length : Nat) : Int)
  · simp only [bodyOf, Try.f5, Option.getD_some, takeC, G_seq, G_block, G_skip_code, G_skip_blk, G_skip_nil, G_exit_code, G_exit_blk, G_exit_nil, G_ret_code, G_ret_blk, G_ret_nil, G_cond, G_cond_const, G_loop, G_region, G_draw, GL_nil, GL_op, GL_none, GL_guard, GS_some, GS_ite, GS_nite, GN_some, GN_ite, GN_nite, GB_true, GB_false, GB_dec, GG_true_true, GG_true_false, GG_false_true, GG_false_false, GG_true_dec, GG_false_dec, opT_move, opT_assign, opT_pick, pickO_true, pickO_false, opT_binOp, binO_some, opT_unOp, opT_extract, extrO_tup, opT_indexAddr, idxO_slice, opT_load, opT_call, opT_len, opT_append, opT_convert, convO_int, callV_func, evalT, upd_at, Nat.reduceLT, Nat.reduceEqDiff, if_true, if_false, reduceIte, true_and, map_mk, bind_mk, map_ite', map_nite, bind_ite', bind_nite, vBin_add, vBin_sub, vBin_mul, vBin_eql, vBin_neq, vBin_lss, vBin_leq, vBin_gtr, vBin_geq, vBin_rem, vBin_quo, vBin_beql, vBin_bneq, vUn_not, vUn_true, vUn_false, index_row, len_row, len_nilsl, listO_nil, listO_cons, ofVal, ofCell, argT, List.getD_cons_zero, List.getD_cons_succ, List.getElem?_toArray, List.getElem?_cons_zero, List.getElem?_cons_succ, List.nil_append, List.cons_append, List.append_nil, resT, wpR_nil, V1_some, Nat.mul_one, load_row, load_ptr, cellAt_some, opT_store, store_ptr, storeAt_some, cells_row, isCell_row, cells_nilsl, push_mk, set_mk, setT, vUn_neg, opT_max, opT_min, max_two, min_two, List.append_eq, opT_makeFunc, opT_fieldAddr, opT_build, partsO_nil, partsO_cons, faddr_ptr, faddr_rptr, cells_agg, push_last, Nat.add_zero, opT_box, opT_alloc, ints_get, post_norm, post_exit, post_ret, Int.toNat_natCast, Bool.false_eq_true, Int.reduceEq, Int.reduceLT, Int.reduceLE, Int.reduceNeg, not_false_eq_true, and_self, map_nothing, bind_nothing, Int.natCast_one, Int.cast_ofNat_Int, not_true_eq_false, decide_true, decide_false, true_implies, false_implies, Int.toNat_zero, List.length_cons, List.length_nil, Nat.zero_add, mb, Nat.reduceBEq, Bool.false_and, Bool.and_false, cells_int, tys, stb, GK_nil, GK_op, GKS_some, GKS_none, GKS_ite, GKS_nite, Bool.or_false, Bool.false_or, Bool.true_and, Bool.or_true, Bool.true_or, lives_call, hlv, h0, h1]
    rfl
  have hvr : v = rowI xs := by
    rcases hv with h | ⟨_, h⟩
    · exact h
    · rw [h] at h0; simp at h0
  subst hvr
  have hpk := pick_call wh xs.length (by omega) (by omega)
  have hm1 := Int.emod_nonneg wh (show ((xs.length : Nat) : Int) ≠ 0 by omega)
  have hm2 := Int.emod_lt_of_pos wh (show (0 : Int) < ((xs.length : Nat) : Int) by omega)
  obtain ⟨w, hw⟩ : ∃ w : Nat, wh % (xs.length : Int) = w := ⟨(wh % (xs.length : Int)).toNat, by omega⟩
  rw [hw] at hpk hm2
  have hb1 := Int.tmod_lt_of_pos b (show (0 : Int) < 1000000 by omega)
  have hb2 := Int.lt_tmod_of_pos b (show (0 : Int) < 1000000 by omega)
  have hown := own2 xs (by omega) (by omega)
  have hn1 := nodes_row xs (by omega)
  have hwl : w < xs.length := by omega
  have hn2 := nodes_hsl (xs.set w (IntKind.i64.wrap (xs.getD w 0 + b.tmod 1000000))) (by simp; omega)
  rw [List.length_set] at hn2
  have hpt := path_ok xs.length (by omega) (by omega) w (by omega)
  have hms := map_set xs w (IntKind.i64.wrap (xs.getD w 0 + b.tmod 1000000)) hwl
  have f1 := nodesV_form xs
  have f2 := nodesV_form (xs.set w (IntKind.i64.wrap (xs.getD w 0 + b.tmod 1000000)))
  obtain ⟨x1, e1, q1⟩ := f1
  obtain ⟨x2, e2, q2⟩ := f2
  simp only [bodyOf, Try.f5, Option.getD_some, takeC, G_seq, G_block, G_skip_code, G_skip_blk, G_skip_nil, G_exit_code, G_exit_blk, G_exit_nil, G_ret_code, G_ret_blk, G_ret_nil, G_cond, G_cond_const, G_loop, G_region, G_draw, GL_nil, GL_op, GL_none, GL_guard, GS_some, GS_ite, GS_nite, GN_some, GN_ite, GN_nite, GB_true, GB_false, GB_dec, GG_true_true, GG_true_false, GG_false_true, GG_false_false, GG_true_dec, GG_false_dec, opT_move, opT_assign, opT_pick, pickO_true, pickO_false, opT_binOp, binO_some, opT_unOp, opT_extract, extrO_tup, opT_indexAddr, idxO_slice, opT_load, opT_call, opT_len, opT_append, opT_convert, convO_int, callV_func, evalT, upd_at, Nat.reduceLT, Nat.reduceEqDiff, if_true, if_false, reduceIte, true_and, map_mk, bind_mk, map_ite', map_nite, bind_ite', bind_nite, vBin_add, vBin_sub, vBin_mul, vBin_eql, vBin_neq, vBin_lss, vBin_leq, vBin_gtr, vBin_geq, vBin_rem, vBin_quo, vBin_beql, vBin_bneq, vUn_not, vUn_true, vUn_false, index_row, len_row, len_nilsl, listO_nil, listO_cons, ofVal, ofCell, argT, List.getD_cons_zero, List.getD_cons_succ, List.getElem?_toArray, List.getElem?_cons_zero, List.getElem?_cons_succ, List.nil_append, List.cons_append, List.append_nil, resT, wpR_nil, V1_some, Nat.mul_one, load_row, load_ptr, cellAt_some, opT_store, store_ptr, storeAt_some, cells_row, isCell_row, cells_nilsl, push_mk, set_mk, setT, vUn_neg, opT_max, opT_min, max_two, min_two, List.append_eq, opT_makeFunc, opT_fieldAddr, opT_build, partsO_nil, partsO_cons, faddr_ptr, faddr_rptr, cells_agg, push_last, Nat.add_zero, opT_box, opT_alloc, ints_get, post_norm, post_exit, post_ret, Int.toNat_natCast, Bool.false_eq_true, Int.reduceEq, Int.reduceLT, Int.reduceLE, Int.reduceNeg, not_false_eq_true, and_self, map_nothing, bind_nothing, Int.natCast_one, Int.cast_ofNat_Int, not_true_eq_false, decide_true, decide_false, true_implies, false_implies, Int.toNat_zero, List.length_cons, List.length_nil, Nat.zero_add, mb, Nat.reduceBEq, Bool.false_and, Bool.and_false, cells_int, tys, stb, GK_nil, GK_op, GKS_some, GKS_none, GKS_ite, GKS_nite, Bool.or_false, Bool.false_or, Bool.true_and, Bool.or_true, Bool.true_or, lives_call, h0, h1, hpk, hown, hn1, hn2, hpt, hms, q1, q2, index_hsl, hwl, List.set_cons_succ, List.set_cons_zero]
  exact ⟨⟨by omega, by omega⟩, ⟨by omega, by omega⟩, ⟨by simp; omega, by simp [V.isCell]⟩, h w (b.tmod 1000000) (by omega) (by omega) hwl (by omega) (by omega) _ _ rfl rfl x1 e1 x2 e2 q1 q2 rfl rfl rfl rfl rfl rfl⟩

theorem nodesV_two (zs : List Int) (h1 : 1 ≤ zs.length) (h2 : zs.length ≤ 128) {x : V} {e : Int} (q : nodesV zs = .tup [x, .int .i64 e]) :
    (Within zs 1125899906842624 ∧ x = rowI (nodesL (hgt zs.length) zs) ∧ e = 0) ∨ (x = .nilsl ∧ e = 2) := by
  unfold nodesV at q
  rw [if_neg (by omega), if_neg (by omega)] at q
  split at q
  · rename_i hw
    simp only [V.tup.injEq, List.cons.injEq, and_true, V.int.injEq, true_and] at q
    exact .inl ⟨hw, q.1.symm, q.2.symm⟩
  · simp only [V.tup.injEq, List.cons.injEq, and_true, V.int.injEq, true_and] at q
    exact .inr ⟨q.1.symm, q.2.symm⟩

theorem rsum_set (xs : List Int) (w : Nat) (hw : w < xs.length) (c : Int) (a : Nat) : ∀ n, rsum (fun j => (xs.set w (xs.getD w 0 + c)).getD j 0) a n = rsum (fun j => xs.getD j 0) a n + if a ≤ w ∧ w < a + n then c else 0
  | 0 => by simp only [rsum]; rw [if_neg (by omega)]; rfl
  | n + 1 => by
    simp only [rsum, rsum_set xs w hw c a n]
    by_cases h : w = a + n
    · rw [← h, getD_set_eq hw, if_neg (by omega), if_pos (by omega)]; omega
    · rw [getD_set_ne h]
      by_cases h2 : a ≤ w ∧ w < a + n
      · rw [if_pos h2, if_pos (by omega)]; omega
      · rw [if_neg h2, if_neg (by omega)]; omega

theorem change_val (xs : List Int) (h1 : 1 ≤ xs.length) (h2 : xs.length ≤ 128) (w : Nat) (hw : w < xs.length) (c : Int) (hc1 : -1000000 < c) (hc2 : c < 1000000) (hx : Within xs 1125899906842624) (ho : Within (xs.set w (IntKind.i64.wrap (xs.getD w 0 + c))) 1125899906842624)
    (k : Nat) (hk : k < 2 ^ (hgt xs.length + 1) - 1) :
    (nodesL (hgt xs.length) (xs.set w (IntKind.i64.wrap (xs.getD w 0 + c)))).getD k 0 = (if (k : Int) ∈ pathL (hgt xs.length) w then IntKind.i64.wrap ((nodesL (hgt xs.length) xs).getD k 0 + c) else (nodesL (hgt xs.length) xs).getD k 0) := by
  have hh := hgt_le xs.length
  have hp := pow_le _ hh
  have hpw := hgt_pow xs.length (by omega) (by omega)
  have hcast := pow_cast (hgt xs.length)
  have hxw := (within_iff _ _).1 hx w hw
  have e1 : IntKind.i64.wrap (xs.getD w 0 + c) = xs.getD w 0 + c := by rw [wrap_i64 (by omega) (by omega)]
  rw [e1] at ho ⊢
  obtain ⟨d, a, l⟩ := Lv.exists hk
  have hb : Within (nodesL (hgt xs.length) xs) 288230376151711744 := nodes_within _ hh xs (by omega) hx
  have hkl : k < (nodesL (hgt xs.length) xs).length := by rw [nodesL_len _ _ (by omega)]; exact hk
  have hkb := (within_iff _ _).1 hb k hkl
  rw [nodes_val _ hh _ (by simp; omega) ho l, rsum_set xs w hw c a, ← nodes_val _ hh xs (by omega) hx l]
  have hon := on_path (hgt xs.length) d k a w l.le l.at_ l.fit (by omega)
  by_cases hm : (k : Int) ∈ pathL (hgt xs.length) w
  · rw [if_pos hm, if_pos (hon.1 hm), wrap_i64 (by omega) (by omega)]
  · rw [if_neg hm, if_neg (fun h => hm (hon.2 h))]; omega

set_option maxHeartbeats 1000000 in
theorem change_s2 {T : Tm} {σ : S} {xs : List Int} (w : Nat) (c : Int) (h1 : 1 ≤ xs.length) (h2 : xs.length ≤ 128) (hw : w < xs.length) (hc1 : -1000000 < c) (hc2 : c < 1000000) {x1 x2 : V} {e1 e2 : Int}
    (q1 : nodesV xs = .tup [x1, .int .i64 e1]) (q2 : nodesV (xs.set w (IntKind.i64.wrap (xs.getD w 0 + c))) = .tup [x2, .int .i64 e2])
    (t2 : T 2 = .int .i64 c) (t8 : T 8 = x1) (t9 : T 9 = .int .i64 e1) (t10 : T 10 = x2) (t11 : T 11 = .int .i64 e2) (t12 : T 12 = rowI (pathL (hgt xs.length) w)) (t13 : T 13 = .int .i64 0) :
    G env 5 none Try.f5.ntmps Q5 [] (dropC 9 (bodyOf Try.f5)) T [] σ := by
  rcases nodesV_two xs h1 h2 q1 with ⟨hx, rfl, rfl⟩ | ⟨rfl, rfl⟩
  · rcases nodesV_two _ (by simp; omega) (by simp; omega) q2 with ⟨ho, rfl, rfl⟩ | ⟨rfl, rfl⟩
    · have hval := change_val xs h1 h2 w hw c hc1 hc2 hx ho
      have hh := hgt_le xs.length
      have hpw := hgt_pow xs.length (by omega) (by omega)
      have hcast := pow_cast (hgt xs.length)
      have hp := pow_le _ hh
      have e2 : 2 ^ (hgt xs.length + 1) = 2 * 2 ^ hgt xs.length := by rw [Nat.pow_succ]; omega
      have l1 := nodesL_len (hgt xs.length) xs (by omega)
      have l2 := nodesL_len (hgt xs.length) (xs.set w (IntKind.i64.wrap (xs.getD w 0 + c))) (by simp; omega)
      rw [List.length_set] at t10
      have hhas := fun k => has_call (pathL (hgt xs.length) w) k (by rw [path_length _ _ (by omega)]; omega)
      rw [← l1] at hval
      have l12 : ((nodesL (hgt xs.length) (xs.set w (IntKind.i64.wrap (xs.getD w 0 + c)))).length : Int) = ((nodesL (hgt xs.length) xs).length : Int) := by omega
      have l3 : (nodesL (hgt xs.length) xs).length ≤ 255 := by omega
      clear q1 q2 l1 l2
      generalize nodesL (hgt xs.length) (xs.set w (IntKind.i64.wrap (xs.getD w 0 + c))) = B at *
      generalize nodesL (hgt xs.length) xs = A at *
      generalize pathL (hgt xs.length) w = P at *
      simp only [bodyOf, Try.f5, Option.getD_some, dropC, G_seq, G_block, G_skip_code, G_skip_blk, G_skip_nil, G_exit_code, G_exit_blk, G_exit_nil, G_ret_code, G_ret_blk, G_ret_nil, G_cond, G_cond_const, G_loop, G_region, G_draw, GL_nil, GL_op, GL_none, GL_guard, GS_some, GS_ite, GS_nite, GN_some, GN_ite, GN_nite, GB_true, GB_false, GB_dec, GG_true_true, GG_true_false, GG_false_true, GG_false_false, GG_true_dec, GG_false_dec, opT_move, opT_assign, opT_pick, pickO_true, pickO_false, opT_binOp, binO_some, opT_unOp, opT_extract, extrO_tup, opT_indexAddr, idxO_slice, opT_load, opT_call, opT_len, opT_append, opT_convert, convO_int, callV_func, evalT, upd_at, Nat.reduceLT, Nat.reduceEqDiff, if_true, if_false, reduceIte, true_and, map_mk, bind_mk, map_ite', map_nite, bind_ite', bind_nite, vBin_add, vBin_sub, vBin_mul, vBin_eql, vBin_neq, vBin_lss, vBin_leq, vBin_gtr, vBin_geq, vBin_rem, vBin_quo, vBin_beql, vBin_bneq, vUn_not, vUn_true, vUn_false, index_row, len_row, len_nilsl, listO_nil, listO_cons, ofVal, ofCell, argT, List.getD_cons_zero, List.getD_cons_succ, List.getElem?_toArray, List.getElem?_cons_zero, List.getElem?_cons_succ, List.nil_append, List.cons_append, List.append_nil, resT, wpR_nil, V1_some, Nat.mul_one, load_row, load_ptr, cellAt_some, opT_store, store_ptr, storeAt_some, cells_row, isCell_row, cells_nilsl, push_mk, set_mk, setT, vUn_neg, opT_max, opT_min, max_two, min_two, List.append_eq, opT_makeFunc, opT_fieldAddr, opT_build, partsO_nil, partsO_cons, faddr_ptr, faddr_rptr, cells_agg, push_last, Nat.add_zero, opT_box, opT_alloc, ints_get, post_norm, post_exit, post_ret, Int.toNat_natCast, Bool.false_eq_true, Int.reduceEq, Int.reduceLT, Int.reduceLE, Int.reduceNeg, not_false_eq_true, and_self, map_nothing, bind_nothing, Int.natCast_one, Int.cast_ofNat_Int, not_true_eq_false, decide_true, decide_false, true_implies, false_implies, Int.toNat_zero, List.length_cons, List.length_nil, Nat.zero_add, mb, Nat.reduceBEq, Bool.false_and, Bool.and_false, cells_int, tys, stb, GK_nil, GK_op, GKS_some, GKS_none, GKS_ite, GKS_nite, Bool.or_false, Bool.false_or, Bool.true_and, Bool.or_true, Bool.true_or, t2, t8, t9, t10, t11, t12, t13, l12, eq_self]
      refine loop_rule (fun m T D σ' => D = [] ∧ σ' = σ ∧ T 2 = .int .i64 c ∧ T 8 = rowI A ∧ T 10 = rowI B ∧ T 12 = rowI P ∧ T 13 = .int .i64 0 ∧ ∃ k : Nat, T 14 = .int .i64 k ∧ k ≤ A.length ∧ m = A.length - k) ?_ _ _ _ _ ⟨rfl, rfl, t2, t8, t10, t12, t13, 0, rfl, by omega, rfl⟩
      clear t2 t8 t9 t10 t11 t12 t13
      rintro m T D σ' ⟨rfl, rfl, t2, t8, t10, t12, t13, k, t14, hk, hm⟩
      refine G_start ?_
      by_cases hkl : (k : Int) < (A.length : Int)
      · have ka : k < A.length := by omega
        have kb : k < B.length := by omega
        have e3 : IntKind.i64.wrap ((k : Int) + 1) = ((k + 1 : Nat) : Int) := by rw [wrap_i64 (by omega) (by omega)]; omega
        have hv := hval k ka
        by_cases hin : (k : Int) ∈ P
        · rw [if_pos hin] at hv
          simp only [G_seq, G_block, G_skip_code, G_skip_blk, G_skip_nil, G_exit_code, G_exit_blk, G_exit_nil, G_ret_code, G_ret_blk, G_ret_nil, G_cond, G_cond_const, G_loop, G_region, G_draw, GL_nil, GL_op, GL_none, GL_guard, GS_some, GS_ite, GS_nite, GN_some, GN_ite, GN_nite, GB_true, GB_false, GB_dec, GG_true_true, GG_true_false, GG_false_true, GG_false_false, GG_true_dec, GG_false_dec, opT_move, opT_assign, opT_pick, pickO_true, pickO_false, opT_binOp, binO_some, opT_unOp, opT_extract, extrO_tup, opT_indexAddr, idxO_slice, opT_load, opT_call, opT_len, opT_append, opT_convert, convO_int, callV_func, evalT, upd_at, Nat.reduceLT, Nat.reduceEqDiff, if_true, if_false, reduceIte, true_and, map_mk, bind_mk, map_ite', map_nite, bind_ite', bind_nite, vBin_add, vBin_sub, vBin_mul, vBin_eql, vBin_neq, vBin_lss, vBin_leq, vBin_gtr, vBin_geq, vBin_rem, vBin_quo, vBin_beql, vBin_bneq, vUn_not, vUn_true, vUn_false, index_row, len_row, len_nilsl, listO_nil, listO_cons, ofVal, ofCell, argT, List.getD_cons_zero, List.getD_cons_succ, List.getElem?_toArray, List.getElem?_cons_zero, List.getElem?_cons_succ, List.nil_append, List.cons_append, List.append_nil, resT, wpR_nil, V1_some, Nat.mul_one, load_row, load_ptr, cellAt_some, opT_store, store_ptr, storeAt_some, cells_row, isCell_row, cells_nilsl, push_mk, set_mk, setT, vUn_neg, opT_max, opT_min, max_two, min_two, List.append_eq, opT_makeFunc, opT_fieldAddr, opT_build, partsO_nil, partsO_cons, faddr_ptr, faddr_rptr, cells_agg, push_last, Nat.add_zero, opT_box, opT_alloc, ints_get, post_norm, post_exit, post_ret, Int.toNat_natCast, Bool.false_eq_true, Int.reduceEq, Int.reduceLT, Int.reduceLE, Int.reduceNeg, not_false_eq_true, and_self, map_nothing, bind_nothing, Int.natCast_one, Int.cast_ofNat_Int, not_true_eq_false, decide_true, decide_false, true_implies, false_implies, Int.toNat_zero, List.length_cons, List.length_nil, Nat.zero_add, mb, Nat.reduceBEq, Bool.false_and, Bool.and_false, cells_int, tys, stb, GK_nil, GK_op, GKS_some, GKS_none, GKS_ite, GKS_nite, Bool.or_false, Bool.false_or, Bool.true_and, Bool.or_true, Bool.true_or, t2, t8, t10, t12, t13, t14, hkl, ka, kb, e3, hhas, hin, hv, eq_self]
          exact ⟨⟨by omega, trivial⟩, ⟨by omega, by omega⟩, A.length - (k + 1), by omega, k + 1, rfl, by omega, rfl⟩
        · rw [if_neg hin] at hv
          simp only [G_seq, G_block, G_skip_code, G_skip_blk, G_skip_nil, G_exit_code, G_exit_blk, G_exit_nil, G_ret_code, G_ret_blk, G_ret_nil, G_cond, G_cond_const, G_loop, G_region, G_draw, GL_nil, GL_op, GL_none, GL_guard, GS_some, GS_ite, GS_nite, GN_some, GN_ite, GN_nite, GB_true, GB_false, GB_dec, GG_true_true, GG_true_false, GG_false_true, GG_false_false, GG_true_dec, GG_false_dec, opT_move, opT_assign, opT_pick, pickO_true, pickO_false, opT_binOp, binO_some, opT_unOp, opT_extract, extrO_tup, opT_indexAddr, idxO_slice, opT_load, opT_call, opT_len, opT_append, opT_convert, convO_int, callV_func, evalT, upd_at, Nat.reduceLT, Nat.reduceEqDiff, if_true, if_false, reduceIte, true_and, map_mk, bind_mk, map_ite', map_nite, bind_ite', bind_nite, vBin_add, vBin_sub, vBin_mul, vBin_eql, vBin_neq, vBin_lss, vBin_leq, vBin_gtr, vBin_geq, vBin_rem, vBin_quo, vBin_beql, vBin_bneq, vUn_not, vUn_true, vUn_false, index_row, len_row, len_nilsl, listO_nil, listO_cons, ofVal, ofCell, argT, List.getD_cons_zero, List.getD_cons_succ, List.getElem?_toArray, List.getElem?_cons_zero, List.getElem?_cons_succ, List.nil_append, List.cons_append, List.append_nil, resT, wpR_nil, V1_some, Nat.mul_one, load_row, load_ptr, cellAt_some, opT_store, store_ptr, storeAt_some, cells_row, isCell_row, cells_nilsl, push_mk, set_mk, setT, vUn_neg, opT_max, opT_min, max_two, min_two, List.append_eq, opT_makeFunc, opT_fieldAddr, opT_build, partsO_nil, partsO_cons, faddr_ptr, faddr_rptr, cells_agg, push_last, Nat.add_zero, opT_box, opT_alloc, ints_get, post_norm, post_exit, post_ret, Int.toNat_natCast, Bool.false_eq_true, Int.reduceEq, Int.reduceLT, Int.reduceLE, Int.reduceNeg, not_false_eq_true, and_self, map_nothing, bind_nothing, Int.natCast_one, Int.cast_ofNat_Int, not_true_eq_false, decide_true, decide_false, true_implies, false_implies, Int.toNat_zero, List.length_cons, List.length_nil, Nat.zero_add, mb, Nat.reduceBEq, Bool.false_and, Bool.and_false, cells_int, tys, stb, GK_nil, GK_op, GKS_some, GKS_none, GKS_ite, GKS_nite, Bool.or_false, Bool.false_or, Bool.true_and, Bool.or_true, Bool.true_or, t2, t8, t10, t12, t13, t14, hkl, ka, kb, e3, hhas, hin, hv, eq_self]
          exact ⟨⟨by omega, trivial⟩, ⟨by omega, by omega⟩, A.length - (k + 1), by omega, k + 1, rfl, by omega, rfl⟩
      · simp only [Try.f5, G_seq, G_block, G_skip_code, G_skip_blk, G_skip_nil, G_exit_code, G_exit_blk, G_exit_nil, G_ret_code, G_ret_blk, G_ret_nil, G_cond, G_cond_const, G_loop, G_region, G_draw, GL_nil, GL_op, GL_none, GL_guard, GS_some, GS_ite, GS_nite, GN_some, GN_ite, GN_nite, GB_true, GB_false, GB_dec, GG_true_true, GG_true_false, GG_false_true, GG_false_false, GG_true_dec, GG_false_dec, opT_move, opT_assign, opT_pick, pickO_true, pickO_false, opT_binOp, binO_some, opT_unOp, opT_extract, extrO_tup, opT_indexAddr, idxO_slice, opT_load, opT_call, opT_len, opT_append, opT_convert, convO_int, callV_func, evalT, upd_at, Nat.reduceLT, Nat.reduceEqDiff, if_true, if_false, reduceIte, true_and, map_mk, bind_mk, map_ite', map_nite, bind_ite', bind_nite, vBin_add, vBin_sub, vBin_mul, vBin_eql, vBin_neq, vBin_lss, vBin_leq, vBin_gtr, vBin_geq, vBin_rem, vBin_quo, vBin_beql, vBin_bneq, vUn_not, vUn_true, vUn_false, index_row, len_row, len_nilsl, listO_nil, listO_cons, ofVal, ofCell, argT, List.getD_cons_zero, List.getD_cons_succ, List.getElem?_toArray, List.getElem?_cons_zero, List.getElem?_cons_succ, List.nil_append, List.cons_append, List.append_nil, resT, wpR_nil, V1_some, Nat.mul_one, load_row, load_ptr, cellAt_some, opT_store, store_ptr, storeAt_some, cells_row, isCell_row, cells_nilsl, push_mk, set_mk, setT, vUn_neg, opT_max, opT_min, max_two, min_two, List.append_eq, opT_makeFunc, opT_fieldAddr, opT_build, partsO_nil, partsO_cons, faddr_ptr, faddr_rptr, cells_agg, push_last, Nat.add_zero, opT_box, opT_alloc, ints_get, post_norm, post_exit, post_ret, Int.toNat_natCast, Bool.false_eq_true, Int.reduceEq, Int.reduceLT, Int.reduceLE, Int.reduceNeg, not_false_eq_true, and_self, map_nothing, bind_nothing, Int.natCast_one, Int.cast_ofNat_Int, not_true_eq_false, decide_true, decide_false, true_implies, false_implies, Int.toNat_zero, List.length_cons, List.length_nil, Nat.zero_add, mb, Nat.reduceBEq, Bool.false_and, Bool.and_false, cells_int, tys, stb, GK_nil, GK_op, GKS_some, GKS_none, GKS_ite, GKS_nite, Bool.or_false, Bool.false_or, Bool.true_and, Bool.or_true, Bool.true_or, t2, t8, t10, t12, t13, t14, hkl]
        rfl
    · simp only [bodyOf, Try.f5, Option.getD_some, dropC, G_seq, G_block, G_skip_code, G_skip_blk, G_skip_nil, G_exit_code, G_exit_blk, G_exit_nil, G_ret_code, G_ret_blk, G_ret_nil, G_cond, G_cond_const, G_loop, G_region, G_draw, GL_nil, GL_op, GL_none, GL_guard, GS_some, GS_ite, GS_nite, GN_some, GN_ite, GN_nite, GB_true, GB_false, GB_dec, GG_true_true, GG_true_false, GG_false_true, GG_false_false, GG_true_dec, GG_false_dec, opT_move, opT_assign, opT_pick, pickO_true, pickO_false, opT_binOp, binO_some, opT_unOp, opT_extract, extrO_tup, opT_indexAddr, idxO_slice, opT_load, opT_call, opT_len, opT_append, opT_convert, convO_int, callV_func, evalT, upd_at, Nat.reduceLT, Nat.reduceEqDiff, if_true, if_false, reduceIte, true_and, map_mk, bind_mk, map_ite', map_nite, bind_ite', bind_nite, vBin_add, vBin_sub, vBin_mul, vBin_eql, vBin_neq, vBin_lss, vBin_leq, vBin_gtr, vBin_geq, vBin_rem, vBin_quo, vBin_beql, vBin_bneq, vUn_not, vUn_true, vUn_false, index_row, len_row, len_nilsl, listO_nil, listO_cons, ofVal, ofCell, argT, List.getD_cons_zero, List.getD_cons_succ, List.getElem?_toArray, List.getElem?_cons_zero, List.getElem?_cons_succ, List.nil_append, List.cons_append, List.append_nil, resT, wpR_nil, V1_some, Nat.mul_one, load_row, load_ptr, cellAt_some, opT_store, store_ptr, storeAt_some, cells_row, isCell_row, cells_nilsl, push_mk, set_mk, setT, vUn_neg, opT_max, opT_min, max_two, min_two, List.append_eq, opT_makeFunc, opT_fieldAddr, opT_build, partsO_nil, partsO_cons, faddr_ptr, faddr_rptr, cells_agg, push_last, Nat.add_zero, opT_box, opT_alloc, ints_get, post_norm, post_exit, post_ret, Int.toNat_natCast, Bool.false_eq_true, Int.reduceEq, Int.reduceLT, Int.reduceLE, Int.reduceNeg, not_false_eq_true, and_self, map_nothing, bind_nothing, Int.natCast_one, Int.cast_ofNat_Int, not_true_eq_false, decide_true, decide_false, true_implies, false_implies, Int.toNat_zero, List.length_cons, List.length_nil, Nat.zero_add, mb, Nat.reduceBEq, Bool.false_and, Bool.and_false, cells_int, tys, stb, GK_nil, GK_op, GKS_some, GKS_none, GKS_ite, GKS_nite, Bool.or_false, Bool.false_or, Bool.true_and, Bool.or_true, Bool.true_or, t2, t8, t9, t10, t11, t12, t13]
      rfl
  · simp only [bodyOf, Try.f5, Option.getD_some, dropC, G_seq, G_block, G_skip_code, G_skip_blk, G_skip_nil, G_exit_code, G_exit_blk, G_exit_nil, G_ret_code, G_ret_blk, G_ret_nil, G_cond, G_cond_const, G_loop, G_region, G_draw, GL_nil, GL_op, GL_none, GL_guard, GS_some, GS_ite, GS_nite, GN_some, GN_ite, GN_nite, GB_true, GB_false, GB_dec, GG_true_true, GG_true_false, GG_false_true, GG_false_false, GG_true_dec, GG_false_dec, opT_move, opT_assign, opT_pick, pickO_true, pickO_false, opT_binOp, binO_some, opT_unOp, opT_extract, extrO_tup, opT_indexAddr, idxO_slice, opT_load, opT_call, opT_len, opT_append, opT_convert, convO_int, callV_func, evalT, upd_at, Nat.reduceLT, Nat.reduceEqDiff, if_true, if_false, reduceIte, true_and, map_mk, bind_mk, map_ite', map_nite, bind_ite', bind_nite, vBin_add, vBin_sub, vBin_mul, vBin_eql, vBin_neq, vBin_lss, vBin_leq, vBin_gtr, vBin_geq, vBin_rem, vBin_quo, vBin_beql, vBin_bneq, vUn_not, vUn_true, vUn_false, index_row, len_row, len_nilsl, listO_nil, listO_cons, ofVal, ofCell, argT, List.getD_cons_zero, List.getD_cons_succ, List.getElem?_toArray, List.getElem?_cons_zero, List.getElem?_cons_succ, List.nil_append, List.cons_append, List.append_nil, resT, wpR_nil, V1_some, Nat.mul_one, load_row, load_ptr, cellAt_some, opT_store, store_ptr, storeAt_some, cells_row, isCell_row, cells_nilsl, push_mk, set_mk, setT, vUn_neg, opT_max, opT_min, max_two, min_two, List.append_eq, opT_makeFunc, opT_fieldAddr, opT_build, partsO_nil, partsO_cons, faddr_ptr, faddr_rptr, cells_agg, push_last, Nat.add_zero, opT_box, opT_alloc, ints_get, post_norm, post_exit, post_ret, Int.toNat_natCast, Bool.false_eq_true, Int.reduceEq, Int.reduceLT, Int.reduceLE, Int.reduceNeg, not_false_eq_true, and_self, map_nothing, bind_nothing, Int.natCast_one, Int.cast_ofNat_Int, not_true_eq_false, decide_true, decide_false, true_implies, false_implies, Int.toNat_zero, List.length_cons, List.length_nil, Nat.zero_add, mb, Nat.reduceBEq, Bool.false_and, Bool.and_false, cells_int, tys, stb, GK_nil, GK_op, GKS_some, GKS_none, GKS_ite, GKS_nite, Bool.or_false, Bool.false_or, Bool.true_and, Bool.or_true, Bool.true_or, t2, t8, t9, t10, t11, t12, t13]
    rfl

theorem change_found {v : V} {xs : List Int} (hv : InI v xs) (wh b : Int) : Go.Ab.Found env 5 [v, .int .i64 wh, .int .i64 b] := by
  refine found_of_wp at5 (body := bodyOf Try.f5) rfl (by simp [Try.f5]) (by simp [Try.f5]) ?_
  exact change_s1 hv wh b fun w c h1 h2 hw hc1 hc2 T σ t0 t2 x1 e1 x2 e2 q1 q2 t8 t9 t10 t11 t12 t13 => change_s2 w c h1 h2 hw hc1 hc2 q1 q2 t2 t8 t9 t10 t11 t12 t13
end Go.Proofs.Ytkomkiejakcilaa
