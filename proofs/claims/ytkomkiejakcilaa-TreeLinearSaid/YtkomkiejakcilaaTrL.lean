/- Proved here: what the law TreeLinear comes to. Conditions: those of each theorem; no statement of the seat is proved in this text. -/
import Derived.Test.YtkomkiejakcilaaTrD
namespace Go.Proofs.Ytkomkiejakcilaa
open Go.Ab
set_option maxRecDepth 100000
set_option linter.unusedSimpArgs false
set_option linter.unusedVariables false
theorem at4 : env.P.funcs[4]? = some Try.f4 := by kernel_rfl
theorem u4 : env.P.underlying 4 = some .bool := by kernel_rfl

theorem weakL_ints (k : IntKind) : ∀ zs : List Int, V.weak.weakL (zs.map (V.int k)) = zs.map (V.int k)
  | [] => rfl
  | z :: zs => by simp only [List.map_cons, V.weak.weakL, V.weak, weakL_ints k zs]

theorem prefix_tok (zs : List Int) (hl : zs.length ≤ 2 ^ 20) (k e : Nat) (n : Int) (σ : S) : callFn env (ev env) 11 [.row (zs.map (V.int .i64)) zs.length (.tok k e 1), .int .i64 n] σ = some (prefV zs n, σ) := by
  have hw : ([.row (zs.map (V.int .i64)) zs.length (.tok k e 1), .int .i64 n] : List V).map V.weak = [rowI zs, .int .i64 n] := by
    simp only [List.map_cons, List.map_nil, V.weak, RCap.weak, weakL_ints]
  rw [callFn_weak rfl rfl (by simp [V.closed]) (by rw [hw]; simp [ints_closed, V.closed]) σ, hw]
  exact prefix_call (.inl rfl) hl n σ

theorem app_first (hp : List AObj) (ts : List Nat) (x : Int) : appO env false ⟨hp, ts⟩ 22 22 .nilsl (.row [.int .i64 x] 1 .full) = some (.row [.int .i64 x] 1 (.tok ts.length 0 1), ⟨hp, ts ++ [0]⟩) := by
  simp [appO, e22, s3, b3, u22, z3, vLen, vCells, aappend, lim]

theorem app_more (hp : List AObj) (ts : List Nat) (zs : List Int) (k e : Nat) (x : Int) (hk : ts[k]? = some e) (hl : zs.length ≤ 2 ^ 20) :
    appO env false ⟨hp, ts⟩ 22 22 (.row (zs.map (V.int .i64)) zs.length (.tok k e 1)) (.row [.int .i64 x] 1 .full) = some (.row ((zs ++ [x]).map (V.int .i64)) (zs ++ [x]).length (.tok k (e + 1) 1), ⟨hp, ts.set k (e + 1)⟩) := by
  have h1 : (zs.length + 1) * 8 ≤ lim ∧ zs.length + 1 ≤ lim := by simp [lim]; omega
  simp [appO, e22, s3, b3, u22, z3, vLen, vCells, aappend, hk, h1, V.isCell]

/-- a list that grows behind its own token -/
def tokRow (zs : List Int) (k : Nat) : V := if zs = [] then .nilsl else .row (zs.map (V.int .i64)) zs.length (.tok k (zs.length - 1) 1)
theorem tokRow_prefix (zs : List Int) (hl : zs.length ≤ 2 ^ 20) (k : Nat) (n : Int) (σ : S) : callFn env (ev env) 11 [tokRow zs k, .int .i64 n] σ = some (prefV zs n, σ) := by
  unfold tokRow
  split
  · rename_i h; subst h; exact prefix_call (.inr ⟨rfl, rfl⟩) hl n σ
  · exact prefix_tok zs hl k _ n σ
def toks3 (i : Nat) : List Nat := if i = 0 then [] else [i - 1, i - 1, i - 1]

theorem grow3 (a b c : List Int) (i : Nat) (ha : a.length = i) (hb : b.length = i) (hc : c.length = i) (hi : i ≤ 2 ^ 20) (hp : List AObj) (x y z : Int) :
    ∃ t1 t2, appO env false ⟨hp, toks3 i⟩ 22 22 (tokRow a 0) (.row [.int .i64 x] 1 .full) = some (tokRow (a ++ [x]) 0, ⟨hp, t1⟩) ∧
      appO env false ⟨hp, t1⟩ 22 22 (tokRow b 1) (.row [.int .i64 y] 1 .full) = some (tokRow (b ++ [y]) 1, ⟨hp, t2⟩) ∧
      appO env false ⟨hp, t2⟩ 22 22 (tokRow c 2) (.row [.int .i64 z] 1 .full) = some (tokRow (c ++ [z]) 2, ⟨hp, toks3 (i + 1)⟩) := by
  by_cases h0 : i = 0
  · subst h0
    have ea := List.eq_nil_of_length_eq_zero ha
    have eb := List.eq_nil_of_length_eq_zero hb
    have ec := List.eq_nil_of_length_eq_zero hc
    subst ea eb ec
    exact ⟨[0], [0, 0], app_first hp [] x, app_first hp [0] y, app_first hp [0, 0] z⟩
  · have na : a ≠ [] := fun e => by subst e; simp at ha; omega
    have nb : b ≠ [] := fun e => by subst e; simp at hb; omega
    have nc : c ≠ [] := fun e => by subst e; simp at hc; omega
    have e1 : i - 1 + 1 = i := by omega
    refine ⟨[i, i - 1, i - 1], [i, i, i - 1], ?_, ?_, ?_⟩
    · have := app_more hp (toks3 i) a 0 (i - 1) x (by simp [toks3, h0]) (by omega)
      simpa [tokRow, na, ha, toks3, h0, e1] using this
    · have := app_more hp [i, i - 1, i - 1] b 1 (i - 1) y rfl (by omega)
      simpa [tokRow, nb, hb, e1] using this
    · have := app_more hp [i, i, i - 1] c 2 (i - 1) z rfl (by omega)
      simpa [tokRow, nc, hc, e1, toks3] using this

theorem getD_map_range (f : Nat → Int) (n i : Nat) (hi : i < n) : ((List.range n).map f).getD i 0 = f i := by simp [List.getD, hi]

theorem wsum_add (a b : List Int) (hl : a.length = b.length) (ha : Within a 72057594037927936) (hb : Within b 72057594037927936) (l : List Int) (h15 : l.length ≤ 15) :
    wsum (List.zipWith (· + ·) a b) l = wsum a l + wsum b l ∧ -9223372036854775808 ≤ wsum a l + wsum b l ∧ wsum a l + wsum b l ≤ 9223372036854775807 := by
  have hw : ∀ z : List Int, Within z 72057594037927936 → Within z 288230376151711744 := fun z h x hx => by have := h x hx; omega
  have hc : Within (List.zipWith (· + ·) a b) 288230376151711744 := by
    rw [within_iff]
    intro j hj
    simp only [List.length_zipWith] at hj
    have h1 := (within_iff _ _).1 ha j (by omega)
    have h2 := (within_iff _ _).1 hb j (by omega)
    have e : (List.zipWith (· + ·) a b).getD j 0 = a.getD j 0 + b.getD j 0 := by simp [List.getD, List.getElem?_zipWith, show j < a.length by omega, show j < b.length by omega]
    omega
  obtain ⟨a1, a2, a3⟩ := wsum_exact a (hw a ha) l h15
  obtain ⟨b1, b2, b3⟩ := wsum_exact b (hw b hb) l h15
  obtain ⟨c1, _, _⟩ := wsum_exact _ hc l h15
  have key : ∀ m : List Int, (m.map fun k => (List.zipWith (· + ·) a b).getD k.toNat 0).sum = (m.map fun k => a.getD k.toNat 0).sum + (m.map fun k => b.getD k.toNat 0).sum := by
    intro m
    induction m with
    | nil => rfl
    | cons k m ih =>
      simp only [List.map_cons, List.sum_cons, ih]
      have e : (List.zipWith (· + ·) a b).getD k.toNat 0 = a.getD k.toNat 0 + b.getD k.toNat 0 := by
        by_cases hk : k.toNat < a.length
        · simp [List.getD, List.getElem?_zipWith, hk, show k.toNat < b.length by omega]
        · simp [List.getD, List.getElem?_zipWith, hk, show ¬ k.toNat < b.length by omega]
      omega
  refine ⟨by rw [a1, b1, c1]; exact key l, by omega, by omega⟩
end Go.Proofs.Ytkomkiejakcilaa

namespace Go.Proofs.Ytkomkiejakcilaa
open Go.Ab
set_option maxRecDepth 100000
set_option linter.unusedSimpArgs false
set_option linter.unusedVariables false

def low (x : Int) : Int := x.tmod 72057594037927936
theorem low_bound (x : Int) : -72057594037927936 < low x ∧ low x < 72057594037927936 := by
  unfold low
  have h1 := Int.tmod_lt_of_pos x (show (0 : Int) < 72057594037927936 by omega)
  have h2 := Int.lt_tmod_of_pos x (show (0 : Int) < 72057594037927936 by omega)
  omega
abbrev lows (zs : List Int) : List Int := zs.map low
theorem lows_within (zs : List Int) : Within (lows zs) 72057594037927936 := by
  intro z hz
  obtain ⟨x, _, rfl⟩ := List.mem_map.1 hz
  have := low_bound x; omega
theorem lows_take (zs : List Int) (i : Nat) (h : i < zs.length) : lows (zs.take (i + 1)) = lows (zs.take i) ++ [low (zs.getD i 0)] := by
  have e : zs.getD i 0 = zs[i] := by simp [List.getD, h]
  rw [List.take_add_one, List.getElem?_eq_getElem h, e]
  simp only [lows, List.map_append, Option.toList, List.map_cons, List.map_nil]
theorem both_take (a b : List Int) (i : Nat) (h : i < a.length) (h2 : i < b.length) : List.zipWith (· + ·) (lows (a.take (i + 1))) (lows (b.take (i + 1))) = List.zipWith (· + ·) (lows (a.take i)) (lows (b.take i)) ++ [low (a.getD i 0) + low (b.getD i 0)] := by
  rw [lows_take a i h, lows_take b i h2, List.zipWith_append (by simp; omega)]
  rfl

theorem prefV_bad (zs : List Int) (n : Int) (hw : Within zs 288230376151711744) (c : Int) (hc : (c = 2 ∧ (n < 1 ∨ 128 < n)) ∨ (c = 16 ∧ ¬ (n < 1 ∨ 128 < n) ∧ zs.length ≠ 2 ^ (hgt n + 1) - 1)) : prefV zs n = .tup [.nilsl, .int .i64 c] := by
  unfold prefV
  rcases hc with ⟨rfl, h⟩ | ⟨rfl, h, h2⟩
  · rw [if_pos (.inr h)]
  · rw [if_neg (by rintro (h3 | h3); exact h3 hw; exact h h3), if_pos h2]
theorem prefV_good (zs : List Int) (n : Int) (hw : Within zs 288230376151711744) (h1 : ¬ (n < 1 ∨ 128 < n)) (hl : zs.length = 2 ^ (hgt n + 1) - 1) : prefV zs n = .tup [rowI (sums (hgt n) zs n.toNat), .int .i64 0] := by
  unfold prefV
  rw [if_neg (by rintro (h3 | h3); exact h3 hw; exact h1 h3), if_neg (by omega)]

set_option maxHeartbeats 4000000 in
theorem linear_found {u v : V} {xs ys : List Int} (hu : InI u xs) (hv : InI v ys) (n : Int) : Go.Ab.Found env 4 [u, v, .int .i64 n] := by
  refine found_of_wp at4 rfl (by simp [Try.f4]) (by simp [Try.f4]) (G_start ?_)
  have hlx := hu.len 3
  have hly := hv.len 3
  by_cases hl : 300 < ((xs.length : Nat) : Int)
  · simp only [Try.f4, G_seq, G_block, G_skip_code, G_skip_blk, G_skip_nil, G_exit_code, G_exit_blk, G_exit_nil, G_ret_code, G_ret_blk, G_ret_nil, G_cond, G_cond_const, G_loop, G_region, G_draw, GL_nil, GL_op, GL_none, GL_guard, GS_some, GS_ite, GS_nite, GN_some, GN_ite, GN_nite, GB_true, GB_false, GB_dec, GG_true_true, GG_true_false, GG_false_true, GG_false_false, GG_true_dec, GG_false_dec, opT_move, opT_assign, opT_pick, pickO_true, pickO_false, opT_binOp, binO_some, opT_unOp, opT_extract, extrO_tup, opT_indexAddr, idxO_slice, opT_load, opT_call, opT_len, opT_append, opT_convert, convO_int, callV_func, evalT, upd_at, Nat.reduceLT, Nat.reduceEqDiff, if_true, if_false, reduceIte, true_and, map_mk, bind_mk, map_ite', map_nite, bind_ite', bind_nite, vBin_add, vBin_sub, vBin_mul, vBin_eql, vBin_neq, vBin_lss, vBin_leq, vBin_gtr, vBin_geq, vBin_rem, vBin_quo, vBin_beql, vBin_bneq, vUn_not, vUn_true, vUn_false, index_row, len_row, len_nilsl, listO_nil, listO_cons, ofVal, ofCell, argT, List.getD_cons_zero, List.getD_cons_succ, List.getElem?_toArray, List.getElem?_cons_zero, List.getElem?_cons_succ, List.nil_append, List.cons_append, List.append_nil, resT, wpR_nil, V1_some, Nat.mul_one, load_row, load_ptr, cellAt_some, opT_store, store_ptr, storeAt_some, cells_row, isCell_row, cells_nilsl, push_mk, set_mk, setT, vUn_neg, opT_max, opT_min, max_two, min_two, List.append_eq, opT_makeFunc, opT_fieldAddr, opT_build, partsO_nil, partsO_cons, faddr_ptr, faddr_rptr, cells_agg, push_last, Nat.add_zero, opT_box, opT_alloc, ints_get, post_norm, post_exit, post_ret, Int.toNat_natCast, Bool.false_eq_true, Int.reduceEq, Int.reduceLT, Int.reduceLE, Int.reduceNeg, not_false_eq_true, and_self, map_nothing, bind_nothing, Int.natCast_one, Int.cast_ofNat_Int, not_true_eq_false, decide_true, decide_false, true_implies, false_implies, Int.toNat_zero, List.length_cons, List.length_nil, Nat.zero_add, mb, Nat.reduceBEq, Bool.false_and, Bool.and_false, cells_int, tys, stb, GK_nil, GK_op, GKS_some, GKS_none, GKS_ite, GKS_nite, Bool.or_false, Bool.false_or, Bool.true_and, Bool.or_true, Bool.true_or, lives_call, hlx, hly, hl]
    rfl
  · by_cases he : ((ys.length : Nat) : Int) = ((xs.length : Nat) : Int)
    · have hxy : xs.length = ys.length := by omega
      simp only [Try.f4, G_seq, G_block, G_skip_code, G_skip_blk, G_skip_nil, G_exit_code, G_exit_blk, G_exit_nil, G_ret_code, G_ret_blk, G_ret_nil, G_cond, G_cond_const, G_loop, G_region, G_draw, GL_nil, GL_op, GL_none, GL_guard, GS_some, GS_ite, GS_nite, GN_some, GN_ite, GN_nite, GB_true, GB_false, GB_dec, GG_true_true, GG_true_false, GG_false_true, GG_false_false, GG_true_dec, GG_false_dec, opT_move, opT_assign, opT_pick, pickO_true, pickO_false, opT_binOp, binO_some, opT_unOp, opT_extract, extrO_tup, opT_indexAddr, idxO_slice, opT_load, opT_call, opT_len, opT_append, opT_convert, convO_int, callV_func, evalT, upd_at, Nat.reduceLT, Nat.reduceEqDiff, if_true, if_false, reduceIte, true_and, map_mk, bind_mk, map_ite', map_nite, bind_ite', bind_nite, vBin_add, vBin_sub, vBin_mul, vBin_eql, vBin_neq, vBin_lss, vBin_leq, vBin_gtr, vBin_geq, vBin_rem, vBin_quo, vBin_beql, vBin_bneq, vUn_not, vUn_true, vUn_false, index_row, len_row, len_nilsl, listO_nil, listO_cons, ofVal, ofCell, argT, List.getD_cons_zero, List.getD_cons_succ, List.getElem?_toArray, List.getElem?_cons_zero, List.getElem?_cons_succ, List.nil_append, List.cons_append, List.append_nil, resT, wpR_nil, V1_some, Nat.mul_one, load_row, load_ptr, cellAt_some, opT_store, store_ptr, storeAt_some, cells_row, isCell_row, cells_nilsl, push_mk, set_mk, setT, vUn_neg, opT_max, opT_min, max_two, min_two, List.append_eq, opT_makeFunc, opT_fieldAddr, opT_build, partsO_nil, partsO_cons, faddr_ptr, faddr_rptr, cells_agg, push_last, Nat.add_zero, opT_box, opT_alloc, ints_get, post_norm, post_exit, post_ret, Int.toNat_natCast, Bool.false_eq_true, Int.reduceEq, Int.reduceLT, Int.reduceLE, Int.reduceNeg, not_false_eq_true, and_self, map_nothing, bind_nothing, Int.natCast_one, Int.cast_ofNat_Int, not_true_eq_false, decide_true, decide_false, true_implies, false_implies, Int.toNat_zero, List.length_cons, List.length_nil, Nat.zero_add, mb, Nat.reduceBEq, Bool.false_and, Bool.and_false, cells_int, tys, stb, GK_nil, GK_op, GKS_some, GKS_none, GKS_ite, GKS_nite, Bool.or_false, Bool.false_or, Bool.true_and, Bool.or_true, Bool.true_or, lives_call, hlx, hly, hl, he]
      refine loop_rule (fun m T D σ => D = [] ∧ T 0 = u ∧ T 1 = v ∧ T 2 = .int .i64 n ∧ ∃ i : Nat, T 10 = .int .i64 i ∧ i ≤ xs.length ∧ m = xs.length - i ∧ T 7 = tokRow (lows (xs.take i)) 0 ∧ T 8 = tokRow (lows (ys.take i)) 1 ∧
        T 9 = tokRow (List.zipWith (· + ·) (lows (xs.take i)) (lows (ys.take i))) 2 ∧ σ = ⟨[], toks3 i⟩) ?_ _ _ _ _ ⟨rfl, rfl, rfl, rfl, 0, rfl, by omega, rfl, by simp [tokRow, upd], by simp [tokRow, upd], by simp [tokRow, upd], rfl⟩
      rintro m T D σ ⟨rfl, t0, t1, t2, i, t10, hi, hm, t7, t8, t9, rfl⟩
      refine G_start ?_
      by_cases hin : (i : Int) < (xs.length : Int)
      · have hlt : i < xs.length := by omega
        have hlt2 : i < ys.length := by omega
        have hux : u = rowI xs := by
          rcases hu with h | ⟨_, h⟩
          · exact h
          · rw [h] at hlt; simp at hlt
        have hvy : v = rowI ys := by
          rcases hv with h | ⟨_, h⟩
          · exact h
          · rw [h] at hlt2; simp at hlt2
        subst hux hvy
        have b1 := low_bound (xs.getD i 0)
        have b2 := low_bound (ys.getD i 0)
        have e3 : IntKind.i64.wrap ((i : Int) + 1) = ((i + 1 : Nat) : Int) := by rw [wrap_i64 (by omega) (by omega)]; omega
        obtain ⟨q1, q2, g1, g2, g3⟩ := grow3 (lows (xs.take i)) (lows (ys.take i)) (List.zipWith (· + ·) (lows (xs.take i)) (lows (ys.take i))) i (by simp; omega) (by simp; omega) (by simp; omega) (by omega) [] (low (xs.getD i 0)) (low (ys.getD i 0)) (low (xs.getD i 0) + low (ys.getD i 0))
        rw [← lows_take xs i hlt] at g1
        rw [← lows_take ys i hlt2] at g2
        rw [← both_take xs ys i hlt hlt2] at g3
        have e4 : IntKind.i64.wrap (low (xs.getD i 0) + low (ys.getD i 0)) = low (xs.getD i 0) + low (ys.getD i 0) := by rw [wrap_i64 (by omega) (by omega)]
        have r1 : ∀ x : Int, x.tmod 72057594037927936 = low x := fun _ => rfl
        simp only [G_seq, G_block, G_skip_code, G_skip_blk, G_skip_nil, G_exit_code, G_exit_blk, G_exit_nil, G_ret_code, G_ret_blk, G_ret_nil, G_cond, G_cond_const, G_loop, G_region, G_draw, GL_nil, GL_op, GL_none, GL_guard, GS_some, GS_ite, GS_nite, GN_some, GN_ite, GN_nite, GB_true, GB_false, GB_dec, GG_true_true, GG_true_false, GG_false_true, GG_false_false, GG_true_dec, GG_false_dec, opT_move, opT_assign, opT_pick, pickO_true, pickO_false, opT_binOp, binO_some, opT_unOp, opT_extract, extrO_tup, opT_indexAddr, idxO_slice, opT_load, opT_call, opT_len, opT_append, opT_convert, convO_int, callV_func, evalT, upd_at, Nat.reduceLT, Nat.reduceEqDiff, if_true, if_false, reduceIte, true_and, map_mk, bind_mk, map_ite', map_nite, bind_ite', bind_nite, vBin_add, vBin_sub, vBin_mul, vBin_eql, vBin_neq, vBin_lss, vBin_leq, vBin_gtr, vBin_geq, vBin_rem, vBin_quo, vBin_beql, vBin_bneq, vUn_not, vUn_true, vUn_false, index_row, len_row, len_nilsl, listO_nil, listO_cons, ofVal, ofCell, argT, List.getD_cons_zero, List.getD_cons_succ, List.getElem?_toArray, List.getElem?_cons_zero, List.getElem?_cons_succ, List.nil_append, List.cons_append, List.append_nil, resT, wpR_nil, V1_some, Nat.mul_one, load_row, load_ptr, cellAt_some, opT_store, store_ptr, storeAt_some, cells_row, isCell_row, cells_nilsl, push_mk, set_mk, setT, vUn_neg, opT_max, opT_min, max_two, min_two, List.append_eq, opT_makeFunc, opT_fieldAddr, opT_build, partsO_nil, partsO_cons, faddr_ptr, faddr_rptr, cells_agg, push_last, Nat.add_zero, opT_box, opT_alloc, ints_get, post_norm, post_exit, post_ret, Int.toNat_natCast, Bool.false_eq_true, Int.reduceEq, Int.reduceLT, Int.reduceLE, Int.reduceNeg, not_false_eq_true, and_self, map_nothing, bind_nothing, Int.natCast_one, Int.cast_ofNat_Int, not_true_eq_false, decide_true, decide_false, true_implies, false_implies, Int.toNat_zero, List.length_cons, List.length_nil, Nat.zero_add, mb, Nat.reduceBEq, Bool.false_and, Bool.and_false, cells_int, tys, stb, GK_nil, GK_op, GKS_some, GKS_none, GKS_ite, GKS_nite, Bool.or_false, Bool.false_or, Bool.true_and, Bool.or_true, Bool.true_or, t0, t1, t2, t10, t7, t8, t9, hin, hlt, hlt2, e3, r1, bs1, g1, g2, g3, e4, hlx]
        exact ⟨by kernel_rfl, ⟨by omega, trivial⟩, ⟨by omega, by omega⟩, xs.length - (i + 1), by omega, i + 1, rfl, by omega, rfl, rfl, rfl, rfl, rfl⟩
      · have hieq : i = xs.length := by omega
        subst hieq
        simp only [List.take_length] at t7 t8 t9
        rw [hxy, List.take_length] at t8 t9
        have wA := lows_within xs
        have wB := lows_within ys
        have hadd := fun l h15 => wsum_add (lows xs) (lows ys) (by simp; omega) wA wB l h15
        have hbig : ∀ z : List Int, Within z 72057594037927936 → Within z 288230376151711744 := fun z h x hx => by have := h x hx; omega
        have wC : Within (List.zipWith (· + ·) (lows xs) (lows ys)) 288230376151711744 := by
          rw [within_iff]
          intro j hj
          simp only [List.length_zipWith, List.length_map] at hj
          have h1 := (within_iff _ _).1 wA j (by simp; omega)
          have h2 := (within_iff _ _).1 wB j (by simp; omega)
          have e : (List.zipWith (· + ·) (lows xs) (lows ys)).getD j 0 = (lows xs).getD j 0 + (lows ys).getD j 0 := by simp [List.getD, List.getElem?_zipWith, show j < xs.length by omega, show j < ys.length by omega]
          rw [e]
          omega
        have lA : (lows xs).length = xs.length := by simp
        have lB : (lows ys).length = xs.length := by simp; omega
        have lC : (List.zipWith (· + ·) (lows xs) (lows ys)).length = xs.length := by simp; omega
        have pA := tokRow_prefix (lows xs) (by omega) 0 n
        have pB := tokRow_prefix (lows ys) (by omega) 1 n
        have pC := tokRow_prefix (List.zipWith (· + ·) (lows xs) (lows ys)) (by omega) 2 n
        have wA' := hbig _ wA
        have wB' := hbig _ wB
        have e0 : IntKind.i64.wrap (0 + 0) = 0 := rfl
        generalize lows xs = A at *
        generalize lows ys = B at *
        generalize List.zipWith (· + ·) A B = C at *
        by_cases hn : n < 1 ∨ 128 < n
        · rw [prefV_bad A n wA' 2 (.inl ⟨rfl, hn⟩)] at pA
          rw [prefV_bad B n wB' 2 (.inl ⟨rfl, hn⟩)] at pB
          rw [prefV_bad C n wC 2 (.inl ⟨rfl, hn⟩)] at pC
          simp only [G_seq, G_block, G_skip_code, G_skip_blk, G_skip_nil, G_exit_code, G_exit_blk, G_exit_nil, G_ret_code, G_ret_blk, G_ret_nil, G_cond, G_cond_const, G_loop, G_region, G_draw, GL_nil, GL_op, GL_none, GL_guard, GS_some, GS_ite, GS_nite, GN_some, GN_ite, GN_nite, GB_true, GB_false, GB_dec, GG_true_true, GG_true_false, GG_false_true, GG_false_false, GG_true_dec, GG_false_dec, opT_move, opT_assign, opT_pick, pickO_true, pickO_false, opT_binOp, binO_some, opT_unOp, opT_extract, extrO_tup, opT_indexAddr, idxO_slice, opT_load, opT_call, opT_len, opT_append, opT_convert, convO_int, callV_func, evalT, upd_at, Nat.reduceLT, Nat.reduceEqDiff, if_true, if_false, reduceIte, true_and, map_mk, bind_mk, map_ite', map_nite, bind_ite', bind_nite, vBin_add, vBin_sub, vBin_mul, vBin_eql, vBin_neq, vBin_lss, vBin_leq, vBin_gtr, vBin_geq, vBin_rem, vBin_quo, vBin_beql, vBin_bneq, vUn_not, vUn_true, vUn_false, index_row, len_row, len_nilsl, listO_nil, listO_cons, ofVal, ofCell, argT, List.getD_cons_zero, List.getD_cons_succ, List.getElem?_toArray, List.getElem?_cons_zero, List.getElem?_cons_succ, List.nil_append, List.cons_append, List.append_nil, resT, wpR_nil, V1_some, Nat.mul_one, load_row, load_ptr, cellAt_some, opT_store, store_ptr, storeAt_some, cells_row, isCell_row, cells_nilsl, push_mk, set_mk, setT, vUn_neg, opT_max, opT_min, max_two, min_two, List.append_eq, opT_makeFunc, opT_fieldAddr, opT_build, partsO_nil, partsO_cons, faddr_ptr, faddr_rptr, cells_agg, push_last, Nat.add_zero, opT_box, opT_alloc, ints_get, post_norm, post_exit, post_ret, Int.toNat_natCast, Bool.false_eq_true, Int.reduceEq, Int.reduceLT, Int.reduceLE, Int.reduceNeg, not_false_eq_true, and_self, map_nothing, bind_nothing, Int.natCast_one, Int.cast_ofNat_Int, not_true_eq_false, decide_true, decide_false, true_implies, false_implies, Int.toNat_zero, List.length_cons, List.length_nil, Nat.zero_add, mb, Nat.reduceBEq, Bool.false_and, Bool.and_false, cells_int, tys, stb, GK_nil, GK_op, GKS_some, GKS_none, GKS_ite, GKS_nite, Bool.or_false, Bool.false_or, Bool.true_and, Bool.or_true, Bool.true_or, t0, t1, t2, t10, t7, t8, t9, hin, hlx, pA, pB, pC, e0]
          rfl
        · by_cases hs : xs.length ≠ 2 ^ (hgt n + 1) - 1
          · rw [prefV_bad A n wA' 16 (.inr ⟨rfl, hn, by rw [lA]; exact hs⟩)] at pA
            rw [prefV_bad B n wB' 16 (.inr ⟨rfl, hn, by rw [lB]; exact hs⟩)] at pB
            rw [prefV_bad C n wC 16 (.inr ⟨rfl, hn, by rw [lC]; exact hs⟩)] at pC
            simp only [G_seq, G_block, G_skip_code, G_skip_blk, G_skip_nil, G_exit_code, G_exit_blk, G_exit_nil, G_ret_code, G_ret_blk, G_ret_nil, G_cond, G_cond_const, G_loop, G_region, G_draw, GL_nil, GL_op, GL_none, GL_guard, GS_some, GS_ite, GS_nite, GN_some, GN_ite, GN_nite, GB_true, GB_false, GB_dec, GG_true_true, GG_true_false, GG_false_true, GG_false_false, GG_true_dec, GG_false_dec, opT_move, opT_assign, opT_pick, pickO_true, pickO_false, opT_binOp, binO_some, opT_unOp, opT_extract, extrO_tup, opT_indexAddr, idxO_slice, opT_load, opT_call, opT_len, opT_append, opT_convert, convO_int, callV_func, evalT, upd_at, Nat.reduceLT, Nat.reduceEqDiff, if_true, if_false, reduceIte, true_and, map_mk, bind_mk, map_ite', map_nite, bind_ite', bind_nite, vBin_add, vBin_sub, vBin_mul, vBin_eql, vBin_neq, vBin_lss, vBin_leq, vBin_gtr, vBin_geq, vBin_rem, vBin_quo, vBin_beql, vBin_bneq, vUn_not, vUn_true, vUn_false, index_row, len_row, len_nilsl, listO_nil, listO_cons, ofVal, ofCell, argT, List.getD_cons_zero, List.getD_cons_succ, List.getElem?_toArray, List.getElem?_cons_zero, List.getElem?_cons_succ, List.nil_append, List.cons_append, List.append_nil, resT, wpR_nil, V1_some, Nat.mul_one, load_row, load_ptr, cellAt_some, opT_store, store_ptr, storeAt_some, cells_row, isCell_row, cells_nilsl, push_mk, set_mk, setT, vUn_neg, opT_max, opT_min, max_two, min_two, List.append_eq, opT_makeFunc, opT_fieldAddr, opT_build, partsO_nil, partsO_cons, faddr_ptr, faddr_rptr, cells_agg, push_last, Nat.add_zero, opT_box, opT_alloc, ints_get, post_norm, post_exit, post_ret, Int.toNat_natCast, Bool.false_eq_true, Int.reduceEq, Int.reduceLT, Int.reduceLE, Int.reduceNeg, not_false_eq_true, and_self, map_nothing, bind_nothing, Int.natCast_one, Int.cast_ofNat_Int, not_true_eq_false, decide_true, decide_false, true_implies, false_implies, Int.toNat_zero, List.length_cons, List.length_nil, Nat.zero_add, mb, Nat.reduceBEq, Bool.false_and, Bool.and_false, cells_int, tys, stb, GK_nil, GK_op, GKS_some, GKS_none, GKS_ite, GKS_nite, Bool.or_false, Bool.false_or, Bool.true_and, Bool.or_true, Bool.true_or, t0, t1, t2, t10, t7, t8, t9, hin, hlx, pA, pB, pC, e0]
            rfl
          · have hs' : xs.length = 2 ^ (hgt n + 1) - 1 := Classical.not_not.1 hs
            rw [prefV_good A n wA' hn (by rw [lA]; exact hs')] at pA
            rw [prefV_good B n wB' hn (by rw [lB]; exact hs')] at pB
            rw [prefV_good C n wC hn (by rw [lC]; exact hs')] at pC
            have hh := hgt_le n
            have slA : (((sums (hgt n) A n.toNat).length : Nat) : Int) = n := by simp; omega
            have slB : (((sums (hgt n) B n.toNat).length : Nat) : Int) = n := by simp; omega
            have slC : (((sums (hgt n) C n.toNat).length : Nat) : Int) = n := by simp; omega
            have hv3 : ∀ i : Nat, i < n.toNat → IntKind.i64.wrap ((sums (hgt n) A n.toNat).getD i 0 + (sums (hgt n) B n.toNat).getD i 0) = (sums (hgt n) C n.toNat).getD i 0 := fun i hi => by
              have hc2 := cov_len2 (hgt n) 0 0 (i + 1)
              obtain ⟨h1, h2, h3⟩ := hadd (cov (hgt n) 0 0 (i + 1)) (by omega)
              simp only [sums, getD_map_range _ _ _ hi, h1]
              exact wrap_i64 h2 h3
            generalize sums (hgt n) A n.toNat = SA at *
            generalize sums (hgt n) B n.toNat = SB at *
            generalize sums (hgt n) C n.toNat = SC at *
            simp only [G_seq, G_block, G_skip_code, G_skip_blk, G_skip_nil, G_exit_code, G_exit_blk, G_exit_nil, G_ret_code, G_ret_blk, G_ret_nil, G_cond, G_cond_const, G_loop, G_region, G_draw, GL_nil, GL_op, GL_none, GL_guard, GS_some, GS_ite, GS_nite, GN_some, GN_ite, GN_nite, GB_true, GB_false, GB_dec, GG_true_true, GG_true_false, GG_false_true, GG_false_false, GG_true_dec, GG_false_dec, opT_move, opT_assign, opT_pick, pickO_true, pickO_false, opT_binOp, binO_some, opT_unOp, opT_extract, extrO_tup, opT_indexAddr, idxO_slice, opT_load, opT_call, opT_len, opT_append, opT_convert, convO_int, callV_func, evalT, upd_at, Nat.reduceLT, Nat.reduceEqDiff, if_true, if_false, reduceIte, true_and, map_mk, bind_mk, map_ite', map_nite, bind_ite', bind_nite, vBin_add, vBin_sub, vBin_mul, vBin_eql, vBin_neq, vBin_lss, vBin_leq, vBin_gtr, vBin_geq, vBin_rem, vBin_quo, vBin_beql, vBin_bneq, vUn_not, vUn_true, vUn_false, index_row, len_row, len_nilsl, listO_nil, listO_cons, ofVal, ofCell, argT, List.getD_cons_zero, List.getD_cons_succ, List.getElem?_toArray, List.getElem?_cons_zero, List.getElem?_cons_succ, List.nil_append, List.cons_append, List.append_nil, resT, wpR_nil, V1_some, Nat.mul_one, load_row, load_ptr, cellAt_some, opT_store, store_ptr, storeAt_some, cells_row, isCell_row, cells_nilsl, push_mk, set_mk, setT, vUn_neg, opT_max, opT_min, max_two, min_two, List.append_eq, opT_makeFunc, opT_fieldAddr, opT_build, partsO_nil, partsO_cons, faddr_ptr, faddr_rptr, cells_agg, push_last, Nat.add_zero, opT_box, opT_alloc, ints_get, post_norm, post_exit, post_ret, Int.toNat_natCast, Bool.false_eq_true, Int.reduceEq, Int.reduceLT, Int.reduceLE, Int.reduceNeg, not_false_eq_true, and_self, map_nothing, bind_nothing, Int.natCast_one, Int.cast_ofNat_Int, not_true_eq_false, decide_true, decide_false, true_implies, false_implies, Int.toNat_zero, List.length_cons, List.length_nil, Nat.zero_add, mb, Nat.reduceBEq, Bool.false_and, Bool.and_false, cells_int, tys, stb, GK_nil, GK_op, GKS_some, GKS_none, GKS_ite, GKS_nite, Bool.or_false, Bool.false_or, Bool.true_and, Bool.or_true, Bool.true_or, t0, t1, t2, t10, t7, t8, t9, hin, hlx, pA, pB, pC, slA, slB, slC, eq_self]
            refine loop_rule (fun m T D σ => D = [] ∧ σ = ⟨[], toks3 xs.length⟩ ∧ T 2 = .int .i64 n ∧ T 13 = rowI SA ∧ T 15 = rowI SB ∧ T 17 = rowI SC ∧ ∃ i : Nat, T 19 = .int .i64 i ∧ (i : Int) ≤ n ∧ m = n.toNat - i) ?_ _ _ _ _ ⟨rfl, rfl, t2, rfl, rfl, rfl, 0, rfl, by omega, rfl⟩
            clear t0 t1 t2 t10 t7 t8 t9
            rintro m T D σ ⟨rfl, rfl, t2, t13, t15, t17, i, t19, hi, hm⟩
            refine G_start ?_
            by_cases hin2 : (i : Int) < n
            · have e3 : IntKind.i64.wrap ((i : Int) + 1) = ((i + 1 : Nat) : Int) := by rw [wrap_i64 (by omega) (by omega)]; omega
              have q1 : i < SA.length := by omega
              have q2 : i < SB.length := by omega
              have q3 : i < SC.length := by omega
              simp only [G_seq, G_block, G_skip_code, G_skip_blk, G_skip_nil, G_exit_code, G_exit_blk, G_exit_nil, G_ret_code, G_ret_blk, G_ret_nil, G_cond, G_cond_const, G_loop, G_region, G_draw, GL_nil, GL_op, GL_none, GL_guard, GS_some, GS_ite, GS_nite, GN_some, GN_ite, GN_nite, GB_true, GB_false, GB_dec, GG_true_true, GG_true_false, GG_false_true, GG_false_false, GG_true_dec, GG_false_dec, opT_move, opT_assign, opT_pick, pickO_true, pickO_false, opT_binOp, binO_some, opT_unOp, opT_extract, extrO_tup, opT_indexAddr, idxO_slice, opT_load, opT_call, opT_len, opT_append, opT_convert, convO_int, callV_func, evalT, upd_at, Nat.reduceLT, Nat.reduceEqDiff, if_true, if_false, reduceIte, true_and, map_mk, bind_mk, map_ite', map_nite, bind_ite', bind_nite, vBin_add, vBin_sub, vBin_mul, vBin_eql, vBin_neq, vBin_lss, vBin_leq, vBin_gtr, vBin_geq, vBin_rem, vBin_quo, vBin_beql, vBin_bneq, vUn_not, vUn_true, vUn_false, index_row, len_row, len_nilsl, listO_nil, listO_cons, ofVal, ofCell, argT, List.getD_cons_zero, List.getD_cons_succ, List.getElem?_toArray, List.getElem?_cons_zero, List.getElem?_cons_succ, List.nil_append, List.cons_append, List.append_nil, resT, wpR_nil, V1_some, Nat.mul_one, load_row, load_ptr, cellAt_some, opT_store, store_ptr, storeAt_some, cells_row, isCell_row, cells_nilsl, push_mk, set_mk, setT, vUn_neg, opT_max, opT_min, max_two, min_two, List.append_eq, opT_makeFunc, opT_fieldAddr, opT_build, partsO_nil, partsO_cons, faddr_ptr, faddr_rptr, cells_agg, push_last, Nat.add_zero, opT_box, opT_alloc, ints_get, post_norm, post_exit, post_ret, Int.toNat_natCast, Bool.false_eq_true, Int.reduceEq, Int.reduceLT, Int.reduceLE, Int.reduceNeg, not_false_eq_true, and_self, map_nothing, bind_nothing, Int.natCast_one, Int.cast_ofNat_Int, not_true_eq_false, decide_true, decide_false, true_implies, false_implies, Int.toNat_zero, List.length_cons, List.length_nil, Nat.zero_add, mb, Nat.reduceBEq, Bool.false_and, Bool.and_false, cells_int, tys, stb, GK_nil, GK_op, GKS_some, GKS_none, GKS_ite, GKS_nite, Bool.or_false, Bool.false_or, Bool.true_and, Bool.or_true, Bool.true_or, t2, t13, t15, t17, t19, hin2, e3, q1, q2, q3, slA, slB, slC, hv3 i (by omega), eq_self]
              exact ⟨by kernel_rfl, ⟨by omega, trivial⟩, ⟨by omega, trivial⟩, ⟨by omega, trivial⟩, n.toNat - (i + 1), by omega, i + 1, rfl, by omega, rfl⟩
            · simp only [G_seq, G_block, G_skip_code, G_skip_blk, G_skip_nil, G_exit_code, G_exit_blk, G_exit_nil, G_ret_code, G_ret_blk, G_ret_nil, G_cond, G_cond_const, G_loop, G_region, G_draw, GL_nil, GL_op, GL_none, GL_guard, GS_some, GS_ite, GS_nite, GN_some, GN_ite, GN_nite, GB_true, GB_false, GB_dec, GG_true_true, GG_true_false, GG_false_true, GG_false_false, GG_true_dec, GG_false_dec, opT_move, opT_assign, opT_pick, pickO_true, pickO_false, opT_binOp, binO_some, opT_unOp, opT_extract, extrO_tup, opT_indexAddr, idxO_slice, opT_load, opT_call, opT_len, opT_append, opT_convert, convO_int, callV_func, evalT, upd_at, Nat.reduceLT, Nat.reduceEqDiff, if_true, if_false, reduceIte, true_and, map_mk, bind_mk, map_ite', map_nite, bind_ite', bind_nite, vBin_add, vBin_sub, vBin_mul, vBin_eql, vBin_neq, vBin_lss, vBin_leq, vBin_gtr, vBin_geq, vBin_rem, vBin_quo, vBin_beql, vBin_bneq, vUn_not, vUn_true, vUn_false, index_row, len_row, len_nilsl, listO_nil, listO_cons, ofVal, ofCell, argT, List.getD_cons_zero, List.getD_cons_succ, List.getElem?_toArray, List.getElem?_cons_zero, List.getElem?_cons_succ, List.nil_append, List.cons_append, List.append_nil, resT, wpR_nil, V1_some, Nat.mul_one, load_row, load_ptr, cellAt_some, opT_store, store_ptr, storeAt_some, cells_row, isCell_row, cells_nilsl, push_mk, set_mk, setT, vUn_neg, opT_max, opT_min, max_two, min_two, List.append_eq, opT_makeFunc, opT_fieldAddr, opT_build, partsO_nil, partsO_cons, faddr_ptr, faddr_rptr, cells_agg, push_last, Nat.add_zero, opT_box, opT_alloc, ints_get, post_norm, post_exit, post_ret, Int.toNat_natCast, Bool.false_eq_true, Int.reduceEq, Int.reduceLT, Int.reduceLE, Int.reduceNeg, not_false_eq_true, and_self, map_nothing, bind_nothing, Int.natCast_one, Int.cast_ofNat_Int, not_true_eq_false, decide_true, decide_false, true_implies, false_implies, Int.toNat_zero, List.length_cons, List.length_nil, Nat.zero_add, mb, Nat.reduceBEq, Bool.false_and, Bool.and_false, cells_int, tys, stb, GK_nil, GK_op, GKS_some, GKS_none, GKS_ite, GKS_nite, Bool.or_false, Bool.false_or, Bool.true_and, Bool.or_true, Bool.true_or, t2, t13, t15, t17, t19, hin2]
              rfl
    · simp only [Try.f4, G_seq, G_block, G_skip_code, G_skip_blk, G_skip_nil, G_exit_code, G_exit_blk, G_exit_nil, G_ret_code, G_ret_blk, G_ret_nil, G_cond, G_cond_const, G_loop, G_region, G_draw, GL_nil, GL_op, GL_none, GL_guard, GS_some, GS_ite, GS_nite, GN_some, GN_ite, GN_nite, GB_true, GB_false, GB_dec, GG_true_true, GG_true_false, GG_false_true, GG_false_false, GG_true_dec, GG_false_dec, opT_move, opT_assign, opT_pick, pickO_true, pickO_false, opT_binOp, binO_some, opT_unOp, opT_extract, extrO_tup, opT_indexAddr, idxO_slice, opT_load, opT_call, opT_len, opT_append, opT_convert, convO_int, callV_func, evalT, upd_at, Nat.reduceLT, Nat.reduceEqDiff, if_true, if_false, reduceIte, true_and, map_mk, bind_mk, map_ite', map_nite, bind_ite', bind_nite, vBin_add, vBin_sub, vBin_mul, vBin_eql, vBin_neq, vBin_lss, vBin_leq, vBin_gtr, vBin_geq, vBin_rem, vBin_quo, vBin_beql, vBin_bneq, vUn_not, vUn_true, vUn_false, index_row, len_row, len_nilsl, listO_nil, listO_cons, ofVal, ofCell, argT, List.getD_cons_zero, List.getD_cons_succ, List.getElem?_toArray, List.getElem?_cons_zero, List.getElem?_cons_succ, List.nil_append, List.cons_append, List.append_nil, resT, wpR_nil, V1_some, Nat.mul_one, load_row, load_ptr, cellAt_some, opT_store, store_ptr, storeAt_some, cells_row, isCell_row, cells_nilsl, push_mk, set_mk, setT, vUn_neg, opT_max, opT_min, max_two, min_two, List.append_eq, opT_makeFunc, opT_fieldAddr, opT_build, partsO_nil, partsO_cons, faddr_ptr, faddr_rptr, cells_agg, push_last, Nat.add_zero, opT_box, opT_alloc, ints_get, post_norm, post_exit, post_ret, Int.toNat_natCast, Bool.false_eq_true, Int.reduceEq, Int.reduceLT, Int.reduceLE, Int.reduceNeg, not_false_eq_true, and_self, map_nothing, bind_nothing, Int.natCast_one, Int.cast_ofNat_Int, not_true_eq_false, decide_true, decide_false, true_implies, false_implies, Int.toNat_zero, List.length_cons, List.length_nil, Nat.zero_add, mb, Nat.reduceBEq, Bool.false_and, Bool.and_false, cells_int, tys, stb, GK_nil, GK_op, GKS_some, GKS_none, GKS_ite, GKS_nite, Bool.or_false, Bool.false_or, Bool.true_and, Bool.or_true, Bool.true_or, lives_call, hlx, hly, hl, he]
      rfl
end Go.Proofs.Ytkomkiejakcilaa
