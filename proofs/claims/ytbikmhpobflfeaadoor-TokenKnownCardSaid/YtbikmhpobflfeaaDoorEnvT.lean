/- Proved here: that Times repeats a string, and the setting of the rows. Conditions: those of each theorem; no statement of the seat is proved in this text. -/
import Derived.Test.YtbikmhpobflfeaaDoorAbE
import Derived.Test.YtbikmhpobflfeaaDoorRows
import Derived.Test.YtbikmhpobflfeaaDoorProg
namespace Go.Proofs.YtbikmhpobflfeaaDoor
open Go.Ab
set_option linter.unusedVariables false
def asciiV (s : String) : V := .str (s.toList.map fun c => UInt8.ofNat c.toNat)
def resV' : List V := ["above", "and", "batch", "between", "bits", "by", "consistent", "count", "else", "factor", "from", "histogram", "identity", "if", "join", "keep", "late", "limit", "mode", "none", "not", "of", "on", "or", "peak", "prefix", "quantile", "running", "sum", "then", "total", "tree", "using", "where", "with"].map asciiV
def glV (g : Nat) : Option V :=
  match g with
  | 0 => some (.rptr resV')
  | _ => none
def memN (f : Nat) : List Nat → Bool
  | [] => false
  | g :: r => match Nat.beq f g with
    | true => true
    | false => memN f r
def pureL : List Nat := [18, 35, 38, 55, 52, 114, 120]
def mutL : List Nat := [59, 82, 83]
def hook1 (f : FuncId) : Option (List V → Option V) := match Nat.beq f 130 with | true => some sameV1 | false => none
/-- the setting in which strings are repeated -/
noncomputable def env1 : Env := { P := Tryd.prog, pure := fun f => memN f pureL, mutb := fun f _ => memN f mutL, gl := glV, hook := hook1, rowB := true }
set_option maxRecDepth 100000
theorem gl_cases {g : Nat} {v : V} (h : glV g = some v) : g = 0 ∧ v = .rptr resV' := by
  unfold glV at h
  split at h
  · simp at h; exact ⟨rfl, h.symm⟩
  · simp at h
theorem env1_ok : env1.Ok :=
  { mixed := by kernel_rfl
    glc := fun g v h => by
      obtain ⟨_, rfl⟩ := gl_cases h
      kernel_rfl
    hook := fun f g h => by
      simp only [env1, hook1] at h
      split at h
      · rename_i hf
        have e := Nat.eq_of_beq_eq_true hf
        subst e
        simp only [Option.some.injEq] at h
        subst h
        exact sameV1_ok (E := env1) (fn := Tryd.f130) Tryd.func130 (by kernel_rfl) (by kernel_rfl) (by kernel_rfl) rfl
      · simp at h }
theorem gl_ok {W : World} {l : List (String × DataW Unit)} (h : laidMetH Tryd.prog l W) (hp : (l.all fun x => x.2.handleName?.isNone) = true) (m0 : ("privhouse/schema.reserved", Rows.laid_privhouse_schema_reserved) ∈ l) : GOK env1 (Ctx.top W) := by
  intro g v hv
  obtain ⟨rfl, rfl⟩ := gl_cases hv
  exact global_rel (k := 5) h hp m0 (g := 0) (t := 72) (by kernel_rfl) (by kernel_rfl) (by kernel_rfl)
end Go.Proofs.YtbikmhpobflfeaaDoor

namespace Go.Proofs.YtbikmhpobflfeaaDoor
open Go.Ab
set_option maxRecDepth 100000
set_option linter.unusedSimpArgs false
set_option linter.unusedVariables false
theorem u3 : env1.P.underlying 3 = some (.int .i64) := by kernel_rfl
theorem u9 : env1.P.underlying 9 = some .string := by kernel_rfl
theorem u5 : env1.P.underlying 5 = some (.int .u8) := by kernel_rfl
theorem u97 : env1.P.underlying 97 = some (.slice 5) := by kernel_rfl
theorem s5 : sz env1 5 = some 1 := by kernel_rfl
theorem b5 : bys env1 5 = some 1 := by kernel_rfl
theorem e97 : elemS env1 97 = some 5 := by kernel_rfl
theorem z5 : zeroN env1 5 = some 1 := by kernel_rfl
theorem zv5 : ∃ z, zeroV env1 5 = some z ∧ z.cells.length = 1 := ⟨.int .u8 0, by kernel_rfl, rfl⟩
theorem tys : env1.P.underlying 3 = some (.int .i64) ∧ env1.P.underlying 9 = some .string ∧ env1.P.underlying 97 = some (.slice 5) := ⟨u3, u9, u97⟩
theorem mb (r : Nat) : env1.mutb 38 r = false := rfl
theorem stb (f : FuncId) (r : Nat) : env1.stab f r = false := rfl
theorem at38 : env1.P.funcs[38]? = some Tryd.f38 := by kernel_rfl

def repS (n : Nat) (s : List UInt8) : List UInt8 := (List.replicate n s).flatten
theorem repS_len (n : Nat) (s : List UInt8) : (repS n s).length = n * s.length := by
  simp [repS]
theorem repS_succ (n : Nat) (s : List UInt8) : repS (n + 1) s = repS n s ++ s := by
  unfold repS
  rw [List.replicate_succ', List.flatten_append]
  simp

theorem bytesOf_cells : ∀ s : List UInt8, bytesOf (byteCells s) = some s
  | [] => rfl
  | b :: s => by
    have h := bytesOf_cells s
    unfold byteCells at h ⊢
    simp only [List.map_cons, bytesOf, h, Option.map_some, Option.some.injEq, List.cons.injEq, and_true]
    simp

noncomputable def mkO (σ : S) (v : V) : Option (V × S) := astate env1 false (fun o => match o with | .const c => ofVal c | _ => some v) σ (.makeSlice 97 (.const (.int .i64 0)) (.tmp 0))
theorem make_op {T : Tm} {σ : S} (x : Operand) : opT env1 false T σ (.makeSlice 97 (.const (.int .i64 0)) x) = (evalT env1 T x).bind (mkO σ) := by
  have e : opT env1 false T σ (.makeSlice 97 (.const (.int .i64 0)) x) = astate env1 false (evalT env1 T) σ (.makeSlice 97 (.const (.int .i64 0)) x) := rfl
  rw [e]
  unfold mkO
  simp only [astate]
  cases evalT env1 T x <;> rfl
theorem mkO_pos {σ : S} {c : Int} (h1 : 0 < c) (h2 : c ≤ lim) : mkO σ (.int .i64 c) = some (.row [] 0 (.tok σ.toks.length 0 1), ⟨σ.heap, σ.toks ++ [0]⟩) := by
  obtain ⟨z, hz, hl⟩ := zv5
  have h3 : ¬ (0 : Int) = c := by omega
  have h4 : ¬ c.toNat = 0 := by omega
  have h5 : (0 : Int) ≤ c := by omega
  have h6 : c * ((1 : Nat) : Int) ≤ (lim : Int) := by omega
  unfold mkO
  simp only [astate, ofVal, ofCell, Option.bind_some, e97, s5, b5, hz, hl, Nat.mul_one, h4, h5, h2, h3, h6, if_false, if_true, and_self, true_and, or_false, Int.le_refl, Bool.false_eq_true, Int.toNat_zero, List.take_zero]
theorem len_str {s : List UInt8} : vLenT (some .string) (.str s) = some (.int .i64 s.length) := rfl
theorem app_str {hp : List AObj} {ts : List Nat} {cs : List V} {k e : Nat} (hk : ts[k]? = some e) {s : List UInt8} (hn : s.length ≠ 0) (hb : cs.length + s.length ≤ lim) :
    appO env1 false ⟨hp, ts⟩ 97 9 (.row cs cs.length (.tok k e 1)) (.str s) = some (.row (cs ++ byteCells s) (cs ++ byteCells s).length (.tok k (e + 1) 1), ⟨hp, ts.set k (e + 1)⟩) := by
  have hc : (byteCells s).all V.isCell = true := by
    simp [byteCells, V.isCell]
  have hv : vCells hp 1 s.length (.str s) = some (byteCells s) := by simp [vCells, byteCells]
  have hl : (byteCells s).length = s.length := by simp [byteCells]
  unfold appO
  simp only [e97, s5, b5, u9, z5, vLen, hv, Option.bind_some, if_true]
  simp only [aappend, hn, if_false, hb, hc, hk, Nat.mul_one, and_self, if_true, List.length_append, hl]

theorem conv_row {hp : List AObj} {ts : List Nat} {s : List UInt8} {c : RCap} {a b : TypeId} : convO env1 ⟨hp, ts⟩ a b (some (.slice 5)) (some .string) (.row (byteCells s) (byteCells s).length c) = some (.str s, ⟨hp, ts⟩) := by
  have hv : vCells hp 1 (byteCells s).length (.row (byteCells s) (byteCells s).length c) = some (byteCells s) := by simp [vCells]
  simp [convO, convP, convR, u5, hv, bytesOf_cells]

theorem times_ok (s : List UInt8) (n : Nat) (hs : s.length ≠ 0) (hs2 : s.length ≤ 1000) (h1 : 1 ≤ n) (h2 : n ≤ 10000) (σ : S) : callFn env1 (ev env1) 38 [.str s, .int .i64 n] σ = some (.str (repS n s), σ) := by
  refine callFn_pure rfl rfl rfl at38 rfl (by simp [Tryd.f38]) (by simp [Tryd.f38]) (G_start ?_) σ
  have c1 : (n : Int) > 0 := by omega
  have hm : 0 < (n : Int) * (s.length : Int) ∧ (n : Int) * (s.length : Int) ≤ 10000000 := by
    have h3 : n * s.length ≤ 10000 * 1000 := Nat.mul_le_mul h2 hs2
    have h4 : 0 < n * s.length := Nat.mul_pos (by omega) (by omega)
    have h5 : ((n * s.length : Nat) : Int) = (n : Int) * (s.length : Int) := by simp
    omega
  have e1 : IntKind.i64.wrap ((n : Int) * (s.length : Int)) = (n : Int) * (s.length : Int) := Go.IntWalk.i64_in _ (by omega)
  have c2 : 0 < (n : Int) * (s.length : Int) ∧ (n : Int) * (s.length : Int) ≤ ((lim : Nat) : Int) := ⟨hm.1, by unfold lim; omega⟩
  simp only [Tryd.f38, G_seq, G_block, G_skip_code, G_skip_blk, G_skip_nil, G_exit_code, G_exit_blk, G_exit_nil, G_ret_code, G_ret_blk, G_ret_nil, G_cond, G_cond_const, G_loop, G_region, G_draw, GL_nil, GL_op, GL_none, GL_guard, GS_some, GS_ite, GS_nite, GN_some, GN_ite, GN_nite, GB_true, GB_false, GB_dec, GG_true_true, GG_true_false, GG_false_true, GG_false_false, GG_true_dec, GG_false_dec, opT_move, opT_assign, opT_pick, pickO_true, pickO_false, opT_binOp, binO_int, binO_str, binO_bool, opT_unOp, opT_extract, extrO_tup, opT_indexAddr, idxO_slice, opT_load, opT_call, opT_len, lenO_slice, lenO_str, opT_append, opT_convert, convO_int, callV_func, evalT, upd_at, Nat.reduceLT, Nat.reduceEqDiff, if_true, if_false, reduceIte, true_and, map_mk, bind_mk, map_ite', map_nite, bind_ite', bind_nite, vBin_add, vBin_sub, vBin_mul, vBin_eql, vBin_neq, vBin_lss, vBin_leq, vBin_gtr, vBin_geq, vBin_rem, vBin_quo, vBin_beql, vBin_bneq, vUn_not, vUn_true, vUn_false, index_row, len_row, len_nilsl, listO_nil, listO_cons, ofVal, ofCell, argT, List.getD_cons_zero, List.getD_cons_succ, List.getElem?_toArray, List.getElem?_cons_zero, List.getElem?_cons_succ, List.nil_append, List.cons_append, List.append_nil, resT, wpR_nil, V1_some, Nat.mul_one, load_row, load_ptr, cellAt_some, opT_store, store_ptr, storeAt_some, cells_row, isCell_row, cells_nilsl, push_mk, set_mk, setT, vUn_neg, opT_max, opT_min, max_two, min_two, List.append_eq, opT_makeFunc, opT_fieldAddr, opT_build, partsO_nil, partsO_cons, faddr_ptr, faddr_rptr, cells_agg, push_last, Nat.add_zero, opT_box, opT_alloc, ints_get, post_norm, post_exit, post_ret, Int.toNat_natCast, Bool.false_eq_true, Int.reduceEq, Int.reduceLT, Int.reduceLE, Int.reduceNeg, not_false_eq_true, and_self, map_nothing, bind_nothing, Int.natCast_one, Int.cast_ofNat_Int, not_true_eq_false, decide_true, decide_false, true_implies, false_implies, Int.toNat_zero, List.length_cons, List.length_nil, Nat.zero_add, mb, Nat.reduceBEq, Bool.false_and, Bool.and_false, cells_int, tys, stb, GK_nil, GK_op, GKS_some, GKS_none, GKS_ite, GKS_nite, Bool.or_false, Bool.false_or, Bool.true_and, Bool.or_true, Bool.true_or, G_scope, G_label, make_op, c1, e1, mkO_pos hm.1 (show (n : Int) * (s.length : Int) ≤ ((lim : Nat) : Int) by unfold lim; omega), S.empty, len_str]
  have hw : ∀ i : Nat, byteCells (repS (i + 1) s) = byteCells (repS i s) ++ byteCells s := by
    intro i; rw [repS_succ]; simp [byteCells]
  have hbl : ∀ i : Nat, (byteCells (repS i s)).length = i * s.length := by
    intro i; simp only [byteCells, List.length_map, repS_len]
  refine loop_rule (fun m T D σ => D = [] ∧ σ.heap = [] ∧ ∃ i k e : Nat, T 0 = .str s ∧ T 1 = .int .i64 n ∧ T 6 = .int .i64 i ∧ i ≤ n ∧ m = n - i ∧
    T 5 = .row (byteCells (repS i s)) (byteCells (repS i s)).length (.tok k e 1) ∧ σ.toks[k]? = some e) ?_ _ _ _ _ ⟨rfl, rfl, 0, 0, 0, rfl, rfl, rfl, by omega, rfl, rfl, rfl⟩
  rintro m T D ⟨hp, ts⟩ ⟨rfl, hh, i, k, e, t0, t1, t6, hi, rfl, t5, hk⟩
  simp only at hh hk
  subst hh
  refine G_start ?_
  by_cases hlt : i < n
  · have d1 : (i : Int) < (n : Int) := by omega
    have d2 : IntKind.i64.wrap ((i : Int) + 1) = ((i + 1 : Nat) : Int) := by rw [wrap_i64 (by omega) (by omega)]; omega
    have hsm : i * s.length ≤ 10000 * 1000 := Nat.mul_le_mul (by omega) hs2
    have hb : (byteCells (repS i s)).length + s.length ≤ lim := by rw [hbl]; unfold lim; omega
    simp only [G_seq, G_block, G_skip_code, G_skip_blk, G_skip_nil, G_exit_code, G_exit_blk, G_exit_nil, G_ret_code, G_ret_blk, G_ret_nil, G_cond, G_cond_const, G_loop, G_region, G_draw, GL_nil, GL_op, GL_none, GL_guard, GS_some, GS_ite, GS_nite, GN_some, GN_ite, GN_nite, GB_true, GB_false, GB_dec, GG_true_true, GG_true_false, GG_false_true, GG_false_false, GG_true_dec, GG_false_dec, opT_move, opT_assign, opT_pick, pickO_true, pickO_false, opT_binOp, binO_int, binO_str, binO_bool, opT_unOp, opT_extract, extrO_tup, opT_indexAddr, idxO_slice, opT_load, opT_call, opT_len, lenO_slice, lenO_str, opT_append, opT_convert, convO_int, callV_func, evalT, upd_at, Nat.reduceLT, Nat.reduceEqDiff, if_true, if_false, reduceIte, true_and, map_mk, bind_mk, map_ite', map_nite, bind_ite', bind_nite, vBin_add, vBin_sub, vBin_mul, vBin_eql, vBin_neq, vBin_lss, vBin_leq, vBin_gtr, vBin_geq, vBin_rem, vBin_quo, vBin_beql, vBin_bneq, vUn_not, vUn_true, vUn_false, index_row, len_row, len_nilsl, listO_nil, listO_cons, ofVal, ofCell, argT, List.getD_cons_zero, List.getD_cons_succ, List.getElem?_toArray, List.getElem?_cons_zero, List.getElem?_cons_succ, List.nil_append, List.cons_append, List.append_nil, resT, wpR_nil, V1_some, Nat.mul_one, load_row, load_ptr, cellAt_some, opT_store, store_ptr, storeAt_some, cells_row, isCell_row, cells_nilsl, push_mk, set_mk, setT, vUn_neg, opT_max, opT_min, max_two, min_two, List.append_eq, opT_makeFunc, opT_fieldAddr, opT_build, partsO_nil, partsO_cons, faddr_ptr, faddr_rptr, cells_agg, push_last, Nat.add_zero, opT_box, opT_alloc, ints_get, post_norm, post_exit, post_ret, Int.toNat_natCast, Bool.false_eq_true, Int.reduceEq, Int.reduceLT, Int.reduceLE, Int.reduceNeg, not_false_eq_true, and_self, map_nothing, bind_nothing, Int.natCast_one, Int.cast_ofNat_Int, not_true_eq_false, decide_true, decide_false, true_implies, false_implies, Int.toNat_zero, List.length_cons, List.length_nil, Nat.zero_add, mb, Nat.reduceBEq, Bool.false_and, Bool.and_false, cells_int, tys, stb, GK_nil, GK_op, GKS_some, GKS_none, GKS_ite, GKS_nite, Bool.or_false, Bool.false_or, Bool.true_and, Bool.or_true, Bool.true_or, G_scope, G_label, t0, t1, t5, t6, d1, d2, app_str hk hs hb]
    refine ⟨n - (i + 1), by omega, i + 1, k, e + 1, rfl, by omega, rfl, ?_, ?_⟩
    · rw [hw]
    · have : k < ts.length := by
        rcases Nat.lt_or_ge k ts.length with h1 | h1
        · exact h1
        · rw [List.getElem?_eq_none h1] at hk; simp at hk
      simp [this]
  · have d1 : ¬ (i : Int) < (n : Int) := by omega
    obtain rfl : i = n := by omega
    simp only [G_seq, G_block, G_skip_code, G_skip_blk, G_skip_nil, G_exit_code, G_exit_blk, G_exit_nil, G_ret_code, G_ret_blk, G_ret_nil, G_cond, G_cond_const, G_loop, G_region, G_draw, GL_nil, GL_op, GL_none, GL_guard, GS_some, GS_ite, GS_nite, GN_some, GN_ite, GN_nite, GB_true, GB_false, GB_dec, GG_true_true, GG_true_false, GG_false_true, GG_false_false, GG_true_dec, GG_false_dec, opT_move, opT_assign, opT_pick, pickO_true, pickO_false, opT_binOp, binO_int, binO_str, binO_bool, opT_unOp, opT_extract, extrO_tup, opT_indexAddr, idxO_slice, opT_load, opT_call, opT_len, lenO_slice, lenO_str, opT_append, opT_convert, convO_int, callV_func, evalT, upd_at, Nat.reduceLT, Nat.reduceEqDiff, if_true, if_false, reduceIte, true_and, map_mk, bind_mk, map_ite', map_nite, bind_ite', bind_nite, vBin_add, vBin_sub, vBin_mul, vBin_eql, vBin_neq, vBin_lss, vBin_leq, vBin_gtr, vBin_geq, vBin_rem, vBin_quo, vBin_beql, vBin_bneq, vUn_not, vUn_true, vUn_false, index_row, len_row, len_nilsl, listO_nil, listO_cons, ofVal, ofCell, argT, List.getD_cons_zero, List.getD_cons_succ, List.getElem?_toArray, List.getElem?_cons_zero, List.getElem?_cons_succ, List.nil_append, List.cons_append, List.append_nil, resT, wpR_nil, V1_some, Nat.mul_one, load_row, load_ptr, cellAt_some, opT_store, store_ptr, storeAt_some, cells_row, isCell_row, cells_nilsl, push_mk, set_mk, setT, vUn_neg, opT_max, opT_min, max_two, min_two, List.append_eq, opT_makeFunc, opT_fieldAddr, opT_build, partsO_nil, partsO_cons, faddr_ptr, faddr_rptr, cells_agg, push_last, Nat.add_zero, opT_box, opT_alloc, ints_get, post_norm, post_exit, post_ret, Int.toNat_natCast, Bool.false_eq_true, Int.reduceEq, Int.reduceLT, Int.reduceLE, Int.reduceNeg, not_false_eq_true, and_self, map_nothing, bind_nothing, Int.natCast_one, Int.cast_ofNat_Int, not_true_eq_false, decide_true, decide_false, true_implies, false_implies, Int.toNat_zero, List.length_cons, List.length_nil, Nat.zero_add, mb, Nat.reduceBEq, Bool.false_and, Bool.and_false, cells_int, tys, stb, GK_nil, GK_op, GKS_some, GKS_none, GKS_ite, GKS_nite, Bool.or_false, Bool.false_or, Bool.true_and, Bool.or_true, Bool.true_or, G_scope, G_label, t0, t1, t5, t6, d1, conv_row]
    simp [oneOr, sealDepth, sealV, V.closed]
end Go.Proofs.YtbikmhpobflfeaaDoor

namespace Go.Proofs.YtbikmhpobflfeaaDoor
open Go.Ab
set_option linter.unusedVariables false
set_option maxRecDepth 100000
/-- strings that are repeated -/
def timesV : List V → Option V
  | [.str s, .int .i64 n] => if s.length ≠ 0 ∧ s.length ≤ 1000 ∧ 1 ≤ n ∧ n ≤ 10000 then some (.str (repS n.toNat s)) else none
  | _ => none
theorem timesV_ok : ∀ args v, timesV args = some v → RowOK env1 38 args v := by
  intro args v hv
  unfold timesV at hv
  split at hv
  · rename_i s n
    split at hv
    · rename_i hc
      simp only [Option.some.injEq] at hv
      subst hv
      have h := times_ok s n.toNat hc.1 hc.2.1 (by omega) (by omega)
      have e : ((n.toNat : Nat) : Int) = n := by omega
      rw [e] at h
      intro Γ σ w xs hw hg hx
      exact callFn_sound env1_ok (fun t r h => ev_sound env1_ok h) (h σ) hw hg hx
    · simp at hv
  · simp at hv
def hook0 (f : FuncId) : Option (List V → Option V) := match Nat.beq f 38 with | true => some timesV | false => hook1 f
/-- the setting of the rows -/
noncomputable def env0 : Env := { env1 with hook := hook0 }
theorem env0_ok : env0.Ok :=
  { mixed := env1_ok.mixed
    glc := env1_ok.glc
    hook := fun f g h => by
      simp only [env0, hook0] at h
      split at h
      · rename_i hf
        have e := Nat.eq_of_beq_eq_true hf
        subst e
        simp only [Option.some.injEq] at h
        subst h
        exact timesV_ok
      · exact env1_ok.hook f g h }
theorem gl_ok0 {Γ : Ctx} (h : GOK env1 Γ) : GOK env0 Γ := h
end Go.Proofs.YtbikmhpobflfeaaDoor
