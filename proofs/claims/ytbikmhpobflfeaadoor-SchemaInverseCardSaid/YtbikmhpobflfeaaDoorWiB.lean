/- Proved here: digits that are read, and the law. Conditions: those of each theorem; no statement of the seat is proved in this text. -/
import Derived.Test.YtbikmhpobflfeaaDoorWiA
namespace Go.Proofs.YtbikmhpobflfeaaDoor.I
open Go.Ab
set_option maxHeartbeats 4000000
set_option maxHeartbeats 4000000
set_option maxRecDepth 100000
set_option linter.unusedSimpArgs false
set_option linter.unusedVariables false
set_option linter.unusedSectionVars false
theorem callFn_pany {E : Env} {f : FuncId} {args : List V} {F : Go.Func} {body : Code} (hp : E.pure f = true) (hk : E.hook f = none) (hc : args.all V.closed = true) (hf : E.P.funcs[f]? = some F) (hb : F.body = some body)
    (hn : F.name ≠ "runtime.NumGoroutine") (hl : args.length ≤ F.ntmps) (P : V → Prop)
    (hw : wpC E f none F.ntmps body (argT args) [] S.empty ⟨wpR E F.results.toList fun v' σ' => ∃ v, sealV σ'.heap sealDepth v' = some v ∧ P v, fun _ _ _ _ => False, wpR E F.results.toList fun v' σ' => ∃ v, sealV σ'.heap sealDepth v' = some v ∧ P v⟩) :
    ∃ v, P v ∧ ∀ σ, callFn E (ev E) f args σ = some (v, σ) := by
  obtain ⟨v', σ', h1, v, h2, h3⟩ := ev_call hf hb hn hl hw
  refine ⟨v, h3, fun σ => ?_⟩
  unfold callFn
  simp only [hk, hp, wargs_closed hc, hc, h1, h2, if_true, Option.map_some]
theorem at135 : env.P.funcs[135]? = some Tryd.f135 := by kernel_rfl
theorem at143 : env.P.funcs[143]? = some Tryd.f143 := by kernel_rfl
theorem at123 : env.P.funcs[123]? = some Tryd.f123 := by kernel_rfl
theorem at107 : env.P.funcs[107]? = some Tryd.f107 := by kernel_rfl
theorem bytes_get (s : List UInt8) (i : Nat) : (byteCells s)[i]? = if i < s.length then some (V.int .u8 (s.getD i 0).toNat) else none := by
  unfold byteCells
  rw [List.getElem?_map]
  by_cases h : i < s.length
  · simp [h]
  · simp [h]
theorem aload5 (h : List AObj) (p : V) : aload env h 5 p = (loadCellsV h 1 p).bind (·[0]?) := aload_one (by kernel_rfl)
theorem sealV_iface (h : List AObj) (d : Nat) (t : TypeId) (v : V) : sealV h (d + 1) (.iface t v) = (sealV h d v).map (.iface t) := rfl
theorem sealV_nilif (h : List AObj) (d : Nat) : sealV h (d + 1) .nilif = some .nilif := rfl
theorem w64a : IntKind.u64.wrap 64 = 64 := by decide
theorem w64 : IntKind.u64.wrap (1 * 2 ^ min (Int.toNat 64) IntKind.u64.bits) = 0 := by decide
theorem w64m : IntKind.u64.wrap (0 - 1) = 18446744073709551615 := by decide
theorem w10 : IntKind.u8.wrap 10 = 10 := by decide
theorem w10b : IntKind.u64.wrap 10 = 10 := by decide
theorem byteCells_len (a : List UInt8) : (byteCells a).length = a.length := by simp [byteCells]
theorem u64_range (x : Int) : 0 ≤ IntKind.u64.wrap x ∧ IntKind.u64.wrap x < 18446744073709551616 := by
  show 0 ≤ (let m := x % (2 ^ 64 : Int); if false && decide (m ≥ 2 ^ 63) then m - 2 ^ 64 else m) ∧ (let m := x % (2 ^ 64 : Int); if false && decide (m ≥ 2 ^ 63) then m - 2 ^ 64 else m) < _
  simp only [Bool.false_and, Bool.false_eq_true, if_false]
  omega
theorem u8_range (x : Int) : 0 ≤ IntKind.u8.wrap x ∧ IntKind.u8.wrap x < 256 := by
  show 0 ≤ (let m := x % (2 ^ 8 : Int); if false && decide (m ≥ 2 ^ 7) then m - 2 ^ 8 else m) ∧ (let m := x % (2 ^ 8 : Int); if false && decide (m ≥ 2 ^ 7) then m - 2 ^ 8 else m) < _
  simp only [Bool.false_and, Bool.false_eq_true, if_false]
  omega
theorem vBin_or (us : Option TypeDesc) (cc : Bool) (k : IntKind) (a b : Int) : vBinT us cc .or (.int k a) (.int k b) = some (.int k (k.wrap (BitVec.ofInt k.bits a ||| BitVec.ofInt k.bits b).toNat)) := by simp [vBinT, vBin, vIntOp]
theorem lower_call (c : Nat) (hc : c < 256) : ∃ m : Int, 0 ≤ m ∧ m < 256 ∧ ∀ σ, callFn env (ev env) 143 [.int .u8 c] σ = some (.int .u8 m, σ) := by
  obtain ⟨v, ⟨m, rfl, h1, h2⟩, h⟩ := callFn_pany (E := env) (f := 143) (args := [.int .u8 (c : Int)]) rfl rfl rfl at143 rfl (by simp [Tryd.f143]) (by simp [Tryd.f143]) (fun v => ∃ m : Int, v = .int .u8 m ∧ 0 ≤ m ∧ m < 256) (G_start (by
    simp -implicitDefEqProofs only [Tryd.f143,Wa,Wb,Wc,Wd,We,Wf,Wg,Wh,Wi,Wj,Wk,Wl,Wm,Wn,Zo,Zp,evalT,Nat.reduceLT,Nat.reduceEqDiff,if_true,if_false,reduceIte,Ys,ofVal,ofCell,argT,resT,setT,Y0,Int.reduceEq,Int.reduceLT,Int.reduceLE,Int.reduceNeg,mb,Nat.reduceBEq,tys,stb,empty_mk,vBin_or]
    exact ⟨_, rfl, _, rfl, u8_range _⟩))
  exact ⟨m, h1, h2, h⟩
def ErrV (e : V) : Prop := e = .nilif ∨ e = .iface 140 (.int .i64 1) ∨ e = .iface 140 (.int .i64 2)
def U64V (v : V) : Prop := ∃ (n : Int) (e : V), v = .tup [.int .u64 n, e] ∧ 0 ≤ n ∧ n < 18446744073709551616 ∧ ErrV e
theorem sealE {e : V} (h : ErrV e) (L : List AObj) (d : Nat) : sealV L (d + 2) e = some e := by
  rcases h with rfl | rfl | rfl <;> rfl
theorem endU (n : Int) (e : V) (h1 : 0 ≤ n) (h2 : n < 18446744073709551616) (h : ErrV e) (L : List AObj) : ∃ v, sealV L sealDepth (oneOr [.int .u64 n, e]) = some v ∧ U64V v := by
  refine ⟨.tup [.int .u64 n, e], ?_, n, e, rfl, h1, h2, h⟩
  simp only [oneOr, sealDepth, sealV_tup, mapM_seal_cons, mapM_seal_nil, sealV_int, sealE h, Option.bind_some, Option.map_some]
theorem parseuint_any (s : List UInt8) (hl : s.length ≤ 2 ^ 30) : ∃ v, U64V v ∧ ∀ σ, callFn env (ev env) 135 [.str s, .int .i64 10, .int .i64 0] σ = some (v, σ) := by
  refine callFn_pany rfl rfl rfl at135 rfl (by simp [Tryd.f135]) (by simp [Tryd.f135]) U64V (G_start ?_)
  by_cases hne : s = []
  · have hne2 : (s = []) = True := eq_true hne
    simp -implicitDefEqProofs only [Tryd.f135,Wa,Wb,Wc,Wd,We,Wf,Wg,Wh,Wi,Wj,Wk,Wl,Wm,Wn,Zo,Zp,evalT,Nat.reduceLT,Nat.reduceEqDiff,if_true,if_false,reduceIte,Ys,ofVal,ofCell,argT,resT,setT,Y0,Int.reduceEq,Int.reduceLT,Int.reduceLE,Int.reduceNeg,mb,Nat.reduceBEq,tys,stb,empty_mk,vBin_seql,hne2,opT_mkIf,mkIf_int u140]
    exact endU 0 _ (by omega) (by omega) (.inr (.inr rfl)) _
  have hne2 : (s = []) = False := eq_false hne
  simp -implicitDefEqProofs only [Tryd.f135,Wa,Wb,Wc,Wd,We,Wf,Wg,Wh,Wi,Wj,Wk,Wl,Wm,Wn,Zo,Zp,evalT,Nat.reduceLT,Nat.reduceEqDiff,if_true,if_false,reduceIte,Ys,ofVal,ofCell,argT,resT,setT,Y0,Int.reduceEq,Int.reduceLT,Int.reduceLE,Int.reduceNeg,mb,Nat.reduceBEq,tys,stb,empty_mk,vBin_seql,hne2,u140,u151,u115,Z5,convO_bytes u5,vBin_shl,w64a,w64,w64m,byteCells_len]
  refine loop_rule (fun m T D σ => D = [] ∧ σ = ⟨[], []⟩ ∧ T 1 = .int .i64 10 ∧ T 8 = .bool false ∧ T 9 = .str s ∧ T 10 = .int .u64 1844674407370955162 ∧ T 11 = .int .u64 18446744073709551615 ∧ T 12 = .bool false ∧ T 99 = .row (byteCells s) s.length .unk ∧ T 100 = .int .i64 s.length ∧
    ∃ (i : Nat) (P : Int), T 101 = .int .i64 i ∧ i ≤ s.length ∧ m = s.length - i ∧ T 13 = .int .u64 P ∧ 0 ≤ P ∧ P < 18446744073709551616) ?_ _ _ _ _ ⟨rfl, rfl, rfl, rfl, rfl, rfl, rfl, rfl, rfl, rfl, 0, 0, rfl, Nat.zero_le _, rfl, rfl, by omega, by omega⟩
  rintro m T D σ ⟨rfl, rfl, t1, t8, t9, t10, t11, t12, t99, t100, i, P, t101, hi, rfl, t13, hp1, hp2⟩
  refine G_start ?_
  by_cases hlt : i < s.length
  · have c1 : (i : Int) < (s.length : Int) := by omega
    have c2 : (0 : Int) ≤ (i : Int) ∧ (i : Int) < (s.length : Int) := by omega
    have e1 : IntKind.i64.wrap ((i : Int) + 1) = ((i + 1 : Nat) : Int) := by rw [wrap_i64 (by omega) (by omega)]; omega
    generalize hc : s.getD i 0 = c at *
    have hcl : c.toNat < 256 := c.toNat_lt
    obtain ⟨lm, hm1, hm2, hM⟩ := lower_call c.toNat hcl
    -- a digit
    by_cases hd : 48 ≤ c.toNat ∧ c.toNat ≤ 57
    · have k1 : ((48 : Int) ≤ (c.toNat : Int)) = True := eq_true (by omega)
      have k2 : ((c.toNat : Int) ≤ 57) = True := eq_true (by omega)
      have k3 : ((c.toNat : Int) = 95) = False := eq_false (by omega)
      have k4 : IntKind.u8.wrap ((c.toNat : Int) - 48) = ((c.toNat - 48 : Nat) : Int) := by rw [wrap_u8 (by omega) (by omega)]; omega
      have k5 : ((10 : Int) ≤ ((c.toNat - 48 : Nat) : Int)) = False := eq_false (by omega)
      by_cases h1 : (1844674407370955162 : Int) ≤ P
      · simp -implicitDefEqProofs only [Wa,Wb,Wc,Wd,We,Wf,Wg,Wh,Wi,Wj,Wk,Wl,Wm,Wn,Zo,Zp,evalT,Nat.reduceLT,Nat.reduceEqDiff,if_true,if_false,reduceIte,Ys,ofVal,ofCell,argT,resT,setT,Y0,Int.reduceEq,Int.reduceLT,Int.reduceLE,Int.reduceNeg,mb,Nat.reduceBEq,tys,stb,t1,t8,t9,t10,t11,t12,t13,t99,t100,t101,c1,c2,e1,bytes_get,hlt,hc,aload5,u140,u151,u115,k1,k2,k3,k4,k5,w10,Z5,h1,opT_mkIf,mkIf_int u140]
        exact endU _ _ (by omega) (by omega) (.inr (.inl rfl)) _
      have k6 : IntKind.u64.wrap (P * 10) = P * 10 := wrap_u64 (by omega) (by omega)
      have k7 : IntKind.u64.wrap ((c.toNat - 48 : Nat) : Int) = ((c.toNat - 48 : Nat) : Int) := wrap_u64 (by omega) (by omega)
      have k8 := u64_range (P * 10 + ((c.toNat - 48 : Nat) : Int))
      obtain ⟨Y, hY⟩ : ∃ Y, Y = IntKind.u64.wrap (P * 10 + ((c.toNat - 48 : Nat) : Int)) := ⟨_, rfl⟩
      rw [← hY] at k8
      have k9 := hY.symm
      have k10 : ¬ (18446744073709551615 : Int) < Y := by omega
      by_cases h2 : Y < P * 10
      · simp -implicitDefEqProofs only [Wa,Wb,Wc,Wd,We,Wf,Wg,Wh,Wi,Wj,Wk,Wl,Wm,Wn,Zo,Zp,evalT,Nat.reduceLT,Nat.reduceEqDiff,if_true,if_false,reduceIte,Ys,ofVal,ofCell,argT,resT,setT,Y0,Int.reduceEq,Int.reduceLT,Int.reduceLE,Int.reduceNeg,mb,Nat.reduceBEq,tys,stb,t1,t8,t9,t10,t11,t12,t13,t99,t100,t101,c1,c2,e1,bytes_get,hlt,hc,aload5,u140,u151,u115,k1,k2,k3,k4,k5,k6,k7,k9,k10,h2,w10,w10b,Z5,h1,opT_mkIf,mkIf_int u140]
        exact endU _ _ (by omega) (by omega) (.inr (.inl rfl)) _
      · simp -implicitDefEqProofs only [Wa,Wb,Wc,Wd,We,Wf,Wg,Wh,Wi,Wj,Wk,Wl,Wm,Wn,Zo,Zp,evalT,Nat.reduceLT,Nat.reduceEqDiff,if_true,if_false,reduceIte,Ys,ofVal,ofCell,argT,resT,setT,Y0,Int.reduceEq,Int.reduceLT,Int.reduceLE,Int.reduceNeg,mb,Nat.reduceBEq,tys,stb,t1,t8,t9,t10,t11,t12,t13,t99,t100,t101,c1,c2,e1,bytes_get,hlt,hc,aload5,u140,u151,u115,k1,k2,k3,k4,k5,k6,k7,k9,k10,h2,w10,w10b,Z5,h1,opT_mkIf,mkIf_int u140]
        exact ⟨s.length - (i + 1), by omega, i + 1, Y, rfl, by omega, rfl, rfl, k8.1, k8.2⟩
    · have syn := endU 0 (.iface 140 (.int .i64 2)) (by omega) (by omega) (.inr (.inr rfl)) []
      have hcases : ((c.toNat : Int) = 95) = True ∨ ((c.toNat : Int) = 95) = False := by
        by_cases h : (c.toNat : Int) = 95
        · exact .inl (eq_true h)
        · exact .inr (eq_false h)
      have hk : ((48 : Int) ≤ (c.toNat : Int)) = False ∨ (((48 : Int) ≤ (c.toNat : Int)) = True ∧ ((c.toNat : Int) ≤ 57) = False) := by
        by_cases h : 48 ≤ c.toNat
        · exact .inr ⟨eq_true (by omega), eq_false (by omega)⟩
        · exact .inl (eq_false (by omega))
      have hl : ((97 : Int) ≤ lm) = False ∨ (((97 : Int) ≤ lm) = True ∧ (lm ≤ 122) = False) ∨ (((97 : Int) ≤ lm) = True ∧ (lm ≤ 122) = True ∧ IntKind.u8.wrap (lm - 97) = lm - 97 ∧ IntKind.u8.wrap (lm - 97 + 10) = lm - 97 + 10 ∧ ((10 : Int) ≤ lm - 97 + 10) = True) := by
        by_cases h : 97 ≤ lm
        · by_cases h2 : lm ≤ 122
          · exact .inr (.inr ⟨eq_true h, eq_true h2, wrap_u8 (by omega) (by omega), wrap_u8 (by omega) (by omega), eq_true (by omega)⟩)
          · exact .inr (.inl ⟨eq_true h, eq_false h2⟩)
        · exact .inl (eq_false h)
      rcases hcases with k3 | k3 <;> rcases hk with k1 | ⟨k1, k2⟩ <;> rcases hl with l1 | ⟨l1, l2⟩ | ⟨l1, l2, l3, l4, l5⟩ <;>
        (simp -implicitDefEqProofs only [Wa,Wb,Wc,Wd,We,Wf,Wg,Wh,Wi,Wj,Wk,Wl,Wm,Wn,Zo,Zp,evalT,Nat.reduceLT,Nat.reduceEqDiff,if_true,if_false,reduceIte,Ys,ofVal,ofCell,argT,resT,setT,Y0,Int.reduceEq,Int.reduceLT,Int.reduceLE,Int.reduceNeg,mb,Nat.reduceBEq,tys,stb,t1,t8,t9,t10,t11,t12,t13,t99,t100,t101,c1,c2,e1,bytes_get,hlt,hc,aload5,u140,u151,u115,k1, *,w10,w10b,Z5,opT_mkIf,mkIf_int u140])
  · have hi2 : i = s.length := by omega
    subst hi2
    have c1 : ¬ (s.length : Int) < (s.length : Int) := by omega
    simp -implicitDefEqProofs only [Wa,Wb,Wc,Wd,We,Wf,Wg,Wh,Wi,Wj,Wk,Wl,Wm,Wn,Zo,Zp,evalT,Nat.reduceLT,Nat.reduceEqDiff,if_true,if_false,reduceIte,Ys,ofVal,ofCell,argT,resT,setT,Y0,Int.reduceEq,Int.reduceLT,Int.reduceLE,Int.reduceNeg,mb,Nat.reduceBEq,tys,stb,t1,t8,t9,t10,t11,t12,t13,t99,t100,t101,c1]
    exact endU _ _ hp1 hp2 (.inl rfl) _
end Go.Proofs.YtbikmhpobflfeaaDoor.I
namespace Go.Proofs.YtbikmhpobflfeaaDoor.I
open Go.Ab
set_option maxHeartbeats 4000000
set_option maxHeartbeats 4000000
set_option maxRecDepth 100000
set_option linter.unusedSimpArgs false
set_option linter.unusedVariables false
set_option linter.unusedSectionVars false
theorem if140 : ifaceInt env 100 140 = true := by kernel_rfl
def isIf : Option TypeDesc → Bool
  | some (.interface _) => true
  | _ => false
theorem u100 : ∃ ms, env.P.underlying 100 = some (.interface ms) := by
  have h : isIf (env.P.underlying 100) = true := by kernel_rfl
  unfold isIf at h
  split at h
  · exact ⟨_, ‹_›⟩
  · simp at h
theorem w63 : IntKind.u64.wrap (1 * 2 ^ min (Int.toNat 63) IntKind.u64.bits) = 9223372036854775808 := by decide
theorem w63a : IntKind.u64.wrap 63 = 63 := by decide
theorem w63b : IntKind.i64.wrap (64 - 1) = 63 := by decide
theorem w63c : IntKind.u64.wrap (9223372036854775808 - 1) = 9223372036854775807 := by decide
theorem w63d : IntKind.i64.wrap 9223372036854775807 = 9223372036854775807 := by decide
theorem w63e : IntKind.i64.wrap 9223372036854775808 = -9223372036854775808 := by decide
theorem w63f : IntKind.i64.wrap (0 - -9223372036854775808) = -9223372036854775808 := by decide
def AtoV (v : V) : Prop := ∃ (n : Int) (e : V), v = .tup [.int .i64 n, e] ∧ In64 n ∧ ErrV e
theorem endA (n : Int) (e : V) (h1 : In64 n) (h : ErrV e) (L : List AObj) : ∃ v, sealV L sealDepth (oneOr [.int .i64 n, e]) = some v ∧ AtoV v := by
  refine ⟨.tup [.int .i64 n, e], ?_, n, e, rfl, h1, h⟩
  simp only [oneOr, sealDepth, sealV_tup, mapM_seal_cons, mapM_seal_nil, sealV_int, sealE h, Option.bind_some, Option.map_some]
theorem slice_tl (s : List UInt8) (h : 0 < s.length) : sliceO env 9 (.str s) (some (.int .i64 1)) none none = some (.str (s.drop 1)) := by
  simp only [sliceO, u9, vSlice, vBound]
  rw [if_pos ⟨by omega, by omega⟩]
  simp only [Option.some.injEq, V.str.injEq]
  exact List.take_of_length_le (by simp)
theorem parseint_any (s : List UInt8) (hl : s.length ≤ 2 ^ 30) : ∃ v, AtoV v ∧ ∀ σ, callFn env (ev env) 123 [.str s, .int .i64 10, .int .i64 0] σ = some (v, σ) := by
  refine callFn_pany rfl rfl rfl at123 rfl (by simp [Tryd.f123]) (by simp [Tryd.f123]) AtoV (G_start ?_)
  have ii : ∀ x : Int, -9223372036854775808 ≤ x → x ≤ 9223372036854775807 → In64 x := fun x h1 h2 => ⟨h1, h2⟩
  by_cases hne : s = []
  · have hne2 : (s = []) = True := eq_true hne
    simp -implicitDefEqProofs only [Tryd.f123,Wa,Wb,Wc,Wd,We,Wf,Wg,Wh,Wi,Wj,Wk,Wl,Wm,Wn,Zo,Zp,evalT,Nat.reduceLT,Nat.reduceEqDiff,if_true,if_false,reduceIte,Ys,ofVal,ofCell,argT,resT,setT,Y0,Int.reduceEq,Int.reduceLT,Int.reduceLE,Int.reduceNeg,mb,Nat.reduceBEq,tys,stb,empty_mk,vBin_seql,hne2,opT_mkIf,mkIf_int u140]
    exact endA 0 _ (ii _ (by omega) (by omega)) (.inr (.inr rfl)) _
  have hne2 : (s = []) = False := eq_false hne
  have hlen : 0 < s.length := by
    rcases Nat.eq_zero_or_pos s.length with h | h
    · exact absurd (List.eq_nil_of_length_eq_zero h) hne
    · exact h
  have c0 : (0 : Int) ≤ 0 ∧ (0 : Int) < (s.length : Int) := by omega
  have sl := slice_tl s hlen
  obtain ⟨ms, u100⟩ := u100
  have bi := binO_if_nil (E := env) u100
  have bn := binO_nil_if (E := env) u100
  have be := binO_if_ne (E := env) if140 ⟨ms, u100⟩
  have n12 : ((1 : Int) = 2) = False := eq_false (by omega)
  have n21 : ((2 : Int) = 1) = False := eq_false (by omega)
  have n11 : ((1 : Int) = 1) = True := eq_true rfl
  generalize hc : s.getD 0 0 = c at *
  have fin : ∀ (r : List UInt8) (neg : Bool), r.length ≤ s.length → ∃ (n : Int) (e : V), (∀ σ, callFn env (ev env) 135 [.str r, .int .i64 10, .int .i64 0] σ = some (.tup [.int .u64 n, e], σ)) ∧ 0 ≤ n ∧ n < 18446744073709551616 ∧ ErrV e := by
    intro r neg hr
    obtain ⟨_, ⟨n, e, rfl, h1, h2, h3⟩, h4⟩ := parseuint_any r (by omega)
    exact ⟨n, e, h4, h1, h2, h3⟩
  -- what follows, with and without a minus
  have cmp : ∀ n : Int, 0 ≤ n → n < 18446744073709551616 → (((9223372036854775808 : Int) ≤ n) = True ∧ True) ∨ (((9223372036854775808 : Int) ≤ n) = False ∧ IntKind.i64.wrap n = n ∧ In64 n) := fun n h1 h2 => by
    by_cases h : 9223372036854775808 ≤ n
    · exact .inl ⟨eq_true h, trivial⟩
    · exact .inr ⟨eq_false h, wrap_i64 (by omega) (by omega), ii _ (by omega) (by omega)⟩
  have cmp2 : ∀ n : Int, 0 ≤ n → n < 18446744073709551616 → (((9223372036854775808 : Int) < n) = True ∧ True) ∨ (((9223372036854775808 : Int) < n) = False ∧ ∃ x, IntKind.i64.wrap (0 - IntKind.i64.wrap n) = x ∧ In64 x) := fun n h1 h2 => by
    by_cases h : 9223372036854775808 < n
    · exact .inl ⟨eq_true h, trivial⟩
    · refine .inr ⟨eq_false h, _, rfl, ?_⟩
      by_cases h3 : n = 9223372036854775808
      · subst h3
        rw [w63e, w63f]; exact ii _ (by omega) (by omega)
      · rw [wrap_i64 (x := n) (by omega) (by omega), wrap_i64 (by omega) (by omega)]
        exact ii _ (by omega) (by omega)
  have g0 := endA 0 (.iface 140 (.int .i64 2)) (ii _ (by omega) (by omega)) (.inr (.inr rfl)) []
  have g1 := endA 9223372036854775807 (.iface 140 (.int .i64 1)) (ii _ (by omega) (by omega)) (.inr (.inl rfl)) []
  have g2 := endA (-9223372036854775808) (.iface 140 (.int .i64 1)) (ii _ (by omega) (by omega)) (.inr (.inl rfl)) []
  by_cases hp : (c.toNat : Int) = 43
  · have k1 : ((c.toNat : Int) = 43) = True := eq_true hp
    obtain ⟨n, e, hP, h1, h2, he⟩ := fin (s.drop 1) false (by simp)
    rcases he with rfl | rfl | rfl <;> rcases cmp n h1 h2 with ⟨q1, _⟩ | ⟨q1, q2, q3⟩ <;>
      (simp -implicitDefEqProofs only [Tryd.f123,Wa,Wb,Wc,Wd,We,Wf,Wg,Wh,Wi,Wj,Wk,Wl,Wm,Wn,Zo,Zp,evalT,Nat.reduceLT,Nat.reduceEqDiff,if_true,if_false,reduceIte,Ys,ofVal,ofCell,argT,resT,setT,Y0,Int.reduceEq,Int.reduceLT,Int.reduceLE,Int.reduceNeg,mb,Nat.reduceBEq,tys,stb,empty_mk,vBin_seql,hne2,u140,u151,u115,u2,opT_index,indexO_str u9,opT_slice,optO_none,optO_some,sl,c0,hc,k1,hP,bi,bn,be,n12,n21,n11,Z5,vBin_shl,w63,w63a,w63b,w63c,w63d,w63e,w63f,opT_mkIf,mkIf_int u140,isConst,q1, *])
    all_goals first | exact endA _ _ (by assumption) (.inl rfl) _ | exact endA _ _ (by assumption) (.inr (.inl rfl)) _ | done
  have k1 : ((c.toNat : Int) = 43) = False := eq_false hp
  by_cases hm : (c.toNat : Int) = 45
  · have k2 : ((c.toNat : Int) = 45) = True := eq_true hm
    obtain ⟨n, e, hP, h1, h2, he⟩ := fin (s.drop 1) false (by simp)
    rcases he with rfl | rfl | rfl <;> rcases cmp2 n h1 h2 with ⟨q1, _⟩ | ⟨q1, x, q2, q3⟩ <;>
      (simp -implicitDefEqProofs only [Tryd.f123,Wa,Wb,Wc,Wd,We,Wf,Wg,Wh,Wi,Wj,Wk,Wl,Wm,Wn,Zo,Zp,evalT,Nat.reduceLT,Nat.reduceEqDiff,if_true,if_false,reduceIte,Ys,ofVal,ofCell,argT,resT,setT,Y0,Int.reduceEq,Int.reduceLT,Int.reduceLE,Int.reduceNeg,mb,Nat.reduceBEq,tys,stb,empty_mk,vBin_seql,hne2,u140,u151,u115,u2,opT_index,indexO_str u9,opT_slice,optO_none,optO_some,sl,c0,hc,k1,k2,hP,bi,bn,be,n12,n21,n11,Z5,vBin_shl,w63,w63a,w63b,w63c,w63d,w63e,w63f,opT_mkIf,mkIf_int u140,isConst,q1, *])
    all_goals first | exact endA _ _ (by assumption) (.inl rfl) _ | exact endA _ _ (by assumption) (.inr (.inl rfl)) _ | done
  · have k2 : ((c.toNat : Int) = 45) = False := eq_false hm
    obtain ⟨n, e, hP, h1, h2, he⟩ := fin s false (Nat.le_refl _)
    rcases he with rfl | rfl | rfl <;> rcases cmp n h1 h2 with ⟨q1, _⟩ | ⟨q1, q2, q3⟩ <;>
      (simp -implicitDefEqProofs only [Tryd.f123,Wa,Wb,Wc,Wd,We,Wf,Wg,Wh,Wi,Wj,Wk,Wl,Wm,Wn,Zo,Zp,evalT,Nat.reduceLT,Nat.reduceEqDiff,if_true,if_false,reduceIte,Ys,ofVal,ofCell,argT,resT,setT,Y0,Int.reduceEq,Int.reduceLT,Int.reduceLE,Int.reduceNeg,mb,Nat.reduceBEq,tys,stb,empty_mk,vBin_seql,hne2,u140,u151,u115,u2,opT_index,indexO_str u9,opT_slice,optO_none,optO_some,sl,c0,hc,k1,k2,hP,bi,bn,be,n12,n21,n11,Z5,vBin_shl,w63,w63a,w63b,w63c,w63d,w63e,w63f,opT_mkIf,mkIf_int u140,isConst,q1, *])
    all_goals first | exact endA _ _ (by assumption) (.inl rfl) _ | exact endA _ _ (by assumption) (.inr (.inl rfl)) _ | done
end Go.Proofs.YtbikmhpobflfeaaDoor.I
namespace Go.Proofs.YtbikmhpobflfeaaDoor.I
open Go.Ab
set_option maxHeartbeats 4000000
set_option maxHeartbeats 4000000
set_option maxRecDepth 100000
set_option linter.unusedSimpArgs false
set_option linter.unusedVariables false
set_option linter.unusedSectionVars false
theorem dec_bound (s : List UInt8) : ∀ i, i ≤ s.length → (∀ j, j < i → IsDg (s.getD j 0)) → decV 0 (s.take i) < 10 ^ i
  | 0, _, _ => by rw [List.take_zero]; exact Nat.zero_lt_one
  | i + 1, hi, hd => by
    have h := dec_bound s i (by omega) fun j hj => hd j (by omega)
    have hst := decV_step (s := s) (i := i) (by omega)
    have h2 := hd i (by omega)
    have h3 : 10 ^ (i + 1) = 10 * 10 ^ i := by rw [Nat.pow_succ]; omega
    unfold IsDg at h2
    omega
theorem dec_small (s : List UInt8) (hl : s.length ≤ 18) (i : Nat) (hi : i ≤ s.length) (hd : ∀ j, j < i → IsDg (s.getD j 0)) : decV 0 (s.take i) < 1000000000000000000 := by
  have h1 := dec_bound s i hi hd
  have h2 : 10 ^ i ≤ 10 ^ 18 := Nat.pow_le_pow_right (by omega) (by omega)
  have h3 : (10 : Nat) ^ 18 = 1000000000000000000 := by decide
  omega
theorem G_ret_any {E : Env} {fn : FuncId} {rnd : Option Nat} {n : Nat} {Q : Post} {T : Tm} {D : List DE} {σ : S} : ∀ ks : List Kt, Q.ret T D σ → G E fn rnd n Q ks .ret T D σ
  | [], h => by rw [Zk]; exact h
  | .code c :: ks, h => by rw [Zi]; exact G_ret_any ks h
  | .blk b :: ks, h => by rw [Zj]; exact G_ret_any ks h
theorem atoi_loop (s : List UInt8) (hl : s.length ≤ 18) {x : List UInt8} (Q : Post) (ks : List Kt) (c2 : Code) (h2 : (∀ i, i < s.length → IsDg (s.getD i 0)) → ∀ T, T 5 = .str x → T 6 = .int .i64 (decV 0 s) → G env 107 none 77 Q ks c2 T [] ⟨[], []⟩)
    (h3 : (¬ ∀ i, i < s.length → IsDg (s.getD i 0)) → ∀ T, T 2 = .int .i64 0 → T 3 = .iface 140 (.int .i64 2) → Q.ret T [] ⟨[], []⟩) (T : Tm)
    (a5 : T 5 = .str x) (a6 : T 6 = .int .i64 (0 : Nat)) (a47 : T 47 = .row (byteCells s) s.length .unk) (a48 : T 48 = .int .i64 s.length) (a49 : T 49 = .int .i64 (0 : Nat)) :
    wpLoop env 107 none 77 (loopB 0 (bodyOf Tryd.f107)) T [] ⟨[], []⟩ (Kt.post env 107 none 77 Q (.blk 0 :: .code c2 :: ks)) := by
  simp only [bodyOf, Tryd.f107, Option.getD_some, loopB, blkC, Option.or, Nat.reduceEqDiff, if_false, if_true, reduceIte]
  refine loop_rule (fun m T D σ => D = [] ∧ σ = ⟨[], []⟩ ∧ T 5 = .str x ∧ T 47 = .row (byteCells s) s.length .unk ∧ T 48 = .int .i64 s.length ∧ ∃ i : Nat, T 49 = .int .i64 i ∧ i ≤ s.length ∧ m = s.length - i ∧ T 6 = .int .i64 (decV 0 (s.take i)) ∧ ∀ j, j < i → IsDg (s.getD j 0)) ?_ _ _ _ _ ⟨rfl, rfl, a5, a47, a48, 0, a49, Nat.zero_le _, rfl, by rw [a6, List.take_zero]; rfl, fun j hj => by omega⟩
  clear a5 a6 a47 a48 a49 T
  rintro m T D σ ⟨rfl, rfl, t5, t47, t48, i, t49, hi, rfl, t6, hd⟩
  refine G_start ?_
  by_cases hlt : i < s.length
  · have c1 : (i : Int) < (s.length : Int) := by omega
    have c2 : (0 : Int) ≤ (i : Int) ∧ (i : Int) < (s.length : Int) := by omega
    have e1 : IntKind.i64.wrap ((i : Int) + 1) = ((i + 1 : Nat) : Int) := by rw [wrap_i64 (by omega) (by omega)]; omega
    have hcl : (s.getD i 0).toNat < 256 := (s.getD i 0).toNat_lt
    by_cases hdi : IsDg (s.getD i 0)
    · have hst := decV_step hlt
      have b1 := dec_small s hl i hi hd
      have hd2 : ∀ j, j < i + 1 → IsDg (s.getD j 0) := fun j hj => by
        by_cases e : j = i
        · subst e; exact hdi
        · exact hd j (by omega)
      have b2 := dec_small s hl (i + 1) hlt hd2
      obtain ⟨d1, d2⟩ := hdi
      generalize hc : s.getD i 0 = c at *
      generalize hP : decV 0 (s.take i) = P at *
      generalize hP2 : decV 0 (s.take (i + 1)) = P2 at *
      have k4 : IntKind.u8.wrap ((c.toNat : Int) - 48) = ((c.toNat - 48 : Nat) : Int) := by rw [wrap_u8 (by omega) (by omega)]; omega
      have k5 : (9 : Int) < ((c.toNat - 48 : Nat) : Int) ↔ False := iff_false_intro (by omega)
      have k6 : IntKind.i64.wrap ((P : Int) * 10) = ((P * 10 : Nat) : Int) := by rw [wrap_i64 (by omega) (by omega)]; omega
      have k7 : IntKind.i64.wrap ((c.toNat - 48 : Nat) : Int) = ((c.toNat - 48 : Nat) : Int) := wrap_i64 (by omega) (by omega)
      have k8 : IntKind.i64.wrap (((P * 10 : Nat) : Int) + ((c.toNat - 48 : Nat) : Int)) = (P2 : Int) := by rw [wrap_i64 (by omega) (by omega)]; omega
      simp -implicitDefEqProofs only [Wa,Wb,Wc,Wd,We,Wf,Wg,Wh,Wi,Wj,Wk,Wl,Wm,Wn,Zo,Zp,evalT,Nat.reduceLT,Nat.reduceEqDiff,if_true,if_false,reduceIte,Ys,ofVal,ofCell,argT,resT,setT,Y0,Int.reduceEq,Int.reduceLT,Int.reduceLE,Int.reduceNeg,mb,Nat.reduceBEq,tys,stb,t5,t6,t47,t48,t49,c1,c2,e1,bytes_get,hlt,hc,aload5,k4,k5,k6,k7,k8,Z5]
      exact ⟨s.length - (i + 1), by omega, i + 1, rfl, by omega, rfl, by rw [hP2], hd2⟩
    · have hbad : ¬ ∀ i, i < s.length → IsDg (s.getD i 0) := fun h => hdi (h i hlt)
      have hb := h3 hbad
      unfold IsDg at hdi
      generalize hc : s.getD i 0 = c at *
      have k5 : (9 : Int) < IntKind.u8.wrap ((c.toNat : Int) - 48) ↔ True := by
        refine iff_true_intro ?_
        by_cases h : 48 ≤ c.toNat
        · rw [wrap_u8 (by omega) (by omega)]; omega
        · have : IntKind.u8.wrap ((c.toNat : Int) - 48) = (c.toNat : Int) - 48 + 256 := by
            show (let m := ((c.toNat : Int) - 48) % (2 ^ 8 : Int); if false && decide (m ≥ 2 ^ 7) then m - 2 ^ 8 else m) = _
            simp only [Bool.false_and, Bool.false_eq_true, if_false]
            omega
          rw [this]; omega
      simp -implicitDefEqProofs only [Wa,Wb,Wc,Wd,We,Wf,Wg,Wh,Wi,Wj,Wk,Wl,Wm,Wn,Zo,Zp,evalT,Nat.reduceLT,Nat.reduceEqDiff,if_true,if_false,reduceIte,Ys,ofVal,ofCell,argT,resT,setT,Y0,Int.reduceEq,Int.reduceLT,Int.reduceLE,Int.reduceNeg,mb,Nat.reduceBEq,tys,stb,t5,t6,t47,t48,t49,c1,c2,e1,bytes_get,hlt,hc,aload5,k5,Z5,opT_mkIf,mkIf_int u140]
      refine G_ret_any _ (hb _ ?_ ?_) <;> rfl
  · have hi2 : i = s.length := by omega
    subst hi2
    have c1 : ¬ (s.length : Int) < (s.length : Int) := by omega
    rw [List.take_length] at t6
    simp -implicitDefEqProofs only [Wa,Wb,Wc,Wd,We,Wf,Wg,Wh,Wi,Wj,Wk,Wl,Wm,Wn,Zo,Zp,evalT,Nat.reduceLT,Nat.reduceEqDiff,if_true,if_false,reduceIte,Ys,ofVal,ofCell,argT,resT,setT,Y0,Int.reduceEq,Int.reduceLT,Int.reduceLE,Int.reduceNeg,mb,Nat.reduceBEq,tys,stb,t5,t6,t47,t48,t49,c1]
    exact h2 (fun i hi => hd i hi) _ t5 t6
end Go.Proofs.YtbikmhpobflfeaaDoor.I
namespace Go.Proofs.YtbikmhpobflfeaaDoor.I
open Go.Ab
set_option maxHeartbeats 4000000
set_option maxHeartbeats 4000000
set_option maxRecDepth 100000
set_option linter.unusedSimpArgs false
set_option linter.unusedVariables false
set_option linter.unusedSectionVars false
def Rd (s : List UInt8) (v : V) : Prop := ∀ n : Int, TxtOf n s → -100000000000000000 < n → n < 100000000000000000 → v = .tup [.int .i64 n, .nilif]
def AtoP (s : List UInt8) (v : V) : Prop := AtoV v ∧ Rd s v
theorem TxtOf.first {n : Int} {s : List UInt8} (h : TxtOf n s) : 0 < s.length ∧ ((0 ≤ n ∧ (∀ i, i < s.length → IsDg (s.getD i 0)) ∧ (decV 0 s : Int) = n ∧ (n < 100000000000000000 → s.length ≤ 17)) ∨
    (n < 0 ∧ s.getD 0 0 = 45 ∧ (s.drop 1) ≠ [] ∧ (∀ i, i < (s.drop 1).length → IsDg ((s.drop 1).getD i 0)) ∧ (decV 0 (s.drop 1) : Int) = -n ∧ (-100000000000000000 < n → s.length ≤ 18))) := by
  obtain ⟨ds, h1, h2, h3, h4, h5⟩ := h
  have hl : 0 < ds.length := by
    cases ds with
    | nil => exact absurd rfl h2
    | cons x r => simp
  have e17 : (10 : Nat) ^ 17 = 100000000000000000 := by decide
  rw [e17] at h4
  rcases h5 with ⟨a, rfl, c⟩ | ⟨a, rfl, c⟩
  · exact ⟨hl, .inl ⟨a, h1, c, fun h => h4 (by omega)⟩⟩
  · refine ⟨by simp, .inr ⟨a, rfl, h2, h1, c, fun h => ?_⟩⟩
    have := h4 (by omega)
    simp; omega
theorem endP {s : List UInt8} (n : Int) (e : V) (h1 : In64 n) (h : ErrV e) (hr : Rd s (.tup [.int .i64 n, e])) (L : List AObj) : ∃ v, sealV L sealDepth (oneOr [.int .i64 n, e]) = some v ∧ AtoP s v := by
  refine ⟨.tup [.int .i64 n, e], ?_, ⟨n, e, rfl, h1, h⟩, hr⟩
  simp only [oneOr, sealDepth, sealV_tup, mapM_seal_cons, mapM_seal_nil, sealV_int, sealE h, Option.bind_some, Option.map_some]
theorem atoi_any (s : List UInt8) (hl : s.length ≤ 2 ^ 30) : ∃ v, AtoP s v ∧ ∀ σ, callFn env (ev env) 107 [.str s] σ = some (v, σ) := by
  have ii : ∀ x : Int, -9223372036854775808 ≤ x → x ≤ 9223372036854775807 → In64 x := fun x h1 h2 => ⟨h1, h2⟩
  refine callFn_pany rfl rfl rfl at107 rfl (by simp [Tryd.f107]) (by simp [Tryd.f107]) (AtoP s) (G_start ?_)
  have ls : ∀ r : List UInt8, vLenT (some .string) (.str r) = some (.int .i64 r.length) := fun r => rfl
  by_cases hf : 0 < s.length ∧ s.length < 19
  · have c0 : ((0 : Int) < (s.length : Int)) = True := eq_true (by omega)
    have c19 : ((s.length : Int) < 19) = True := eq_true (by omega)
    have c00 : (0 : Int) ≤ 0 ∧ (0 : Int) < (s.length : Int) := by omega
    have c10 : ((s.length : Int) < 10) = True ∨ ((s.length : Int) < 10) = False := by
      by_cases h : s.length < 10
      · exact .inl (eq_true (by omega))
      · exact .inr (eq_false (by omega))
    have sl := slice_tl s hf.1
    have cb := fun r : List UInt8 => convO_bytes (E := env) (σ := (⟨[], []⟩ : S)) (src := 9) (dst := 97) (d := .string) (s := r) u5
    have lrow : ∀ r : List UInt8, vLenT (some (.slice 5)) (.row (byteCells r) r.length .unk) = some (.int .i64 r.length) := fun r => rfl
    generalize hc : s.getD 0 0 = c at *
    -- the loop over what is behind a sign
    have neg : ∀ d : Nat, d < 1000000000000000000 → IntKind.i64.wrap (0 - (d : Int)) = -(d : Int) := fun d hd => by rw [wrap_i64 (by omega) (by omega)]; omega
    have hbnd : ∀ r : List UInt8, r.length ≤ 18 → (∀ i, i < r.length → IsDg (r.getD i 0)) → decV 0 r < 1000000000000000000 := fun r h1 h2 => by
      have := dec_small r h1 r.length (Nat.le_refl _) fun j hj => h2 j hj
      rwa [List.take_length] at this
    by_cases hm : (c.toNat : Int) = 45
    · have k1 : ((c.toNat : Int) = 45) = True := eq_true hm
      have hc45 : c = 45 := by
        apply UInt8.toNat_inj.1
        have : (45 : UInt8).toNat = 45 := rfl
        omega
      subst hc45
      by_cases hr : s.drop 1 = []
      · have hlr : (((s.drop 1).length : Int) < 1) = True := eq_true (by rw [hr]; simp)
        have hR : Rd s (.tup [.int .i64 0, .iface 140 (.int .i64 2)]) := fun n h h1 h2 => by
          rcases h.first with ⟨_, ⟨_, hd, _⟩ | ⟨_, _, hne, _⟩⟩
          · have := hd 0 hf.1
            rw [hc] at this
            exact absurd this (by unfold IsDg; decide)
          · exact absurd hr hne
        rcases c10 with c10 | c10 <;>
        · simp -implicitDefEqProofs only [Tryd.f107,Wa,Wb,Wc,Wd,We,Wf,Wg,Wh,Wi,Wj,Wk,Wl,Wm,Wn,Zo,Zp,evalT,Nat.reduceLT,Nat.reduceEqDiff,if_true,if_false,reduceIte,Ys,ofVal,ofCell,argT,resT,setT,Y0,Int.reduceEq,Int.reduceLT,Int.reduceLE,Int.reduceNeg,mb,Nat.reduceBEq,tys,stb,empty_mk,ls,c0,c19,c10,c00,opT_index,indexO_str u9,hc,k1,opT_slice,optO_none,optO_some,sl,hlr,opT_mkIf,mkIf_int u140]
          exact endP 0 _ (ii _ (by omega) (by omega)) (.inr (.inr rfl)) hR _
      · have hlr0 : 0 < (s.drop 1).length := by
          cases h : s.drop 1 with
          | nil => exact absurd h hr
          | cons x r => simp
        have hlr : (((s.drop 1).length : Int) < 1) = False := eq_false (by omega)
        have hl18 : (s.drop 1).length ≤ 18 := by simp; omega
        rcases c10 with c10 | c10 <;>
        · simp -implicitDefEqProofs only [Tryd.f107,Wa,Wb,Wc,Wd,We,Wf,Wg,Wh,Wi,Wj,Wk,Wl,Wm,Wn,Zo,Zp,evalT,Nat.reduceLT,Nat.reduceEqDiff,if_true,if_false,reduceIte,Ys,ofVal,ofCell,argT,resT,setT,Y0,Int.reduceEq,Int.reduceLT,Int.reduceLE,Int.reduceNeg,mb,Nat.reduceBEq,tys,stb,empty_mk,ls,c0,c19,c10,c00,opT_index,indexO_str u9,hc,k1,opT_slice,optO_none,optO_some,sl,hlr,opT_mkIf,mkIf_int u140,cb,lrow]
          refine atoi_loop (s.drop 1) hl18 (x := s) _ _ _ (fun hd T t5 t6 => ?_) (fun hd T t2 t3 => ?_) _ rfl rfl rfl rfl rfl
          · have hb := hbnd _ hl18 hd
            have hng := neg _ hb
            simp -implicitDefEqProofs only [Wa,Wb,Wc,Wd,We,Wf,Wg,Wh,Wi,Wj,Wk,Wl,Wm,Wn,Zo,Zp,evalT,Nat.reduceLT,Nat.reduceEqDiff,if_true,if_false,reduceIte,Ys,ofVal,ofCell,argT,resT,setT,Y0,Int.reduceEq,Int.reduceLT,Int.reduceLE,Int.reduceNeg,mb,Nat.reduceBEq,tys,stb,t5,t6,opT_index,indexO_str u9,c00,hc,k1,hng]
            refine endP _ _ (ii _ (by omega) (by omega)) (.inl rfl) (fun n h h1 h2 => ?_) _
            rcases h.first with ⟨_, ⟨_, hd2, _⟩ | ⟨_, _, _, _, hv, _⟩⟩
            · have := hd2 0 hf.1
              rw [hc] at this
              exact absurd this (by unfold IsDg; decide)
            · rw [hv]; simp
          · have hR : Rd s (.tup [.int .i64 0, .iface 140 (.int .i64 2)]) := fun n h h1 h2 => by
              rcases h.first with ⟨_, ⟨_, hd2, _⟩ | ⟨_, h45, _, hd2, _⟩⟩
              · have := hd2 0 hf.1
                rw [hc] at this
                exact absurd this (by unfold IsDg; decide)
              · exact absurd hd2 hd
            simp -implicitDefEqProofs only [t2,t3,resT,wpR,Yv,Yw,Wa,Wb,Wc,Wd,We,Wf,Wg,Wh,Wi,Wj,Wk,Wl,Wm,Wn,Zo,Zp,evalT,Nat.reduceLT,Nat.reduceEqDiff,if_true,if_false,reduceIte,Ys,ofVal,ofCell,argT,resT,setT,Y0,Int.reduceEq,Int.reduceLT,Int.reduceLE,Int.reduceNeg,mb,Nat.reduceBEq,tys,stb]
            exact ⟨[], rfl, endP 0 _ (ii _ (by omega) (by omega)) (.inr (.inr rfl)) hR _⟩
    · have k1 : ((c.toNat : Int) = 45) = False := eq_false hm
      by_cases hp : (c.toNat : Int) = 43
      · have k2 : ((c.toNat : Int) = 43) = True := eq_true hp
        have hc43 : c = 43 := by
          apply UInt8.toNat_inj.1
          have : (43 : UInt8).toNat = 43 := rfl
          omega
        subst hc43
        have noR : ∀ v, Rd s v := fun v n h h1 h2 => by
          rcases h.first with ⟨_, ⟨_, hd, _⟩ | ⟨_, h45, _⟩⟩
          · have := hd 0 hf.1
            rw [hc] at this
            exact absurd this (by unfold IsDg; decide)
          · rw [hc] at h45
            exact absurd h45 (by decide)
        by_cases hr : s.drop 1 = []
        · have hlr : (((s.drop 1).length : Int) < 1) = True := eq_true (by rw [hr]; simp)
          rcases c10 with c10 | c10 <;>
          · simp -implicitDefEqProofs only [Tryd.f107,Wa,Wb,Wc,Wd,We,Wf,Wg,Wh,Wi,Wj,Wk,Wl,Wm,Wn,Zo,Zp,evalT,Nat.reduceLT,Nat.reduceEqDiff,if_true,if_false,reduceIte,Ys,ofVal,ofCell,argT,resT,setT,Y0,Int.reduceEq,Int.reduceLT,Int.reduceLE,Int.reduceNeg,mb,Nat.reduceBEq,tys,stb,empty_mk,ls,c0,c19,c10,c00,opT_index,indexO_str u9,hc,k1,k2,opT_slice,optO_none,optO_some,sl,hlr,opT_mkIf,mkIf_int u140]
            exact endP 0 _ (ii _ (by omega) (by omega)) (.inr (.inr rfl)) (noR _) _
        · have hlr0 : 0 < (s.drop 1).length := by
            cases h : s.drop 1 with
            | nil => exact absurd h hr
            | cons x r => simp
          have hlr : (((s.drop 1).length : Int) < 1) = False := eq_false (by omega)
          have hl18 : (s.drop 1).length ≤ 18 := by simp; omega
          rcases c10 with c10 | c10 <;>
          · simp -implicitDefEqProofs only [Tryd.f107,Wa,Wb,Wc,Wd,We,Wf,Wg,Wh,Wi,Wj,Wk,Wl,Wm,Wn,Zo,Zp,evalT,Nat.reduceLT,Nat.reduceEqDiff,if_true,if_false,reduceIte,Ys,ofVal,ofCell,argT,resT,setT,Y0,Int.reduceEq,Int.reduceLT,Int.reduceLE,Int.reduceNeg,mb,Nat.reduceBEq,tys,stb,empty_mk,ls,c0,c19,c10,c00,opT_index,indexO_str u9,hc,k1,k2,opT_slice,optO_none,optO_some,sl,hlr,opT_mkIf,mkIf_int u140,cb,lrow]
            refine atoi_loop (s.drop 1) hl18 (x := s) _ _ _ (fun hd T t5 t6 => ?_) (fun hd T t2 t3 => ?_) _ rfl rfl rfl rfl rfl
            · have hb := hbnd _ hl18 hd
              simp -implicitDefEqProofs only [Wa,Wb,Wc,Wd,We,Wf,Wg,Wh,Wi,Wj,Wk,Wl,Wm,Wn,Zo,Zp,evalT,Nat.reduceLT,Nat.reduceEqDiff,if_true,if_false,reduceIte,Ys,ofVal,ofCell,argT,resT,setT,Y0,Int.reduceEq,Int.reduceLT,Int.reduceLE,Int.reduceNeg,mb,Nat.reduceBEq,tys,stb,t5,t6,opT_index,indexO_str u9,c00,hc,k1]
              exact endP _ _ (ii _ (by omega) (by omega)) (.inl rfl) (noR _) _
            · simp -implicitDefEqProofs only [t2,t3,resT,wpR,Yv,Yw,Wa,Wb,Wc,Wd,We,Wf,Wg,Wh,Wi,Wj,Wk,Wl,Wm,Wn,Zo,Zp,evalT,Nat.reduceLT,Nat.reduceEqDiff,if_true,if_false,reduceIte,Ys,ofVal,ofCell,argT,resT,setT,Y0,Int.reduceEq,Int.reduceLT,Int.reduceLE,Int.reduceNeg,mb,Nat.reduceBEq,tys,stb]
              exact ⟨[], rfl, endP 0 _ (ii _ (by omega) (by omega)) (.inr (.inr rfl)) (noR _) _⟩
      · have k2 : ((c.toNat : Int) = 43) = False := eq_false hp
        have hl18 : s.length ≤ 18 := by omega
        rcases c10 with c10 | c10 <;>
        · simp -implicitDefEqProofs only [Tryd.f107,Wa,Wb,Wc,Wd,We,Wf,Wg,Wh,Wi,Wj,Wk,Wl,Wm,Wn,Zo,Zp,evalT,Nat.reduceLT,Nat.reduceEqDiff,if_true,if_false,reduceIte,Ys,ofVal,ofCell,argT,resT,setT,Y0,Int.reduceEq,Int.reduceLT,Int.reduceLE,Int.reduceNeg,mb,Nat.reduceBEq,tys,stb,empty_mk,ls,c0,c19,c10,c00,opT_index,indexO_str u9,hc,k1,k2,opT_slice,optO_none,optO_some,sl,opT_mkIf,mkIf_int u140,cb,lrow]
          refine atoi_loop s hl18 (x := s) _ _ _ (fun hd T t5 t6 => ?_) (fun hd T t2 t3 => ?_) _ rfl rfl rfl rfl rfl
          · have hb := hbnd _ hl18 hd
            simp -implicitDefEqProofs only [Wa,Wb,Wc,Wd,We,Wf,Wg,Wh,Wi,Wj,Wk,Wl,Wm,Wn,Zo,Zp,evalT,Nat.reduceLT,Nat.reduceEqDiff,if_true,if_false,reduceIte,Ys,ofVal,ofCell,argT,resT,setT,Y0,Int.reduceEq,Int.reduceLT,Int.reduceLE,Int.reduceNeg,mb,Nat.reduceBEq,tys,stb,t5,t6,opT_index,indexO_str u9,c00,hc,k1]
            refine endP _ _ (ii _ (by omega) (by omega)) (.inl rfl) (fun n h h1 h2 => ?_) _
            rcases h.first with ⟨_, ⟨_, _, hv, _⟩ | ⟨_, h45, _⟩⟩
            · rw [hv]
            · rw [hc] at h45
              subst h45
              exact absurd rfl hm
          · have hR : Rd s (.tup [.int .i64 0, .iface 140 (.int .i64 2)]) := fun n h h1 h2 => by
              rcases h.first with ⟨_, ⟨_, hd2, _⟩ | ⟨_, h45, _⟩⟩
              · exact absurd hd2 hd
              · rw [hc] at h45
                subst h45
                exact absurd rfl hm
            simp -implicitDefEqProofs only [t2,t3,resT,wpR,Yv,Yw,Wa,Wb,Wc,Wd,We,Wf,Wg,Wh,Wi,Wj,Wk,Wl,Wm,Wn,Zo,Zp,evalT,Nat.reduceLT,Nat.reduceEqDiff,if_true,if_false,reduceIte,Ys,ofVal,ofCell,argT,resT,setT,Y0,Int.reduceEq,Int.reduceLT,Int.reduceLE,Int.reduceNeg,mb,Nat.reduceBEq,tys,stb]
            exact ⟨[], rfl, endP 0 _ (ii _ (by omega) (by omega)) (.inr (.inr rfl)) hR _⟩
  · have noR : ∀ v, Rd s v := fun v n h h1 h2 => by
      rcases h.first with ⟨g, ⟨_, _, _, hl2⟩ | ⟨_, _, _, _, _, hl2⟩⟩
      · have := hl2 h2
        omega
      · have := hl2 h1
        omega
    obtain ⟨_, ⟨n, e, rfl, h1, h2⟩, hP⟩ := parseint_any s hl
    have lens : (((0 : Int) < (s.length : Int)) = False ∧ ((s.length : Int) < 10) = True ∧ ((s.length : Int) < 19) = True) ∨ (((0 : Int) < (s.length : Int)) = True ∧ ((s.length : Int) < 10) = False ∧ ((s.length : Int) < 19) = False) := by
      by_cases h : 0 < s.length
      · exact .inr ⟨eq_true (by omega), eq_false (by omega), eq_false (by omega)⟩
      · exact .inl ⟨eq_false (by omega), eq_true (by omega), eq_true (by omega)⟩
    rcases lens with ⟨g1, g2, g3⟩ | ⟨g1, g2, g3⟩ <;>
    · simp -implicitDefEqProofs only [Tryd.f107,Wa,Wb,Wc,Wd,We,Wf,Wg,Wh,Wi,Wj,Wk,Wl,Wm,Wn,Zo,Zp,evalT,Nat.reduceLT,Nat.reduceEqDiff,if_true,if_false,reduceIte,Ys,ofVal,ofCell,argT,resT,setT,Y0,Int.reduceEq,Int.reduceLT,Int.reduceLE,Int.reduceNeg,mb,Nat.reduceBEq,tys,stb,empty_mk,ls,g1,g2,g3,hP]
      exact endP n e h1 h2 (noR _) _
end Go.Proofs.YtbikmhpobflfeaaDoor.I
namespace Go.Proofs.YtbikmhpobflfeaaDoor.I
open Go.Ab
set_option maxHeartbeats 4000000
set_option maxHeartbeats 4000000
set_option maxRecDepth 100000
set_option linter.unusedSimpArgs false
set_option linter.unusedVariables false
set_option linter.unusedSectionVars false
theorem e97 : elemS env 97 = some 5 := by kernel_rfl
theorem byteCells_cell (a : List UInt8) : (byteCells a).all V.isCell = true := by simp [byteCells, V.isCell]
noncomputable def ustr (σ : S) (pt : TypeId) (p n : V) : Option (V × S) :=
  match n with
  | .int .i64 n => aunsafeStr env pt p n σ
  | _ => none
theorem opT_ustr {m : Bool} {T : Tm} {σ : S} (x y : Operand) (t u : TypeId) : opT env m T σ (.call ⟨.builtin .unsafeString, #[x, y], #[t, u]⟩) = (evalT env T x).bind fun p => (evalT env T y).bind fun n => ustr σ t p n := by
  unfold opT ustr
  simp only [apure, aread, astate, listO, Option.map_some]
  cases evalT env T x with
  | none => rfl
  | some v =>
    cases evalT env T y with
    | none => rfl
    | some w => cases w <;> first | rfl | (rename_i k n; cases k <;> rfl)
theorem bytesOK_cells : ∀ s : List UInt8, bytesOK (byteCells s) = true
  | [] => rfl
  | b :: s => by
    have h := bytesOK_cells s
    unfold byteCells at h ⊢
    have hb := b.toNat_lt
    simp only [List.map_cons, bytesOK, h]
    simp
    omega
theorem u132 : env.P.underlying 132 = some (.pointer 5) := by kernel_rfl
theorem cells5 : env.P.cellsOf 5 = 1 := by kernel_rfl
theorem ustr_hsl (σ : S) (b : Nat) (s : List UInt8) (hs : s ≠ []) (hl : s.length ≤ 2 ^ 30) (hb : σ.heap[b]? = some (.cells (byteCells s) 5)) : ustr σ 132 (.ptr b 0) (.int .i64 s.length) = some (.str s, σ.set b (.ro (byteCells s) 5)) := by
  have h0 : ¬ (s.length : Int) = 0 := fun h => hs (List.eq_nil_of_length_eq_zero (by omega))
  have hlim : lim = 2 ^ 40 := rfl
  have h1 : s.length ≤ lim := by rw [hlim]; omega
  have htk : List.take s.length (byteCells s) = byteCells s := List.take_of_length_le (by rw [byteCells_len]; omega)
  simp only [ustr, aunsafeStr, h0, if_false, hb, u132]
  simp [cells5, byteCells_len, htk, bytesOK_cells, bytesOf_cells, h1]
theorem at136 : env.P.funcs[136]? = some Tryd.f136 := by kernel_rfl
theorem at125 : env.P.funcs[125]? = some Tryd.f125 := by kernel_rfl
theorem at108 : env.P.funcs[108]? = some Tryd.f108 := by kernel_rfl
theorem at78 : env.P.funcs[78]? = some Tryd.f78 := by kernel_rfl
theorem mb136 (r : Nat) : env.mutb 136 r = true := rfl
theorem z5 : zeroV env 5 = some (.int .u8 0) := by kernel_rfl
theorem rep_flat (n : Nat) (v : V) : (List.replicate n [v]).flatten = List.replicate n v := by
  induction n with
  | zero => rfl
  | succ n ih => simp [List.replicate_succ, ih]
theorem make_b {σ : S} (n : Nat) (hn : n ≠ 0) (hl : n ≤ 2 ^ 30) : makeO env true σ 97 (.int .i64 n) (.int .i64 n) = some (.hsl σ.heap.length 0 n n .exact, σ.push (.cells (List.replicate n (.int .u8 0)) 5)) := by
  have hlim : (lim : Nat) = 2 ^ 40 := rfl
  have h1 : 0 ≤ (n : Int) ∧ (n : Int) ≤ n ∧ (n : Int) ≤ (lim : Nat) ∧ (n : Int) * ((1 : Nat) : Int) ≤ (lim : Nat) := by rw [hlim]; omega
  have h2 : ¬ n * 1 = 0 := by omega
  simp only [makeO, e97, s5, b5, z5, Option.bind_some, h1, and_self, if_true, Int.toNat_natCast, h2, if_false, Y6, List.length_cons, List.length_nil, Nat.zero_add, true_or, rep_flat]
theorem copy_b (L : List AObj) (ts : List Nat) (b : Nat) (s : List UInt8) (hs : s ≠ []) (hb : L[b]? = some (.cells (List.replicate s.length (.int .u8 0)) 5)) :
    copyO env ⟨L, ts⟩ 97 (.hsl b 0 s.length s.length .exact) (.str s) = some (.int .i64 s.length, ⟨L.set b (.cells (byteCells s) 5), ts⟩) := by
  have h1 : ¬ s.length = 0 := fun h => hs (List.eq_nil_of_length_eq_zero h)
  have hv : vCells L 1 s.length (.str s) = some (byteCells s) := by simp [vCells, byteCells]
  have h2 : 0 + (byteCells s).length ≤ (List.replicate s.length (V.int .u8 0)).length := by rw [byteCells_len, List.length_replicate]; omega
  have h3 : storeList (List.replicate s.length (V.int .u8 0)) 0 (byteCells s) = byteCells s := by simp [storeList, byteCells_len]
  simp only [copyO, e97, s5, Option.bind_some, vLen, Nat.min_self, hv, h1, if_false, storeCellsV, hb, h2, byteCells_cell, and_self, if_true, h3, S.set, Option.map_some, HCap.room, Bool.false_eq_true]
theorem idx_b (b n : Nat) (c : HCap) (hn : 0 < n) : vIndexAddr 1 (.hsl b 0 n n c) (.int .i64 0) = some (.ptr b 0) := by
  simp [vIndexAddr, hn]
theorem sclone_call (s : List UInt8) (hl : s.length ≤ 2 ^ 30) (σ : S) : callFn env (ev env) 136 [.str s] σ = some (.str s, σ) := by
  refine callFn_pure rfl rfl rfl at136 rfl (by simp [Tryd.f136]) (by simp [Tryd.f136]) (G_start ?_) σ
  by_cases hs : s = []
  · subst hs
    simp -implicitDefEqProofs only [Tryd.f136,Wa,Wb,Wc,Wd,We,Wf,Wg,Wh,Wi,Wj,Wk,Wl,Wm,Wn,Zo,Zp,evalT,Nat.reduceLT,Nat.reduceEqDiff,if_true,if_false,reduceIte,Ys,ofVal,ofCell,argT,resT,setT,Y0,Int.reduceEq,Int.reduceLT,Int.reduceLE,Int.reduceNeg,mb,Nat.reduceBEq,tys,stb,len_str,List.length_nil]
    simp [oneOr, sealDepth, sealV_str]
  · have h1 : ¬ s.length = 0 := fun h => hs (List.eq_nil_of_length_eq_zero h)
    have h2 : ((s.length : Int) = 0) = False := eq_false (by omega)
    have h3 : 0 < s.length := by omega
    simp -implicitDefEqProofs only [Tryd.f136,Wa,Wb,Wc,Wd,We,Wf,Wg,Wh,Wi,Wj,Wk,Wl,Wm,Wn,Zo,Zp,evalT,Nat.reduceLT,Nat.reduceEqDiff,if_true,if_false,reduceIte,Ys,ofVal,ofCell,argT,resT,setT,Y0,Int.reduceEq,Int.reduceLT,Int.reduceLE,Int.reduceNeg,mb,Nat.reduceBEq,tys,stb,len_str,h2,opT_makeSlice,mb136,make_b s.length h1 hl,opT_copy,copy_b [.cells (List.replicate s.length (.int .u8 0)) 5] [] 0 s hs rfl,idx_b _ _ _ h3,len_hsl,opT_ustr,ustr_hsl ⟨[.cells (byteCells s) 5],[]⟩ 0 s hs hl rfl,S.push,empty_mk,List.set_cons_zero]
    simp [oneOr, sealDepth, sealV_str]
theorem gl2 : env.gl 2 = some (.rptr [.any]) := rfl
theorem u143 : ∃ t, env.P.underlying 143 = some (.pointer t) := by
  have h : (match env.P.underlying 143 with | some (.pointer t) => true | _ => false) = true := by kernel_rfl
  split at h
  · exact ⟨_, ‹_›⟩
  · simp at h
theorem aload100 (h : List AObj) : aload env h 100 (.rptr [.any]) = some .any := by rw [aload_one (by kernel_rfl)]; simp [loadCellsV]
theorem cells_any : V.any.cells = [.any] := rfl
theorem isCell_any : V.any.isCell = true := rfl
theorem build156 (a s : List UInt8) : buildO env 156 [(0, .str a), (1, .str s), (2, .any)] = some (.agg [.str a, .str s, .any]) := by kernel_rfl
theorem at124 : env.P.funcs[124]? = some Tryd.f124 := by kernel_rfl
theorem gl1 : env.gl 1 = some (.rptr [.any]) := rfl
theorem range_call (a s : List UInt8) (hl : s.length ≤ 2 ^ 30) (L : List AObj) (ts : List Nat) : callFn env (ev env) 125 [.str a, .str s] ⟨L, ts⟩ = some (.ptr L.length 0, ⟨L ++ [.cells [.str a, .str s, .any] 156], ts⟩) := by
  refine callFn_eq rfl rfl at125 rfl (by simp [Tryd.f125]) (by simp [Tryd.f125]) (G_start ?_)
  simp -implicitDefEqProofs only [Tryd.f125,Wa,Wb,Wc,Wd,We,Wf,Wg,Wh,Wi,Wj,Wk,Wl,Wm,Wn,Zo,Zp,evalT,Nat.reduceLT,Nat.reduceEqDiff,if_true,if_false,reduceIte,Ys,ofVal,ofCell,argT,resT,setT,Y0,Int.reduceEq,Int.reduceLT,Int.reduceLE,Int.reduceNeg,mb,Nat.reduceBEq,tys,stb,sclone_call s hl,gl2,oneOr,aload100,cells_any,isCell_any,build156]
  exact ⟨by kernel_rfl, trivial⟩
theorem syn_call (a s : List UInt8) (hl : s.length ≤ 2 ^ 30) (L : List AObj) (ts : List Nat) : callFn env (ev env) 124 [.str a, .str s] ⟨L, ts⟩ = some (.ptr L.length 0, ⟨L ++ [.cells [.str a, .str s, .any] 156], ts⟩) := by
  refine callFn_eq rfl rfl at124 rfl (by simp [Tryd.f124]) (by simp [Tryd.f124]) (G_start ?_)
  simp -implicitDefEqProofs only [Tryd.f124,Wa,Wb,Wc,Wd,We,Wf,Wg,Wh,Wi,Wj,Wk,Wl,Wm,Wn,Zo,Zp,evalT,Nat.reduceLT,Nat.reduceEqDiff,if_true,if_false,reduceIte,Ys,ofVal,ofCell,argT,resT,setT,Y0,Int.reduceEq,Int.reduceLT,Int.reduceLE,Int.reduceNeg,mb,Nat.reduceBEq,tys,stb,sclone_call s hl,gl1,oneOr,aload100,cells_any,isCell_any,build156]
  exact ⟨by kernel_rfl, trivial⟩
theorem seal_ptr (h : List AObj) (d b o : Nat) : sealV h (d + 1) (.ptr b o) = some .any := rfl
theorem toerr_call (a s : List UInt8) (hl : s.length ≤ 2 ^ 30) (σ : S) : callFn env (ev env) 108 [.str a, .str s, .int .i64 0, .int .i64 0, .iface 140 (.int .i64 1)] σ = some (.iface 143 .any, σ) := by
  refine callFn_pure rfl rfl rfl at108 rfl (by simp [Tryd.f108]) (by simp [Tryd.f108]) (G_start ?_) σ
  have n12 : ((1 : Int) = 2) = False := eq_false (by omega)
  obtain ⟨t, u143⟩ := u143
  simp -implicitDefEqProofs only [Tryd.f108,Wa,Wb,Wc,Wd,We,Wf,Wg,Wh,Wi,Wj,Wk,Wl,Wm,Wn,Zo,Zp,evalT,Nat.reduceLT,Nat.reduceEqDiff,if_true,if_false,reduceIte,Ys,ofVal,ofCell,argT,resT,setT,Y0,Int.reduceEq,Int.reduceLT,Int.reduceLE,Int.reduceNeg,mb,Nat.reduceBEq,tys,stb,u140,opT_mkIf,mkIf_int u140,mkIf_ptr u143,binO_if_eq if140 u100,n12,range_call a s hl,empty_mk]
  simp only [oneOr, sealDepth, sealV_iface, seal_ptr, Option.map_some]
theorem toerr2_call (a s : List UInt8) (hl : s.length ≤ 2 ^ 30) (σ : S) : callFn env (ev env) 108 [.str a, .str s, .int .i64 0, .int .i64 0, .iface 140 (.int .i64 2)] σ = some (.iface 143 .any, σ) := by
  refine callFn_pure rfl rfl rfl at108 rfl (by simp [Tryd.f108]) (by simp [Tryd.f108]) (G_start ?_) σ
  have n12 : ((2 : Int) = 2) = True := eq_true rfl
  obtain ⟨t, u143⟩ := u143
  simp -implicitDefEqProofs only [Tryd.f108,Wa,Wb,Wc,Wd,We,Wf,Wg,Wh,Wi,Wj,Wk,Wl,Wm,Wn,Zo,Zp,evalT,Nat.reduceLT,Nat.reduceEqDiff,if_true,if_false,reduceIte,Ys,ofVal,ofCell,argT,resT,setT,Y0,Int.reduceEq,Int.reduceLT,Int.reduceLE,Int.reduceNeg,mb,Nat.reduceBEq,tys,stb,u140,opT_mkIf,mkIf_int u140,mkIf_ptr u143,binO_if_eq if140 u100,n12,syn_call a s hl,empty_mk]
  simp only [oneOr, sealDepth, sealV_iface, seal_ptr, Option.map_some]
def AtwP (s : List UInt8) (v : V) : Prop := (∃ n : Int, In64 n ∧ (v = .tup [.int .i64 n, .nilif] ∨ v = .tup [.int .i64 n, .iface 143 .any])) ∧ Rd s v
theorem sealV_any (h : List AObj) (d : Nat) : sealV h (d + 1) .any = some .any := rfl
theorem atoi_call (s : List UInt8) (hl : s.length ≤ 2 ^ 30) : ∃ v, AtwP s v ∧ ∀ σ, callFn env (ev env) 78 [.str s] σ = some (v, σ) := by
  obtain ⟨_, ⟨⟨n, e, rfl, h1, h2⟩, hR⟩, hP⟩ := atoi_any s hl
  have hE := fun a => toerr_call a s hl
  have hE2 := fun a => toerr2_call a s hl
  obtain ⟨ms, u100⟩ := u100
  refine callFn_pany rfl rfl rfl at78 rfl (by simp [Tryd.f78]) (by simp [Tryd.f78]) (AtwP s) (G_start ?_)
  rcases h2 with rfl | rfl | rfl
  · simp -implicitDefEqProofs only [Tryd.f78,Wa,Wb,Wc,Wd,We,Wf,Wg,Wh,Wi,Wj,Wk,Wl,Wm,Wn,Zo,Zp,evalT,Nat.reduceLT,Nat.reduceEqDiff,if_true,if_false,reduceIte,Ys,ofVal,ofCell,argT,resT,setT,Y0,Int.reduceEq,Int.reduceLT,Int.reduceLE,Int.reduceNeg,mb,Nat.reduceBEq,tys,stb,empty_mk,hP,binO_nil_if u100,isConst]
    refine ⟨.tup [.int .i64 n, .nilif], ?_, ⟨n, h1, .inl rfl⟩, hR⟩
    simp only [oneOr, sealDepth, sealV_tup, mapM_seal_cons, mapM_seal_nil, sealV_int, sealV_iface, sealV_nilif, Option.bind_some, Option.map_some]
  all_goals
    simp -implicitDefEqProofs only [Tryd.f78,Wa,Wb,Wc,Wd,We,Wf,Wg,Wh,Wi,Wj,Wk,Wl,Wm,Wn,Zo,Zp,evalT,Nat.reduceLT,Nat.reduceEqDiff,if_true,if_false,reduceIte,Ys,ofVal,ofCell,argT,resT,setT,Y0,Int.reduceEq,Int.reduceLT,Int.reduceLE,Int.reduceNeg,mb,Nat.reduceBEq,tys,stb,empty_mk,hP,binO_if_nil u100,hE,hE2,isConst]
    refine ⟨.tup [.int .i64 n, .iface 143 .any], ?_, ⟨n, h1, .inr rfl⟩, fun m g1 g2 g3 => ?_⟩
    · simp only [oneOr, sealDepth, sealV_tup, mapM_seal_cons, mapM_seal_nil, sealV_int, sealV_iface, sealV_any, Option.bind_some, Option.map_some]
    · have := hR m g1 g2 g3
      simp at this
end Go.Proofs.YtbikmhpobflfeaaDoor.I
namespace Go.Proofs.YtbikmhpobflfeaaDoor.I
open Go.Ab
set_option maxHeartbeats 4000000
set_option maxHeartbeats 4000000
set_option maxRecDepth 100000
set_option linter.unusedSimpArgs false
set_option linter.unusedVariables false
set_option linter.unusedSectionVars false
theorem at77 : env.P.funcs[77]? = some Tryd.f77 := by kernel_rfl
theorem at63 : env.P.funcs[63]? = some Tryd.f63 := by kernel_rfl
theorem at76 : env.P.funcs[76]? = some Tryd.f76 := by kernel_rfl
theorem at44 : env.P.funcs[44]? = some Tryd.f44 := by kernel_rfl
theorem at45 : env.P.funcs[45]? = some Tryd.f45 := by kernel_rfl
theorem at43 : env.P.funcs[43]? = some Tryd.f43 := by kernel_rfl
theorem u24 : env.P.underlying 24 = some (.slice 9) := by kernel_rfl
theorem u27 : env.P.underlying 27 = some (.slice 44) := by kernel_rfl
theorem u32 : env.P.underlying 32 = some (.int .i64) := by kernel_rfl
theorem tysI : env.P.underlying 24 = some (.slice 9) ∧ env.P.underlying 27 = some (.slice 44) ∧ env.P.underlying 32 = some (.int .i64) ∧ sz env 24 = some 1 ∧ sz env 44 = some 4 ∧ fldOff env 44 0 = some 0 ∧ fldOff env 44 1 = some 1 ∧ fldOff env 44 2 = some 2 ∧ fldOff env 44 3 = some 3 ∧
    (∀ h p, aload env h 9 p = (loadCellsV h 1 p).bind (·[0]?)) ∧ (∀ h p, aload env h 24 p = (loadCellsV h 1 p).bind (·[0]?)) ∧ (∀ h p, aload env h 3 p = (loadCellsV h 1 p).bind (·[0]?)) ∧ (∀ h p, aload env h 44 p = (loadCellsV h 4 p).map .agg) := by
  have g9 : aggT env 9 = some false := by kernel_rfl
  have g24 : aggT env 24 = some false := by kernel_rfl
  have g3 : aggT env 3 = some false := by kernel_rfl
  have g44 : aggT env 44 = some true := by kernel_rfl
  have s44 : sz env 44 = some 4 := by kernel_rfl
  exact ⟨u24, u27, u32, by kernel_rfl, s44, by kernel_rfl, by kernel_rfl, by kernel_rfl, by kernel_rfl, fun _ _ => aload_one g9, fun _ _ => aload_one g24, fun _ _ => aload_one g3, fun h p => by unfold aload; rw [g44, s44]; rfl⟩
theorem strs_get (ws : List (List UInt8)) (i : Nat) : (ws.map V.str)[i]? = if i < ws.length then some (V.str (ws.getD i [])) else none := by
  rw [List.getElem?_map]
  by_cases h : i < ws.length
  · simp [h]
  · simp [h]
def placeW (ws : List (List UInt8)) (s : List UInt8) : Nat → Nat → Int
  | 0, _ => -1
  | m + 1, i => if s = ws.getD i [] then i else placeW ws s m (i + 1)
theorem index_call (ws : List (List UInt8)) (hl : ws.length ≤ 1000) (s : List UInt8) (σ : S) : callFn env (ev env) 77 [.row (ws.map V.str) ws.length .unk, .str s] σ = some (.int .i64 (placeW ws s ws.length 0), σ) := by
  refine callFn_pure rfl rfl (by have h := closed_W (rowW_is ws); unfold rowW at h; simp only [List.all_cons, h, List.all_nil]; rfl) at77 rfl (by simp [Tryd.f77]) (by simp [Tryd.f77]) (G_start ?_) σ
  simp -implicitDefEqProofs only [Tryd.f77,Wa,Wb,Wc,Wd,We,Wf,Wg,Wh,Wi,Wj,Wk,Wl,Wm,Wn,Zo,Zp,evalT,Nat.reduceLT,Nat.reduceEqDiff,if_true,if_false,reduceIte,Ys,ofVal,ofCell,argT,resT,setT,Y0,Int.reduceEq,Int.reduceLT,Int.reduceLE,Int.reduceNeg,mb,Nat.reduceBEq,tys,stb,tysI]
  refine loop_rule (fun m T D σ => D = [] ∧ σ = S.empty ∧ T 0 = .row (ws.map V.str) ws.length .unk ∧ T 1 = .str s ∧ T 7 = .int .i64 ws.length ∧ ∃ i : Nat, T 8 = .int .i64 i ∧ i ≤ ws.length ∧ m = ws.length - i ∧ placeW ws s ws.length 0 = placeW ws s (ws.length - i) i) ?_ _ _ _ _ ⟨rfl, rfl, rfl, rfl, rfl, 0, rfl, by omega, rfl, rfl⟩
  rintro m T D σ ⟨rfl, rfl, t0, t1, t7, i, t8, hi, rfl, hf⟩
  refine G_start ?_
  by_cases hlt : i < ws.length
  · have c1 : (i : Int) < (ws.length : Int) := by omega
    have e1 : IntKind.i64.wrap ((i : Int) + 1) = ((i + 1 : Nat) : Int) := by rw [wrap_i64 (by omega) (by omega)]; omega
    have c2 : (0 : Int) ≤ (i : Int) ∧ (i : Int) < (ws.length : Int) := by omega
    obtain ⟨q, hq⟩ : ∃ q, ws.length - i = q + 1 := ⟨ws.length - i - 1, by omega⟩
    have hq2 : q = ws.length - (i + 1) := by omega
    have hstep : placeW ws s (ws.length - i) i = if s = ws.getD i [] then (i : Int) else placeW ws s q (i + 1) := by rw [hq]; rfl
    rw [hstep] at hf
    by_cases hn : s = ws.getD i []
    · rw [if_pos hn] at hf
      simp -implicitDefEqProofs only [Wa,Wb,Wc,Wd,We,Wf,Wg,Wh,Wi,Wj,Wk,Wl,Wm,Wn,Zo,Zp,evalT,Nat.reduceLT,Nat.reduceEqDiff,if_true,if_false,reduceIte,Ys,ofVal,ofCell,argT,resT,setT,Y0,Int.reduceEq,Int.reduceLT,Int.reduceLE,Int.reduceNeg,mb,Nat.reduceBEq,tys,stb,tysI,t0,t1,t7,t8,c1,c2,e1,strs_get,hlt,vBin_seql,← hn]
      simp only [oneOr, sealDepth, sealV_int, hf]
    · rw [if_neg hn, hq2] at hf
      simp -implicitDefEqProofs only [Wa,Wb,Wc,Wd,We,Wf,Wg,Wh,Wi,Wj,Wk,Wl,Wm,Wn,Zo,Zp,evalT,Nat.reduceLT,Nat.reduceEqDiff,if_true,if_false,reduceIte,Ys,ofVal,ofCell,argT,resT,setT,Y0,Int.reduceEq,Int.reduceLT,Int.reduceLE,Int.reduceNeg,mb,Nat.reduceBEq,tys,stb,tysI,t0,t1,t7,t8,c1,c2,e1,strs_get,hlt,vBin_seql,hn]
      exact ⟨ws.length - (i + 1), by omega, i + 1, rfl, by omega, rfl, hf⟩
  · have hi2 : i = ws.length := by omega
    subst hi2
    have c1 : ¬ (ws.length : Int) < (ws.length : Int) := by omega
    rw [Nat.sub_self] at hf
    simp -implicitDefEqProofs only [Wa,Wb,Wc,Wd,We,Wf,Wg,Wh,Wi,Wj,Wk,Wl,Wm,Wn,Zo,Zp,evalT,Nat.reduceLT,Nat.reduceEqDiff,if_true,if_false,reduceIte,Ys,ofVal,ofCell,argT,resT,setT,Y0,Int.reduceEq,Int.reduceLT,Int.reduceLE,Int.reduceNeg,mb,Nat.reduceBEq,tys,stb,tysI,t0,t1,t7,t8,c1]
    simp only [oneOr, sealDepth, sealV_int, hf]; rfl
theorem found_call (x : Int) (hx : In64 x) (σ : S) : callFn env (ev env) 63 [.int .i64 x] σ = some (.tup [.int .i64 (if 0 ≤ x then x else 0), .bool (decide (0 ≤ x))], σ) := by
  refine callFn_pure rfl rfl rfl at63 rfl (by simp [Tryd.f63]) (by simp [Tryd.f63]) (G_start ?_) σ
  by_cases h : 0 ≤ x
  · have g : (x ≥ 0) = True := eq_true h
    simp -implicitDefEqProofs only [Tryd.f63,Wa,Wb,Wc,Wd,We,Wf,Wg,Wh,Wi,Wj,Wk,Wl,Wm,Wn,Zo,Zp,evalT,Nat.reduceLT,Nat.reduceEqDiff,if_true,if_false,reduceIte,Ys,ofVal,ofCell,argT,resT,setT,Y0,Int.reduceEq,Int.reduceLT,Int.reduceLE,Int.reduceNeg,mb,Nat.reduceBEq,tys,stb,empty_mk,g,h]
    rw [if_neg (by omega)]; rfl
  · have g : (x ≥ 0) = False := eq_false h
    simp -implicitDefEqProofs only [Tryd.f63,Wa,Wb,Wc,Wd,We,Wf,Wg,Wh,Wi,Wj,Wk,Wl,Wm,Wn,Zo,Zp,evalT,Nat.reduceLT,Nat.reduceEqDiff,if_true,if_false,reduceIte,Ys,ofVal,ofCell,argT,resT,setT,Y0,Int.reduceEq,Int.reduceLT,Int.reduceLE,Int.reduceNeg,mb,Nat.reduceBEq,tys,stb,empty_mk,g,h]
    rw [if_pos (by omega)]; rfl
end Go.Proofs.YtbikmhpobflfeaaDoor.I
namespace Go.Proofs.YtbikmhpobflfeaaDoor.I
open Go.Ab
set_option maxHeartbeats 4000000
set_option maxHeartbeats 4000000
set_option maxRecDepth 100000
set_option linter.unusedSimpArgs false
set_option linter.unusedVariables false
set_option linter.unusedSectionVars false
abbrev aggC (c : Col) : V := .agg [.str c.name, .int .i64 c.lo, .int .i64 c.hi, c.w]
theorem closedC {c : Col} (h : IsW c.w c.ws) : (aggC c).closed = true := by
  simp only [aggC, V.closed, V.closed.closedL, closed_W h]; rfl
theorem rowC1 (a b c d : V) : rowO env 27 1 [(0, .agg [a, b, c, d])] = some (.row [a, b, c, d] 1 .full) := by kernel_rfl
theorem ld4_0 (a b c d : V) (t : TypeId) (X : List AObj) : loadCellsV (.cells [a, b, c, d] t :: X) 4 (.ptr 0 0) = some [a, b, c, d] := rfl
theorem seal_row_strs (h : List AObj) (d : Nat) (ws : List (List UInt8)) (c : RCap) : sealV h (d + 2) (.row (ws.map V.str) ws.length c) = some (.row (ws.map V.str) ws.length .unk) := by
  rw [sealV_row, seal_strs]; rfl
theorem seal_W (h : List AObj) (d : Nat) {w : V} {ws : List (List UInt8)} (hw : IsW w ws) : sealV h (d + 2) w = some w := by
  rcases hw with ⟨rfl, _⟩ | rfl
  · rfl
  · exact seal_row_strs h d ws _
theorem seal_flat2 (h : List AObj) (d : Nat) : ∀ {cs : List Col}, OkC cs → (flatC cs).mapM (sealV h (d + 2)) = some (flatC cs)
  | [], _ => rfl
  | c :: cs, ok => by
    rw [flatC_cons, mapM_seal_cons, mapM_seal_cons, mapM_seal_cons, mapM_seal_cons, seal_flat2 h d (cs := cs) fun x hx => ok x (by simp [hx]), seal_W h d (ok c (by simp)), sealV_str, sealV_int, sealV_int]
    rfl
def Ok1 (c : Col) : Prop := colX [c] 0 = 0
theorem col95 (c : Col) (h : IsW c.w c.ws) (hs : Short c) (σ : S) : callFn env (ev env) 95 [.row [.str c.name, .int .i64 c.lo, .int .i64 c.hi, c.w] 1 .full, .int .i64 0] σ = some (.int .i64 (colX [c] 0), σ) := by
  have ok : OkC [c] := fun x hx => by rw [List.mem_singleton.1 hx]; exact h
  refine call_N (args' := [.row (flatC [c]) 1 .unk, .int .i64 0]) ?_ (fun σ => ?_) rfl (ev env)
  · rw [List.mapM_cons]
    change (sealV σ.heap 12 (.row (flatC [c]) 1 .full)).bind _ = _
    rw [sealV_row, seal_flat2 σ.heap 9 ok]
    rfl
  · exact YtbikmhpobflfeaaDoor.column_call _ [c] (.inr rfl) ok (by simp) 0 (by simp) hs σ
theorem valid_call (c : Col) (h : IsW c.w c.ws) (hs : Short c) (b : Bool) (hb : b = true ↔ Ok1 c) (σ : S) : callFn env (ev env) 76 [aggC c] σ = some (.bool b, σ) := by
  refine callFn_pure rfl rfl (by rw [List.all_cons, closedC h]; rfl) at76 rfl (by simp [Tryd.f76]) (by simp [Tryd.f76]) (G_start ?_) σ
  have hC := col95 c h hs
  have he : (colX [c] 0 = 0) = (b = true) := propext hb.symm
  have hw := isCell_W h
  cases b <;> (simp -implicitDefEqProofs only [Tryd.f76,Wa,Wb,Wc,Wd,We,Wf,Wg,Wh,Wi,Wj,Wk,Wl,Wm,Wn,Zo,Zp,evalT,Nat.reduceLT,Nat.reduceEqDiff,if_true,if_false,reduceIte,Ys,ofVal,ofCell,argT,resT,setT,Y0,Int.reduceEq,Int.reduceLT,Int.reduceLE,Int.reduceNeg,mb,Nat.reduceBEq,tys,stb,tysI,empty_mk,aggC,YW,ld4_0,opT_rowO,rowC1,hC,he]; rfl)
theorem width_call (c : Col) (h : IsW c.w c.ws) (hs : Short c) (h1 : In64 c.lo) (h2 : In64 c.hi) (w : Int) (hw : (¬ Ok1 c ∧ w = 0) ∨ (Ok1 c ∧ w = IntKind.i64.wrap (IntKind.i64.wrap (c.hi - c.lo) + 1))) (σ : S) : callFn env (ev env) 44 [aggC c] σ = some (.int .i64 w, σ) := by
  refine callFn_pure rfl rfl (by rw [List.all_cons, closedC h]; rfl) at44 rfl (by simp [Tryd.f44]) (by simp [Tryd.f44]) (G_start ?_) σ
  rcases hw with ⟨hv, rfl⟩ | ⟨hv, rfl⟩
  · have hV := valid_call c h hs false (by simp [hv])
    simp -implicitDefEqProofs only [Tryd.f44,Wa,Wb,Wc,Wd,We,Wf,Wg,Wh,Wi,Wj,Wk,Wl,Wm,Wn,Zo,Zp,evalT,Nat.reduceLT,Nat.reduceEqDiff,if_true,if_false,reduceIte,Ys,ofVal,ofCell,argT,resT,setT,Y0,Int.reduceEq,Int.reduceLT,Int.reduceLE,Int.reduceNeg,mb,Nat.reduceBEq,tys,stb,tysI,empty_mk,aggC,YW,ld4_0,hV]
    rfl
  · have hV := valid_call c h hs true (by simp [hv])
    simp -implicitDefEqProofs only [Tryd.f44,Wa,Wb,Wc,Wd,We,Wf,Wg,Wh,Wi,Wj,Wk,Wl,Wm,Wn,Zo,Zp,evalT,Nat.reduceLT,Nat.reduceEqDiff,if_true,if_false,reduceIte,Ys,ofVal,ofCell,argT,resT,setT,Y0,Int.reduceEq,Int.reduceLT,Int.reduceLE,Int.reduceNeg,mb,Nat.reduceBEq,tys,stb,tysI,empty_mk,aggC,YW,ld4_0,hV]
    rfl
open Classical in
noncomputable def itoaS (n : Int) : List UInt8 := if h : In64 n then Classical.choose (itoa_call n h) else []
theorem itoaS_call {n : Int} (h : In64 n) (σ : S) : callFn env (ev env) 79 [.int .i64 n] σ = some (.str (itoaS n), σ) := by
  unfold itoaS
  rw [dif_pos h]
  exact (Classical.choose_spec (itoa_call n h)).1 σ
theorem itoaS_txt {n : Int} (h : In64 n) : TxtOf n (itoaS n) := by
  unfold itoaS
  rw [dif_pos h]
  exact (Classical.choose_spec (itoa_call n h)).2
open Classical in
noncomputable def textV (c : Col) (v : Int) : List UInt8 := if ¬ Ok1 c ∨ v < c.lo ∨ c.hi < v then [] else if 0 < c.ws.length then c.ws.getD v.toNat [] else itoaS v
theorem Ok1.words {c : Col} (h : Ok1 c) (hn : 0 < c.ws.length) : c.ws.length ≤ 64 ∧ (∀ i, i < c.ws.length → IsName (c.ws.getD i [])) ∧ ¬ Twice c.ws ∧ c.lo = 0 ∧ c.hi = (c.ws.length : Int) - 1 := by
  unfold Ok1 colX at h
  simp only [List.getD_cons_zero] at h
  split at h
  · omega
  split at h
  · omega
  unfold colE at h
  rw [if_neg (by omega)] at h
  split at h
  · omega
  split at h
  · omega
  split at h
  · omega
  split at h
  · omega
  rename_i a1 a2 a3 a4 a5 a6
  refine ⟨by omega, fun i hi => Classical.byContradiction fun hc => a4 ⟨i, hi, hc⟩, a5, by omega, by omega⟩
theorem Ok1.nums {c : Col} (h : Ok1 c) (hn : ¬ 0 < c.ws.length) : -1000000 ≤ c.lo ∧ c.hi ≤ 1000000 ∧ c.lo ≤ c.hi := by
  unfold Ok1 colX at h
  simp only [List.getD_cons_zero] at h
  split at h
  · omega
  split at h
  · omega
  unfold colE at h
  rw [if_pos (by omega)] at h
  split at h
  · omega
  omega
theorem text_call (c : Col) (h : IsW c.w c.ws) (hs : Short c) (h1 : In64 c.lo) (h2 : In64 c.hi) (v : Int) (hv : In64 v) (σ : S) : callFn env (ev env) 45 [aggC c, .int .i64 v] σ = some (.str (textV c v), σ) := by
  refine callFn_pure rfl rfl (by rw [List.all_cons, closedC h]; rfl) at45 rfl (by simp [Tryd.f45]) (by simp [Tryd.f45]) (G_start ?_) σ
  have hlw := len_W h
  have hic := isCell_W h
  unfold textV
  by_cases hok : Ok1 c
  · have hV := valid_call c h hs true (by simp [hok])
    by_cases ha : v < c.lo
    · have g1 : (v < c.lo) = True := eq_true ha
      rw [if_pos (.inr (.inl ha))]
      simp -implicitDefEqProofs only [Tryd.f45,Wa,Wb,Wc,Wd,We,Wf,Wg,Wh,Wi,Wj,Wk,Wl,Wm,Wn,Zo,Zp,evalT,Nat.reduceLT,Nat.reduceEqDiff,if_true,if_false,reduceIte,Ys,ofVal,ofCell,argT,resT,setT,Y0,Int.reduceEq,Int.reduceLT,Int.reduceLE,Int.reduceNeg,mb,Nat.reduceBEq,tys,stb,tysI,empty_mk,aggC,YW,ld4_0,hV,g1]
      rfl
    · have g1 : (v < c.lo) = False := eq_false ha
      by_cases hb : c.hi < v
      · have g2 : (v > c.hi) = True := eq_true hb
        rw [if_pos (.inr (.inr hb))]
        simp -implicitDefEqProofs only [Tryd.f45,Wa,Wb,Wc,Wd,We,Wf,Wg,Wh,Wi,Wj,Wk,Wl,Wm,Wn,Zo,Zp,evalT,Nat.reduceLT,Nat.reduceEqDiff,if_true,if_false,reduceIte,Ys,ofVal,ofCell,argT,resT,setT,Y0,Int.reduceEq,Int.reduceLT,Int.reduceLE,Int.reduceNeg,mb,Nat.reduceBEq,tys,stb,tysI,empty_mk,aggC,YW,ld4_0,hV,g1,g2]
        rfl
      · have g2 : (v > c.hi) = False := eq_false hb
        rw [if_neg (show ¬ (¬ Ok1 c ∨ v < c.lo ∨ c.hi < v) from fun q => q.elim (fun q => q hok) (fun q => q.elim ha hb))]
        by_cases hn : 0 < c.ws.length
        · have g3 : ((c.ws.length : Int) > 0) = True := eq_true (by omega)
          rw [if_pos hn]
          obtain ⟨w1, w2, w3, w4, w5⟩ := hok.words hn
          obtain ⟨k, rfl⟩ : ∃ k : Nat, v = (k : Int) := ⟨v.toNat, by omega⟩
          have hix := idx_W h (show k < c.ws.length by omega)
          rw [Int.toNat_natCast]
          simp -implicitDefEqProofs only [Tryd.f45,Wa,Wb,Wc,Wd,We,Wf,Wg,Wh,Wi,Wj,Wk,Wl,Wm,Wn,Zo,Zp,evalT,Nat.reduceLT,Nat.reduceEqDiff,if_true,if_false,reduceIte,Ys,ofVal,ofCell,argT,resT,setT,Y0,Int.reduceEq,Int.reduceLT,Int.reduceLE,Int.reduceNeg,mb,Nat.reduceBEq,tys,stb,tysI,empty_mk,aggC,YW,ld4_0,hV,g1,g2,hlw,g3,hix,load_hd]
          rfl
        · have g3 : ((c.ws.length : Int) > 0) = False := eq_false (by omega)
          rw [if_neg hn]
          have hI := itoaS_call hv
          simp -implicitDefEqProofs only [Tryd.f45,Wa,Wb,Wc,Wd,We,Wf,Wg,Wh,Wi,Wj,Wk,Wl,Wm,Wn,Zo,Zp,evalT,Nat.reduceLT,Nat.reduceEqDiff,if_true,if_false,reduceIte,Ys,ofVal,ofCell,argT,resT,setT,Y0,Int.reduceEq,Int.reduceLT,Int.reduceLE,Int.reduceNeg,mb,Nat.reduceBEq,tys,stb,tysI,empty_mk,aggC,YW,ld4_0,hV,g1,g2,hlw,g3,hI]
          rfl
  · have hV := valid_call c h hs false (by simp [hok])
    rw [if_pos (.inl hok)]
    simp -implicitDefEqProofs only [Tryd.f45,Wa,Wb,Wc,Wd,We,Wf,Wg,Wh,Wi,Wj,Wk,Wl,Wm,Wn,Zo,Zp,evalT,Nat.reduceLT,Nat.reduceEqDiff,if_true,if_false,reduceIte,Ys,ofVal,ofCell,argT,resT,setT,Y0,Int.reduceEq,Int.reduceLT,Int.reduceLE,Int.reduceNeg,mb,Nat.reduceBEq,tys,stb,tysI,empty_mk,aggC,YW,ld4_0,hV]
    rfl
end Go.Proofs.YtbikmhpobflfeaaDoor.I
namespace Go.Proofs.YtbikmhpobflfeaaDoor.I
open Go.Ab
set_option maxHeartbeats 4000000
set_option maxHeartbeats 4000000
set_option maxRecDepth 100000
set_option linter.unusedSimpArgs false
set_option linter.unusedVariables false
set_option linter.unusedSectionVars false
theorem at46 : env.P.funcs[46]? = some Tryd.f46 := by kernel_rfl
theorem pick_call (x n : Int) (hx : In64 x) (hn : In64 n) (h1 : 1 ≤ n) (σ : S) : callFn env (ev env) 46 [.int .i64 x, .int .i64 n] σ = some (.int .i64 (x % n), σ) := by
  refine callFn_pure rfl rfl rfl at46 rfl (by simp [Tryd.f46]) (by simp [Tryd.f46]) (G_start ?_) σ
  unfold In64 at hx hn
  have hne : (n = 0) = False := eq_false (by omega)
  have hb1 : Int.tmod x n < n := Int.tmod_lt_of_pos x (by omega)
  have hb2 : -n < Int.tmod x n := Int.lt_tmod_of_pos x (by omega)
  have e1 : IntKind.i64.wrap (Int.tmod x n) = Int.tmod x n := wrap_i64 (by omega) (by omega)
  have hem : x % n = if Int.tmod x n < 0 then Int.tmod x n + n else Int.tmod x n := by
    have h2 := Int.tmod_add_mul_tdiv x n
    split
    · rename_i h
      have : (Int.tmod x n + n + n * (Int.tdiv x n - 1)) % n = Int.tmod x n + n := by rw [Int.add_mul_emod_self_left]; exact Int.emod_eq_of_lt (by omega) (by omega)
      rw [← this]; congr 1; rw [Int.mul_sub]; omega
    · have : (Int.tmod x n + n * Int.tdiv x n) % n = Int.tmod x n := by rw [Int.add_mul_emod_self_left]; exact Int.emod_eq_of_lt (by omega) (by omega)
      rw [← this]; congr 1; omega
  by_cases h : Int.tmod x n < 0
  · rw [if_pos h] at hem
    have e2 : IntKind.i64.wrap (Int.tmod x n + n) = Int.tmod x n + n := wrap_i64 (by omega) (by omega)
    have g : (Int.tmod x n < 0) = True := eq_true h
    simp -implicitDefEqProofs only [Tryd.f46,Wa,Wb,Wc,Wd,We,Wf,Wg,Wh,Wi,Wj,Wk,Wl,Wm,Wn,Zo,Zp,evalT,Nat.reduceLT,Nat.reduceEqDiff,if_true,if_false,reduceIte,Ys,ofVal,ofCell,argT,resT,setT,Y0,Int.reduceEq,Int.reduceLT,Int.reduceLE,Int.reduceNeg,mb,Nat.reduceBEq,tys,stb,empty_mk,hne,e1,g,e2]
    rw [hem]; rfl
  · rw [if_neg h] at hem
    have g : (Int.tmod x n < 0) = False := eq_false h
    simp -implicitDefEqProofs only [Tryd.f46,Wa,Wb,Wc,Wd,We,Wf,Wg,Wh,Wi,Wj,Wk,Wl,Wm,Wn,Zo,Zp,evalT,Nat.reduceLT,Nat.reduceEqDiff,if_true,if_false,reduceIte,Ys,ofVal,ofCell,argT,resT,setT,Y0,Int.reduceEq,Int.reduceLT,Int.reduceLE,Int.reduceNeg,mb,Nat.reduceBEq,tys,stb,empty_mk,hne,e1,g]
    rw [hem]; rfl
theorem placeW_spec (ws : List (List UInt8)) (s : List UInt8) : ∀ m i, placeW ws s m i = -1 ∧ (∀ j, i ≤ j → j < i + m → s ≠ ws.getD j []) ∨ ∃ j : Nat, placeW ws s m i = j ∧ i ≤ j ∧ j < i + m ∧ s = ws.getD j []
  | 0, i => .inl ⟨rfl, fun j h1 h2 => by omega⟩
  | m + 1, i => by
    simp only [placeW]
    by_cases h : s = ws.getD i []
    · rw [if_pos h]
      exact .inr ⟨i, rfl, by omega, by omega, h⟩
    · rw [if_neg h]
      rcases placeW_spec ws s m (i + 1) with ⟨h1, h2⟩ | ⟨j, h1, h2, h3, h4⟩
      · refine .inl ⟨h1, fun j a b => ?_⟩
        by_cases e : j = i
        · subst e; exact h
        · exact h2 j (by omega) (by omega)
      · exact .inr ⟨j, h1, by omega, by omega, h4⟩
structure ValP (c : Col) (s : List UInt8) (n : Int) (b : Bool) : Prop where
  bad : ¬ Ok1 c → n = 0 ∧ b = false
  zero : b = false → n = 0
  back : b = true → Ok1 c ∧ c.lo ≤ n ∧ n ≤ c.hi ∧ textV c n = s
  own : Ok1 c → ∀ v, c.lo ≤ v → v ≤ c.hi → s = textV c v → n = v ∧ b = true
  i64 : In64 n
theorem textV_w {c : Col} (h : Ok1 c) {v : Int} (h1 : c.lo ≤ v) (h2 : v ≤ c.hi) : textV c v = if 0 < c.ws.length then c.ws.getD v.toNat [] else itoaS v := by
  unfold textV
  rw [if_neg (show ¬ (¬ Ok1 c ∨ v < c.lo ∨ c.hi < v) from fun q => q.elim (fun q => q h) (fun q => q.elim (by omega) (by omega)))]
theorem value_call (c : Col) (h : IsW c.w c.ws) (hs : Short c) (h1 : In64 c.lo) (h2 : In64 c.hi) (s : List UInt8) (hl : s.length ≤ 2 ^ 30) : ∃ (n : Int) (b : Bool), ValP c s n b ∧ ∀ σ, callFn env (ev env) 43 [aggC c, .str s] σ = some (.tup [.int .i64 n, .bool b], σ) := by
  have i0 : In64 0 := by unfold In64; omega
  have hlw := len_W h
  by_cases hok : Ok1 c
  · have hV := valid_call c h hs true (by simp [hok])
    by_cases hn : 0 < c.ws.length
    · obtain ⟨w1, w2, w3, w4, w5⟩ := hok.words hn
      have hrow : c.w = .row (c.ws.map V.str) c.ws.length .unk := by
        rcases h with ⟨_, e⟩ | e
        · rw [e] at hn; simp at hn
        · exact e
      have hI := index_call c.ws (by omega) s
      have g3 : ((c.ws.length : Int) > 0) = True := eq_true (by omega)
      have hlw2 : vLenT (some (.slice 9)) (.row (c.ws.map V.str) c.ws.length .unk) = some (.int .i64 c.ws.length) := rfl
      have run : ∀ p : Int, In64 p → placeW c.ws s c.ws.length 0 = p → ∀ σ, callFn env (ev env) 43 [aggC c, .str s] σ = some (.tup [.int .i64 (if 0 ≤ p then p else 0), .bool (decide (0 ≤ p))], σ) := fun p hp e σ => by
        rw [e] at hI
        have hF := found_call p hp
        refine callFn_pure rfl rfl (by rw [List.all_cons, closedC h]; rfl) at43 rfl (by simp [Tryd.f43]) (by simp [Tryd.f43]) (G_start ?_) σ
        unfold aggC at hV ⊢
        rw [hrow] at hV ⊢
        generalize (if 0 ≤ p then p else 0) = q at *
        generalize decide (0 ≤ p) = d at *
        simp -implicitDefEqProofs only [Tryd.f43,Wa,Wb,Wc,Wd,We,Wf,Wg,Wh,Wi,Wj,Wk,Wl,Wm,Wn,Zo,Zp,evalT,Nat.reduceLT,Nat.reduceEqDiff,if_true,if_false,reduceIte,Ys,ofVal,ofCell,argT,resT,setT,Y0,Int.reduceEq,Int.reduceLT,Int.reduceLE,Int.reduceNeg,mb,Nat.reduceBEq,tys,stb,tysI,empty_mk,YW,ld4_0,hV,hlw2,g3,hI,hF]
        rfl
      rcases placeW_spec c.ws s c.ws.length 0 with ⟨e, hno⟩ | ⟨j, e, j1, j2, j3⟩
      · refine ⟨0, false, ⟨fun h => absurd hok h, fun _ => rfl, fun h => by simp at h, fun _ v v1 v2 hv => ?_, i0⟩, run (-1) (by unfold In64; omega) e⟩
        rw [textV_w hok v1 v2, if_pos hn] at hv
        exact absurd hv (hno v.toNat (by omega) (by omega))
      · refine ⟨j, true, ⟨fun h => absurd hok h, fun h => by simp at h, fun _ => ⟨hok, by omega, by omega, ?_⟩, fun _ v v1 v2 hv => ⟨?_, rfl⟩, by unfold In64; omega⟩, fun σ => ?_⟩
        · rw [textV_w hok (by omega) (by omega), if_pos hn, Int.toNat_natCast]; exact j3.symm
        · rw [textV_w hok v1 v2, if_pos hn, j3] at hv
          refine Classical.byContradiction fun hne => w3 ?_
          rcases Nat.lt_or_ge j v.toNat with hlt | hge
          · exact ⟨j, v.toNat, hlt, by omega, hv⟩
          · exact ⟨v.toNat, j, by omega, by omega, hv.symm⟩
        · have := run j (by unfold In64; omega) e σ
          rw [if_pos (by omega), decide_eq_true (by omega)] at this
          exact this
    · have g3 : ((c.ws.length : Int) > 0) = False := eq_false (by omega)
      obtain ⟨m1, m2, m3⟩ := hok.nums hn
      obtain ⟨v0, ⟨⟨n, hn64, hv0⟩, hR⟩, hA⟩ := atoi_call s hl
      obtain ⟨ms, u100⟩ := u100
      -- a number of the column is read again
      have own : ∀ v, c.lo ≤ v → v ≤ c.hi → s = textV c v → v0 = .tup [.int .i64 v, .nilif] ∧ itoaS v = s := fun v v1 v2 hv => by
        rw [textV_w hok v1 v2, if_neg hn] at hv
        have hi : In64 v := by unfold In64; omega
        have ht := itoaS_txt hi
        rw [← hv] at ht
        exact ⟨hR v ht (by omega) (by omega), hv.symm⟩
      have go0 : ∀ (hno : ∀ v, c.lo ≤ v → v ≤ c.hi → s = textV c v → False), (∀ σ, callFn env (ev env) 43 [aggC c, .str s] σ = some (.tup [.int .i64 0, .bool false], σ)) → ∃ (n : Int) (b : Bool), ValP c s n b ∧ ∀ σ, callFn env (ev env) 43 [aggC c, .str s] σ = some (.tup [.int .i64 n, .bool b], σ) := fun hno hrun =>
        ⟨0, false, ⟨fun h => absurd hok h, fun _ => rfl, fun h => by simp at h, fun _ v v1 v2 hv => (hno v v1 v2 hv).elim, i0⟩, hrun⟩
      rcases hv0 with rfl | rfl
      · have hI := itoaS_call hn64
        have own2 : ∀ v, c.lo ≤ v → v ≤ c.hi → s = textV c v → n = v ∧ itoaS v = s := fun v v1 v2 hv => by
          obtain ⟨e, e2⟩ := own v v1 v2 hv
          simp only [V.tup.injEq, List.cons.injEq, V.int.injEq, true_and, and_true] at e
          exact ⟨e, e2⟩
        by_cases hs1 : itoaS n = s
        · have q1 : (itoaS n = s) = True := eq_true hs1
          by_cases hlo : n < c.lo
          · have q2 : (n < c.lo) = True := eq_true hlo
            refine go0 (fun v v1 v2 hv => ?_) (fun σ => ?_)
            · have := (own2 v v1 v2 hv).1; omega
            · refine callFn_pure rfl rfl (by rw [List.all_cons, closedC h]; rfl) at43 rfl (by simp [Tryd.f43]) (by simp [Tryd.f43]) (G_start ?_) σ
              simp -implicitDefEqProofs only [Tryd.f43,Wa,Wb,Wc,Wd,We,Wf,Wg,Wh,Wi,Wj,Wk,Wl,Wm,Wn,Zo,Zp,evalT,Nat.reduceLT,Nat.reduceEqDiff,if_true,if_false,reduceIte,Ys,ofVal,ofCell,argT,resT,setT,Y0,Int.reduceEq,Int.reduceLT,Int.reduceLE,Int.reduceNeg,mb,Nat.reduceBEq,tys,stb,tysI,empty_mk,aggC,YW,ld4_0,hV,hlw,g3,hA,binO_nil_if u100,isConst,hI,vBin_sneq,q1,q2]
              rfl
          · have q2 : (n < c.lo) = False := eq_false hlo
            by_cases hhi : c.hi < n
            · have q3 : (n > c.hi) = True := eq_true hhi
              refine go0 (fun v v1 v2 hv => ?_) (fun σ => ?_)
              · have := (own2 v v1 v2 hv).1; omega
              · refine callFn_pure rfl rfl (by rw [List.all_cons, closedC h]; rfl) at43 rfl (by simp [Tryd.f43]) (by simp [Tryd.f43]) (G_start ?_) σ
                simp -implicitDefEqProofs only [Tryd.f43,Wa,Wb,Wc,Wd,We,Wf,Wg,Wh,Wi,Wj,Wk,Wl,Wm,Wn,Zo,Zp,evalT,Nat.reduceLT,Nat.reduceEqDiff,if_true,if_false,reduceIte,Ys,ofVal,ofCell,argT,resT,setT,Y0,Int.reduceEq,Int.reduceLT,Int.reduceLE,Int.reduceNeg,mb,Nat.reduceBEq,tys,stb,tysI,empty_mk,aggC,YW,ld4_0,hV,hlw,g3,hA,binO_nil_if u100,isConst,hI,vBin_sneq,q1,q2,q3]
                rfl
            · have q3 : (n > c.hi) = False := eq_false hhi
              refine ⟨n, true, ⟨fun h => absurd hok h, fun h => by simp at h, fun _ => ⟨hok, by omega, by omega, ?_⟩, fun _ v v1 v2 hv => ⟨(own2 v v1 v2 hv).1, rfl⟩, hn64⟩, fun σ => ?_⟩
              · rw [textV_w hok (by omega) (by omega), if_neg hn]; exact hs1
              · refine callFn_pure rfl rfl (by rw [List.all_cons, closedC h]; rfl) at43 rfl (by simp [Tryd.f43]) (by simp [Tryd.f43]) (G_start ?_) σ
                simp -implicitDefEqProofs only [Tryd.f43,Wa,Wb,Wc,Wd,We,Wf,Wg,Wh,Wi,Wj,Wk,Wl,Wm,Wn,Zo,Zp,evalT,Nat.reduceLT,Nat.reduceEqDiff,if_true,if_false,reduceIte,Ys,ofVal,ofCell,argT,resT,setT,Y0,Int.reduceEq,Int.reduceLT,Int.reduceLE,Int.reduceNeg,mb,Nat.reduceBEq,tys,stb,tysI,empty_mk,aggC,YW,ld4_0,hV,hlw,g3,hA,binO_nil_if u100,isConst,hI,vBin_sneq,q1,q2,q3]
                rfl
        · have q1 : (itoaS n = s) = False := eq_false hs1
          refine go0 (fun v v1 v2 hv => ?_) (fun σ => ?_)
          · obtain ⟨e, e2⟩ := own2 v v1 v2 hv
            subst e; exact hs1 e2
          · refine callFn_pure rfl rfl (by rw [List.all_cons, closedC h]; rfl) at43 rfl (by simp [Tryd.f43]) (by simp [Tryd.f43]) (G_start ?_) σ
            simp -implicitDefEqProofs only [Tryd.f43,Wa,Wb,Wc,Wd,We,Wf,Wg,Wh,Wi,Wj,Wk,Wl,Wm,Wn,Zo,Zp,evalT,Nat.reduceLT,Nat.reduceEqDiff,if_true,if_false,reduceIte,Ys,ofVal,ofCell,argT,resT,setT,Y0,Int.reduceEq,Int.reduceLT,Int.reduceLE,Int.reduceNeg,mb,Nat.reduceBEq,tys,stb,tysI,empty_mk,aggC,YW,ld4_0,hV,hlw,g3,hA,binO_nil_if u100,isConst,hI,vBin_sneq,q1]
            rfl
      · refine go0 (fun v v1 v2 hv => ?_) (fun σ => ?_)
        · have := (own v v1 v2 hv).1
          simp at this
        · refine callFn_pure rfl rfl (by rw [List.all_cons, closedC h]; rfl) at43 rfl (by simp [Tryd.f43]) (by simp [Tryd.f43]) (G_start ?_) σ
          simp -implicitDefEqProofs only [Tryd.f43,Wa,Wb,Wc,Wd,We,Wf,Wg,Wh,Wi,Wj,Wk,Wl,Wm,Wn,Zo,Zp,evalT,Nat.reduceLT,Nat.reduceEqDiff,if_true,if_false,reduceIte,Ys,ofVal,ofCell,argT,resT,setT,Y0,Int.reduceEq,Int.reduceLT,Int.reduceLE,Int.reduceNeg,mb,Nat.reduceBEq,tys,stb,tysI,empty_mk,aggC,YW,ld4_0,hV,hlw,g3,hA,binO_if_nil u100,isConst]
          rfl
  · have hV := valid_call c h hs false (by simp [hok])
    refine ⟨0, false, ⟨fun _ => ⟨rfl, rfl⟩, fun _ => rfl, fun h => by simp at h, fun h => absurd h hok, i0⟩, fun σ => ?_⟩
    refine callFn_pure rfl rfl (by rw [List.all_cons, closedC h]; rfl) at43 rfl (by simp [Tryd.f43]) (by simp [Tryd.f43]) (G_start ?_) σ
    simp -implicitDefEqProofs only [Tryd.f43,Wa,Wb,Wc,Wd,We,Wf,Wg,Wh,Wi,Wj,Wk,Wl,Wm,Wn,Zo,Zp,evalT,Nat.reduceLT,Nat.reduceEqDiff,if_true,if_false,reduceIte,Ys,ofVal,ofCell,argT,resT,setT,Y0,Int.reduceEq,Int.reduceLT,Int.reduceLE,Int.reduceNeg,mb,Nat.reduceBEq,tys,stb,tysI,empty_mk,aggC,YW,ld4_0,hV]
    rfl
end Go.Proofs.YtbikmhpobflfeaaDoor.I
namespace Go.Proofs.YtbikmhpobflfeaaDoor.I
open Go.Ab
set_option maxHeartbeats 4000000
set_option maxHeartbeats 4000000
set_option maxRecDepth 100000
set_option linter.unusedSimpArgs false
set_option linter.unusedVariables false
set_option linter.unusedSectionVars false
theorem at9 : env.P.funcs[9]? = some Tryd.f9 := by kernel_rfl
theorem ok_range {c : Col} (h : Ok1 c) : -1000000 ≤ c.lo ∧ c.lo ≤ c.hi ∧ c.hi ≤ 1000000 := by
  by_cases hn : 0 < c.ws.length
  · obtain ⟨w1, w2, w3, w4, w5⟩ := h.words hn
    omega
  · obtain ⟨m1, m2, m3⟩ := h.nums hn
    omega
theorem textV_ne {c : Col} (h : Ok1 c) {v : Int} (h1 : c.lo ≤ v) (h2 : v ≤ c.hi) : textV c v ≠ [] := by
  have hr := ok_range h
  rw [textV_w h h1 h2]
  split
  · rename_i hn
    obtain ⟨w1, w2, w3, w4, w5⟩ := h.words hn
    intro e
    have := (w2 v.toNat (by omega)).1
    rw [e] at this
    simp at this
  · have hi : In64 v := by unfold In64; omega
    obtain ⟨h0, _⟩ := (itoaS_txt hi).first
    intro e
    rw [e] at h0
    simp at h0
theorem textV_out {c : Col} {v : Int} (h : ¬ Ok1 c ∨ v < c.lo ∨ c.hi < v) : textV c v = [] := by
  unfold textV
  rw [if_pos h]
theorem textV_len {c : Col} (hs : Short c) (h : Ok1 c) {v : Int} (h1 : c.lo ≤ v) (h2 : v ≤ c.hi) : (textV c v).length ≤ 2 ^ 30 := by
  have hr := ok_range h
  rw [textV_w h h1 h2]
  split
  · rename_i hn
    obtain ⟨w1, w2, w3, w4, w5⟩ := h.words hn
    have := (w2 v.toNat (by omega)).2.1
    omega
  · have hi : In64 v := by unfold In64; omega
    obtain ⟨ds, _, _, h3, _, h5⟩ := itoaS_txt hi
    rcases h5 with ⟨_, e, _⟩ | ⟨_, e, _⟩
    · rw [e]; omega
    · rw [e]; simp; omega
theorem inverse_found (c : Col) (hg : GoodC c) (h1 : In64 c.lo) (h2 : In64 c.hi) (pk : Int) (hp : In64 pk) (s : List UInt8) (hs : s.length < 2 ^ 63) : Go.Ab.Found env 9 [aggC c, .int .i64 pk, .str s] := by
  refine found_of_wp at9 rfl (by simp [Tryd.f9]) (by simp [Tryd.f9]) (G_start ?_)
  obtain ⟨hw, g1, g2, g3⟩ := hg
  have hlw := len_W hw
  have hls : ∀ r : List UInt8, vLenT (some .string) (.str r) = some (.int .i64 r.length) := fun r => rfl
  by_cases hb : 100 < c.ws.length
  · have b1 : ((c.ws.length : Int) > 100) = True := eq_true (by omega)
    simp -implicitDefEqProofs only [Tryd.f9,Wa,Wb,Wc,Wd,We,Wf,Wg,Wh,Wi,Wj,Wk,Wl,Wm,Wn,Zo,Zp,evalT,Nat.reduceLT,Nat.reduceEqDiff,if_true,if_false,reduceIte,Ys,ofVal,ofCell,argT,resT,setT,Y0,Int.reduceEq,Int.reduceLT,Int.reduceLE,Int.reduceNeg,mb,Nat.reduceBEq,tys,stb,tysI,empty_mk,aggC,YW,ld4_0,known_call,hlw,b1]
    rfl
  have b1 : ((c.ws.length : Int) > 100) = False := eq_false (by omega)
  by_cases hb2 : 100 < s.length
  · have b2 : ((s.length : Int) > 100) = True := eq_true (by omega)
    simp -implicitDefEqProofs only [Tryd.f9,Wa,Wb,Wc,Wd,We,Wf,Wg,Wh,Wi,Wj,Wk,Wl,Wm,Wn,Zo,Zp,evalT,Nat.reduceLT,Nat.reduceEqDiff,if_true,if_false,reduceIte,Ys,ofVal,ofCell,argT,resT,setT,Y0,Int.reduceEq,Int.reduceLT,Int.reduceLE,Int.reduceNeg,mb,Nat.reduceBEq,tys,stb,tysI,empty_mk,aggC,YW,ld4_0,known_call,hlw,b1,hls,b2]
    rfl
  have b2 : ((s.length : Int) > 100) = False := eq_false (by omega)
  have hsh : Short c := ⟨g1, by omega, g3⟩
  obtain ⟨n, b, hP, hV⟩ := value_call c hw hsh h1 h2 s (by omega)
  have hT := fun v hv => text_call c hw hsh h1 h2 v hv
  have hTn := hT n hP.i64
  by_cases hok : Ok1 c
  · obtain ⟨r1, r2, r3⟩ := ok_range hok
    have e0 : IntKind.i64.wrap (c.hi - c.lo) = c.hi - c.lo := wrap_i64 (by omega) (by omega)
    have e1 : IntKind.i64.wrap (c.hi - c.lo + 1) = c.hi - c.lo + 1 := wrap_i64 (by omega) (by omega)
    have hW := width_call c hw hsh h1 h2 (c.hi - c.lo + 1) (.inr ⟨hok, by rw [e0, e1]⟩)
    have hPk := pick_call pk (c.hi - c.lo + 1) hp (by unfold In64; omega) (by omega)
    have p1 := Int.emod_nonneg pk (b := c.hi - c.lo + 1) (by omega)
    have p2 := Int.emod_lt_of_pos pk (b := c.hi - c.lo + 1) (by omega)
    have w0 : (c.hi - c.lo + 1 = 0) = False := eq_false (by omega)
    obtain ⟨v, hv⟩ : ∃ v, v = c.lo + pk % (c.hi - c.lo + 1) := ⟨_, rfl⟩
    have ev : IntKind.i64.wrap (c.lo + pk % (c.hi - c.lo + 1)) = v := by rw [wrap_i64 (by omega) (by omega), hv]
    have v1 : c.lo ≤ v := by omega
    have v2 : v ≤ c.hi := by omega
    have hTv := hT v (by unfold In64; omega)
    have hne : (textV c v = []) = False := eq_false (textV_ne hok v1 v2)
    obtain ⟨m, b', hP', hV'⟩ := value_call c hw hsh h1 h2 (textV c v) (textV_len hsh hok v1 v2)
    obtain ⟨rfl, rfl⟩ := hP'.own hok v v1 v2 rfl
    have el : IntKind.i64.wrap (c.lo - 1) = c.lo - 1 := wrap_i64 (by omega) (by omega)
    have eh : IntKind.i64.wrap (c.hi + 1) = c.hi + 1 := wrap_i64 (by omega) (by omega)
    have hTl := hT (c.lo - 1) (by unfold In64; omega)
    have hTh := hT (c.hi + 1) (by unfold In64; omega)
    rw [textV_out (.inr (.inl (by omega)))] at hTl
    rw [textV_out (.inr (.inr (by omega)))] at hTh
    clear hv
    unfold aggC at hV hT hTn hW hTv hV' hTl hTh ⊢
    cases b with
    | true =>
      have hback := (hP.back rfl).2.2.2
      rw [hback] at hTn
      simp -implicitDefEqProofs only [Tryd.f9,Wa,Wb,Wc,Wd,We,Wf,Wg,Wh,Wi,Wj,Wk,Wl,Wm,Wn,Zo,Zp,evalT,Nat.reduceLT,Nat.reduceEqDiff,if_true,if_false,reduceIte,Ys,ofVal,ofCell,argT,resT,setT,Y0,Int.reduceEq,Int.reduceLT,Int.reduceLE,Int.reduceNeg,mb,Nat.reduceBEq,tys,stb,tysI,empty_mk,YW,ld4_0,known_call,hlw,b1,hls,b2,hV,hTn,vBin_sneq,vBin_seql,hW,w0,hPk,ev,hTv,hne,hV',el,eh,hTl,hTh]
      exact ⟨by kernel_rfl, rfl⟩
    | false =>
      have hz := hP.zero rfl
      subst hz
      simp -implicitDefEqProofs only [Tryd.f9,Wa,Wb,Wc,Wd,We,Wf,Wg,Wh,Wi,Wj,Wk,Wl,Wm,Wn,Zo,Zp,evalT,Nat.reduceLT,Nat.reduceEqDiff,if_true,if_false,reduceIte,Ys,ofVal,ofCell,argT,resT,setT,Y0,Int.reduceEq,Int.reduceLT,Int.reduceLE,Int.reduceNeg,mb,Nat.reduceBEq,tys,stb,tysI,empty_mk,YW,ld4_0,known_call,hlw,b1,hls,b2,hV,hTn,vBin_sneq,vBin_seql,hW,w0,hPk,ev,hTv,hne,hV',el,eh,hTl,hTh]
      exact ⟨by kernel_rfl, rfl⟩
  · obtain ⟨rfl, rfl⟩ := hP.bad hok
    have hW := width_call c hw hsh h1 h2 0 (.inl ⟨hok, rfl⟩)
    have hTp := hT pk hp
    rw [textV_out (.inl hok)] at hTp
    unfold aggC at hV hTn hW hTp ⊢
    simp -implicitDefEqProofs only [Tryd.f9,Wa,Wb,Wc,Wd,We,Wf,Wg,Wh,Wi,Wj,Wk,Wl,Wm,Wn,Zo,Zp,evalT,Nat.reduceLT,Nat.reduceEqDiff,if_true,if_false,reduceIte,Ys,ofVal,ofCell,argT,resT,setT,Y0,Int.reduceEq,Int.reduceLT,Int.reduceLE,Int.reduceNeg,mb,Nat.reduceBEq,tys,stb,tysI,empty_mk,YW,ld4_0,known_call,hlw,b1,hls,b2,hV,hTn,vBin_sneq,vBin_seql,hW,hTp]
    rfl
theorem tyd_CI {x : List V} {k : Nat} (h : Tyd env.P (k + 3) 44 x) : ∃ c : Col, GoodC c ∧ In64 c.lo ∧ In64 c.hi ∧ x = c.cells := by
  have h := tyd_struct h fts44
  obtain ⟨a, r, rfl, ha, b, r2, rfl, hb, c, r3, rfl, hc, d, r4, rfl, hd, rfl⟩ := h
  obtain ⟨s, rfl, hs⟩ := tyd_str ha u9
  obtain ⟨n, rfl, n1, n2⟩ := tyd_int hb u3
  obtain ⟨m, rfl, m1, m2⟩ := tyd_int hc u3
  have hd1 : ∃ w, d = [w] := by
    rcases tyd_slice hd u24 with h | ⟨_, h, _⟩ <;> exact ⟨_, h⟩
  obtain ⟨w, rfl⟩ := hd1
  obtain ⟨ws, hw, h1, h2⟩ := tyd_W hd
  have hm := maxLen_lt
  exact ⟨⟨s, n, m, w, ws⟩, ⟨hw, by simp only; omega, h1, h2⟩, ⟨n1, n2⟩, ⟨m1, m2⟩, rfl⟩
theorem inverse_foundt {u : List V} {w x : V} (h : Tyd Tryd.prog 6 44 u) (h2 : Tyd Tryd.prog 6 3 [w]) (h3 : Tyd Tryd.prog 6 9 [x]) : Go.Ab.Found env 9 [.agg u, w, x] := by
  obtain ⟨c, g, c1, c2, rfl⟩ := tyd_CI (k := 3) h
  obtain ⟨n, e, n1, n2⟩ := tyd_int (P := env.P) (k := 5) h2 u3
  obtain ⟨s, e2, hs⟩ := tyd_str (P := env.P) (k := 5) h3 u9
  simp only [List.cons.injEq, and_true] at e e2
  subst e e2
  have hm := maxLen_lt
  exact inverse_found c g c1 c2 n ⟨n1, n2⟩ s (by omega)
end Go.Proofs.YtbikmhpobflfeaaDoor.I
