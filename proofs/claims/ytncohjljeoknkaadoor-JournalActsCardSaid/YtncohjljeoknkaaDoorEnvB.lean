/- Proved here: what the Write of a Buffer comes to. Conditions: those of each theorem; no statement of the seat is proved in this text. -/
import Derived.Test.YtncohjljeoknkaaDoorAbE
import Derived.Test.YtncohjljeoknkaaDoorRows
namespace Go.Proofs.YtncohjljeoknkaaDoor.B
open Go.Ab
set_option linter.unusedVariables false
set_option linter.unusedSectionVars false
noncomputable def env : Env := { P := Tryd.prog, pure := fun _ => false, mutb := fun _ _ => true, gl := fun _ => none, hook := fun _ => none }
set_option maxRecDepth 100000
theorem env_ok : env.Ok := { mixed := by kernel_rfl, glc := fun g v h => by simp [env] at h, hook := fun f g h => by simp [env] at h }
end Go.Proofs.YtncohjljeoknkaaDoor.B
namespace Go.Proofs.YtncohjljeoknkaaDoor.B
open Go.Ab
set_option maxHeartbeats 4000000
set_option maxRecDepth 100000
set_option linter.unusedSimpArgs false
set_option linter.unusedVariables false
theorem u3 : env.P.underlying 3 = some (.int .i64) := by kernel_rfl
theorem u4 : env.P.underlying 4 = some .bool := by kernel_rfl
theorem u5 : env.P.underlying 5 = some (.int .u8) := by kernel_rfl
theorem u26 : env.P.underlying 26 = some (.slice 5) := by kernel_rfl
theorem s3 : sz env 3 = some 1 := by kernel_rfl
theorem s5 : sz env 5 = some 1 := by kernel_rfl
theorem s26 : sz env 26 = some 1 := by kernel_rfl
theorem s45 : sz env 45 = some 1 := by kernel_rfl
theorem b5 : bys env 5 = some 1 := by kernel_rfl
theorem z5 : zeroN env 5 = some 1 := by kernel_rfl
theorem e26 : elemS env 26 = some 5 := by kernel_rfl
theorem zv5 : zeroV env 5 = some (.int .u8 0) := by kernel_rfl
theorem g26 : aggT env 26 = some false := by kernel_rfl
theorem g3 : aggT env 3 = some false := by kernel_rfl
theorem tys : env.P.underlying 3 = some (.int .i64) ∧ env.P.underlying 4 = some .bool ∧ env.P.underlying 5 = some (.int .u8) ∧ env.P.underlying 26 = some (.slice 5) ∧ sz env 3 = some 1 ∧ sz env 5 = some 1 ∧ sz env 26 = some 1 ∧ sz env 45 = some 1 ∧
    fldOff env 47 0 = some 0 ∧ fldOff env 47 1 = some 1 ∧ fldOff env 47 2 = some 2 ∧ (∀ h p, aload env h 26 p = (loadCellsV h 1 p).bind (·[0]?)) ∧ (∀ h p, aload env h 3 p = (loadCellsV h 1 p).bind (·[0]?)) :=
  ⟨u3, u4, u5, u26, s3, s5, s26, s45, by kernel_rfl, by kernel_rfl, by kernel_rfl, fun _ _ => aload_one g26, fun _ _ => aload_one g3⟩
theorem mb (f : FuncId) (r : Nat) : env.mutb f r = true := rfl
theorem stb (f : FuncId) (r : Nat) : env.stab f r = false := rfl
theorem at50 : env.P.funcs[50]? = some Tryd.f50 := by kernel_rfl
theorem at53 : env.P.funcs[53]? = some Tryd.f53 := by kernel_rfl
theorem at69 : env.P.funcs[69]? = some Tryd.f69 := by kernel_rfl
theorem at70 : env.P.funcs[70]? = some Tryd.f70 := by kernel_rfl
theorem at84 : env.P.funcs[84]? = some Tryd.f84 := by kernel_rfl
def BV (v : V) (len c : Nat) : Prop := (v = .nilsl ∧ len = 0 ∧ c = 0) ∨ ∃ k, v = .hsl k 0 len c (.both 1)
theorem BV.len {v : V} {len c : Nat} (h : BV v len c) (e : TypeId) : vLenT (some (.slice e)) v = some (.int .i64 len) := by
  rcases h with ⟨rfl, rfl, _⟩ | ⟨k, rfl⟩ <;> rfl
theorem BV.cap {v : V} {len c : Nat} (h : BV v len c) (e : TypeId) : vCapT (some (.slice e)) v = some (.int .i64 c) := by
  rcases h with ⟨rfl, rfl, rfl⟩ | ⟨k, rfl⟩ <;> rfl
theorem BV.cells {v : V} {len c : Nat} (h : BV v len c) : v.cells = [v] ∧ v.isCell = true := by
  rcases h with ⟨rfl, rfl, _⟩ | ⟨k, rfl⟩ <;> exact ⟨rfl, rfl⟩
theorem wrap64 {x : Int} (h : -9223372036854775808 ≤ x ∧ x ≤ 9223372036854775807) : IntKind.wrap .i64 x = x := by
  rw [IntKind.wrap_i64]; omega
theorem cut_ok {k len c m : Nat} (h : m ≤ c) : sliceO env 26 (.hsl k 0 len c (.both 1)) none (some (.int .i64 (m : Int))) none = some (.hsl k 0 m c (.both 1)) := by
  have h1 : (m : Int) ≤ (c : Int) := by omega
  simp only [sliceO, u26, s5, vSlice, vBound, Option.bind_some, Int.toNat_natCast]
  simp [h1, HCap.cut]
theorem try_room (b k len c n : Nat) (y1 y2 : V) (rest : List V) (T : TypeId) (L : List AObj) (ts : List Nat) (hb : L[b]? = some (.cells (.hsl k 0 len c (.both 1) :: y1 :: y2 :: rest) T)) (hn : len + n ≤ c) (hc : c ≤ 9223372036854775807) :
    callFn env (ev env) 69 [.ptr b 0, .int .i64 n] ⟨L, ts⟩ = some (.tup [.int .i64 len, .bool true], ⟨L.set b (.cells (.hsl k 0 (len + n) c (.both 1) :: y1 :: y2 :: rest) T), ts⟩) := by
  refine callFn_eq rfl rfl at69 rfl (by simp [Tryd.f69]) (by simp [Tryd.f69]) (G_start ?_)
  have hv : BV (.hsl k 0 len c (.both 1)) len c := .inr ⟨k, rfl⟩
  have hw : IntKind.wrap .i64 ((c : Int) - len) = (c : Int) - len := wrap64 (by omega)
  have hw2 : IntKind.wrap .i64 ((len : Int) + n) = ((len + n : Nat) : Int) := by rw [wrap64 (by omega)]; omega
  have hle : (n : Int) ≤ (c : Int) - len := by omega
  simp -implicitDefEqProofs only [Tryd.f69,Wa,Wb,Wc,Wd,We,Wf,Wg,Wh,Wi,Wj,Wk,Wl,Wm,Wn,Zo,Zp,evalT,Nat.reduceLT,Nat.reduceEqDiff,if_true,if_false,reduceIte,Ys,ofVal,ofCell,argT,resT,setT,Y0,Int.reduceEq,Int.reduceLT,Int.reduceLE,Int.reduceNeg,mb,Nat.reduceBEq,tys,stb,Va,storeList,Nat.reduceAdd,Nat.reduceLeDiff,opT_nilCheck,nilO_ptr,hb,opT_cap,hv.len,hv.cap,hw,hw2,hle,opT_slice,optO_none,optO_some,cut_ok hn]
  exact ⟨rfl, trivial⟩
theorem try_none (b len c n : Nat) (v y1 y2 : V) (rest : List V) (T : TypeId) (hv : BV v len c) (L : List AObj) (ts : List Nat) (hb : L[b]? = some (.cells (v :: y1 :: y2 :: rest) T)) (hl : len ≤ c) (hn : c < len + n) (hc : c ≤ 9223372036854775807) :
    callFn env (ev env) 69 [.ptr b 0, .int .i64 n] ⟨L, ts⟩ = some (.tup [.int .i64 0, .bool false], ⟨L, ts⟩) := by
  refine callFn_eq rfl rfl at69 rfl (by simp [Tryd.f69]) (by simp [Tryd.f69]) (G_start ?_)
  have hw : IntKind.wrap .i64 ((c : Int) - len) = (c : Int) - len := wrap64 (by omega)
  have hle : ¬ ((n : Int) ≤ (c : Int) - len) := by omega
  simp -implicitDefEqProofs only [Tryd.f69,Wa,Wb,Wc,Wd,We,Wf,Wg,Wh,Wi,Wj,Wk,Wl,Wm,Wn,Zo,Zp,evalT,Nat.reduceLT,Nat.reduceEqDiff,if_true,if_false,reduceIte,Ys,ofVal,ofCell,argT,resT,setT,Y0,Int.reduceEq,Int.reduceLT,Int.reduceLE,Int.reduceNeg,mb,Nat.reduceBEq,tys,stb,Va,storeList,Nat.reduceAdd,Nat.reduceLeDiff,opT_nilCheck,nilO_ptr,hb,opT_cap,hv.len,hv.cap,hw,hle]
  exact ⟨rfl, trivial⟩
theorem len_call (b len c : Nat) (v y2 : V) (rest : List V) (T : TypeId) (hv : BV v len c) (L : List AObj) (ts : List Nat) (hb : L[b]? = some (.cells (v :: .int .i64 0 :: y2 :: rest) T)) (hc : len ≤ 9223372036854775807) :
    callFn env (ev env) 53 [.ptr b 0] ⟨L, ts⟩ = some (.int .i64 len, ⟨L, ts⟩) := by
  refine callFn_eq rfl rfl at53 rfl (by simp [Tryd.f53]) (by simp [Tryd.f53]) (G_start ?_)
  have hw : IntKind.wrap .i64 ((len : Int) - 0) = (len : Int) := by rw [wrap64 (by omega)]; omega
  simp -implicitDefEqProofs only [Tryd.f53,Wa,Wb,Wc,Wd,We,Wf,Wg,Wh,Wi,Wj,Wk,Wl,Wm,Wn,Zo,Zp,evalT,Nat.reduceLT,Nat.reduceEqDiff,if_true,if_false,reduceIte,Ys,ofVal,ofCell,argT,resT,setT,Y0,Int.reduceEq,Int.reduceLT,Int.reduceLE,Int.reduceNeg,mb,Nat.reduceBEq,tys,stb,Va,storeList,Nat.reduceAdd,Nat.reduceLeDiff,opT_nilCheck,nilO_ptr,hb,hv.len,hw]
  exact ⟨by kernel_rfl, rfl, trivial⟩
theorem catch_idle (σ : S) : ev env (.dcall 88 [] none σ) = some ⟨.ret, [.bool false], [], σ⟩ := ev_run (n := 3) (by kernel_rfl)
def gz (len n c : Nat) : Nat := if len + n < 2 * c then 2 * c else len + n
theorem gz_le (len n c : Nat) : len + n ≤ gz len n c := by unfold gz; split <;> omega
theorem gz_lim {len n c : Nat} (h : c < len + n) (hl : len + n ≤ 2 ^ 38) : gz len n c ≤ 2 ^ 39 := by unfold gz; split <;> omega
theorem azero_ok {m : Nat} (h : 0 < m) (hm : m ≤ 2 ^ 39) (L : List AObj) (ts : List Nat) : appO env true ⟨L, ts⟩ 26 3 .nilsl (.int .i64 (m : Int)) = some (.hsl L.length 0 m m (.grow 1), ⟨L ++ [.cells (List.replicate m (.int .u8 0)) 5], ts⟩) := by
  have h0 : ¬ ((m : Int) = 0) := by omega
  have h1 : (0 : Int) < m ∧ (m : Int) ≤ lim ∧ (m : Int) * (1 : Nat) ≤ lim ∧ 0 < 1 := by unfold lim; omega
  have h2 : (List.replicate m [V.int .u8 0]).flatten = List.replicate m (V.int .u8 0) := by
    clear h hm h0 h1
    induction m with
    | zero => rfl
    | succ m ih => simp [List.replicate_succ, ih]
  simp only [appO, e26, s5, b5, u3, Option.bind_some, azero, h0, h1, if_false, if_true, zv5, and_self, V.cells, List.length_cons, List.length_nil, Nat.zero_add, S.push, Int.toNat_natCast, h2]
theorem cut_grow {k len c m : Nat} (h : m ≤ c) : sliceO env 26 (.hsl k 0 len c (.grow 1)) none (some (.int .i64 (m : Int))) none = some (.hsl k 0 m c (.grow 1)) := by
  have h1 : (m : Int) ≤ (c : Int) := by omega
  simp only [sliceO, u26, s5, vSlice, vBound, Option.bind_some, Int.toNat_natCast]
  simp [h1, HCap.cut]
theorem gs_call (len n c : Nat) (v : V) (old : List V) (hv : BV v len c) (hlc : len ≤ c) (hn : 1 ≤ n) (hroom : c < len + n) (hlim : len + n ≤ 2 ^ 38) (hcell : old.all V.isCell = true) (L : List AObj) (ts : List Nat) (hr : ∀ X, vCells (L ++ X) 1 len v = some old) :
    callFn env (ev env) 84 [v, .int .i64 n] ⟨L, ts⟩ = some (.hsl L.length 0 len (gz len n c) (.grow 1), ⟨L ++ [.cells (old ++ List.replicate (gz len n c - len) (.int .u8 0)) 5], ts⟩) := by
  refine callFn_dfr rfl rfl at84 rfl (by simp [Tryd.f84]) catch_idle (by simp [Tryd.f84]) (wpX_seq (wpC_sound _ _ _ _ _ (G_start ?_)))
  have hol : old.length = len := by have := vCells_len (hr []); omega
  have w1 : IntKind.wrap .i64 ((len : Int) + n) = ((len + n : Nat) : Int) := by rw [wrap64 (by omega)]; omega
  have w2 : IntKind.wrap .i64 (2 * (c : Int)) = ((2 * c : Nat) : Int) := by rw [wrap64 (by omega)]; omega
  have hz1 := gz_le len n c
  have hz2 := gz_lim hroom hlim
  have hvl : vLen v = some len := by rcases hv with ⟨rfl, rfl, _⟩ | ⟨k, rfl⟩ <;> rfl
  have hmin : min len (gz len n c) = len := by omega
  have hcp : copyO env ⟨L ++ [.cells (List.replicate (gz len n c) (.int .u8 0)) 5], ts⟩ 26 (.hsl L.length 0 (gz len n c) (gz len n c) (.grow 1)) v = some (.int .i64 len, ⟨L ++ [.cells (old ++ List.replicate (gz len n c - len) (.int .u8 0)) 5], ts⟩) := by
    simp only [copyO, e26, s5, Option.bind_some, hvl, hmin, hr]
    by_cases h0 : len = 0
    · have : old = [] := List.eq_nil_of_length_eq_zero (by omega)
      subst this
      simp [h0]
    · simp only [h0, if_false, HCap.room, beq_self_eq_true, if_true, storeRoom]
      simp only [List.getElem?_concat_length]
      rw [if_pos ⟨Nat.zero_le _, by omega, hcell⟩]
      simp [S.set, List.drop_replicate, hol]
  simp -implicitDefEqProofs only [Tryd.f84,Wa,Wb,Wc,Wd,We,Wf,Wg,Wh,Wi,Wj,Wk,Wl,Wm,Wn,Zo,Zp,evalT,Nat.reduceLT,Nat.reduceEqDiff,if_true,if_false,reduceIte,Ys,ofVal,ofCell,argT,resT,setT,Y0,Int.reduceEq,Int.reduceLT,Int.reduceLE,Int.reduceNeg,mb,Nat.reduceBEq,tys,stb]
  refine wpX_seq (wpX_defer ?_)
  refine wpC_sound _ _ _ _ _ (G_start ?_)
  by_cases hcc : len + n < 2 * c
  · have hcc2 : ((len + n : Nat) : Int) < ((2 * c : Nat) : Int) := by omega
    have e : gz len n c = 2 * c := by unfold gz; rw [if_pos hcc]
    rw [e] at hcp ⊢
    have ha := azero_ok (m := 2 * c) (by omega) (by omega) L ts
    simp -implicitDefEqProofs only [Wa,Wb,Wc,Wd,We,Wf,Wg,Wh,Wi,Wj,Wk,Wl,Wm,Wn,Zo,Zp,evalT,Nat.reduceLT,Nat.reduceEqDiff,if_true,if_false,reduceIte,Ys,ofVal,ofCell,argT,resT,setT,Y0,Int.reduceEq,Int.reduceLT,Int.reduceLE,Int.reduceNeg,mb,Nat.reduceBEq,tys,stb,Va,storeList,Nat.reduceAdd,Nat.reduceLeDiff,hv.len,opT_cap,hv.cap,w1,w2,hcc2,ha,opT_copy,hcp,opT_slice,optO_none,optO_some,cut_grow (show len ≤ 2 * c by omega)]
    exact ⟨rfl, _, rfl, rfl, rfl⟩
  · have hcc2 : ¬ ((len + n : Nat) : Int) < ((2 * c : Nat) : Int) := by omega
    have e : gz len n c = len + n := by unfold gz; rw [if_neg hcc]
    rw [e] at hcp ⊢
    have ha := azero_ok (m := len + n) (by omega) (by omega) L ts
    simp -implicitDefEqProofs only [Wa,Wb,Wc,Wd,We,Wf,Wg,Wh,Wi,Wj,Wk,Wl,Wm,Wn,Zo,Zp,evalT,Nat.reduceLT,Nat.reduceEqDiff,if_true,if_false,reduceIte,Ys,ofVal,ofCell,argT,resT,setT,Y0,Int.reduceEq,Int.reduceLT,Int.reduceLE,Int.reduceNeg,mb,Nat.reduceBEq,tys,stb,Va,storeList,Nat.reduceAdd,Nat.reduceLeDiff,hv.len,opT_cap,hv.cap,w1,w2,hcc2,ha,opT_copy,hcp,opT_slice,optO_none,optO_some,cut_grow (show len ≤ len + n by omega)]
    exact ⟨rfl, _, rfl, rfl, rfl⟩
end Go.Proofs.YtncohjljeoknkaaDoor.B
namespace Go.Proofs.YtncohjljeoknkaaDoor.B
open Go.Ab
set_option maxHeartbeats 4000000
set_option maxRecDepth 100000
set_option linter.unusedSimpArgs false
set_option linter.unusedVariables false
theorem set_app {L : List AObj} {b : Nat} (h : b < L.length) (X : List AObj) (o : AObj) : (L ++ X).set b o = L.set b o ++ X := List.set_append_left b o h
theorem get_set {L : List AObj} {b : Nat} (h : b < L.length) (X : List AObj) (o : AObj) : (L.set b o ++ X)[b]? = some o := by
  rw [List.getElem?_append_left (by simpa using h), List.getElem?_set_self h]
theorem set_app2 {L : List AObj} {b : Nat} (h : b < L.length) (X : List AObj) (o o2 : AObj) : (L.set b o ++ X).set b o2 = L.set b o2 ++ X := by rw [set_app (by simpa using h), List.set_set]
theorem lt_get {L : List AObj} {b : Nat} {o : AObj} (h : L[b]? = some o) : b < L.length := (List.getElem?_eq_some_iff.1 h).1
theorem get_appl {L : List AObj} {b : Nat} {o : AObj} (h : L[b]? = some o) (X : List AObj) : (L ++ X)[b]? = some o := by rw [List.getElem?_append_left (lt_get h)]; exact h
theorem eq_nil1 : binO env 26 (isConst (.tmp 33) || isConst (.const (.slice none 0 0))) .eql (some .nilsl) (some .nilsl) = some (.bool true) := by kernel_rfl
theorem eq_nil2 (k len c : Nat) (ex : HCap) : binO env 26 (isConst (.tmp 33) || isConst (.const (.slice none 0 0))) .eql (some (.hsl k 0 len c ex)) (some .nilsl) = some (.bool false) := by kernel_rfl
theorem cut_off {k len c : Nat} : sliceO env 26 (.hsl k 0 len c (.both 1)) (some (.int .i64 0)) none none = some (.hsl k 0 len c (.both 1)) := by
  simp [sliceO, u26, s5, vSlice, vBound, HCap.cut]
theorem grow_call (b len n c : Nat) (v y2 : V) (rest : List V) (T : TypeId) (old : List V) (hv : BV v len c) (hlc : len ≤ c) (hn : 1 ≤ n) (hroom : c < len + n) (hlim : len + n ≤ 2 ^ 38) (hbig : v = .nilsl → 64 < n) (hcell : old.all V.isCell = true) (L : List AObj) (ts : List Nat)
    (hb : L[b]? = some (.cells (v :: .int .i64 0 :: y2 :: rest) T)) (hr : ∀ X, vCells (L ++ X) 1 len v = some old) :
    callFn env (ev env) 70 [.ptr b 0, .int .i64 n] ⟨L, ts⟩ = some (.int .i64 len, ⟨L.set b (.cells (.hsl L.length 0 (len + n) (gz len n c) (.grow 1) :: .int .i64 0 :: y2 :: rest) T) ++ [.cells (old ++ List.replicate (gz len n c - len) (.int .u8 0)) 5], ts⟩) := by
  refine callFn_eq rfl rfl at70 rfl (by simp [Tryd.f70]) (by simp [Tryd.f70]) (G_start ?_)
  have hbl := lt_get hb
  have hL := len_call b len c v y2 rest T hv L ts hb (by omega)
  have hT := try_none b len c n v (.int .i64 0) y2 rest T hv L ts hb hlc hroom (by omega)
  have hG := gs_call len n c v old hv hlc hn hroom hlim hcell L ts hr
  have hz1 := gz_le len n c
  have hsl : sliceO env 26 v (some (.int .i64 0)) none none = some v := by
    rcases hv with ⟨rfl, _⟩ | ⟨k, rfl⟩
    · simp [sliceO, u26, s5, vSlice, vBound]
    · exact cut_off
  have w1 : IntKind.wrap .i64 ((0 : Int) + n) = (n : Int) := by rw [wrap64 (by omega)]; omega
  have w2 : IntKind.wrap .i64 ((len : Int) + n) = ((len + n : Nat) : Int) := by rw [wrap64 (by omega)]; omega
  have w3 : IntKind.wrap .i64 ((9223372036854775807 : Int) - c) = 9223372036854775807 - c := wrap64 (by omega)
  have w4 : IntKind.wrap .i64 ((9223372036854775807 : Int) - c - n) = 9223372036854775807 - c - n := wrap64 (by omega)
  have w5 : IntKind.wrap .i64 ((c : Int).tdiv 2) = ((c / 2 : Nat) : Int) := by
    have e : (c : Int).tdiv 2 = ((c / 2 : Nat) : Int) := (Int.ofNat_tdiv c 2).symm
    rw [e, wrap64 (by omega)]
  have w6 : IntKind.wrap .i64 (((c / 2 : Nat) : Int) - len) = ((c / 2 : Nat) : Int) - len := wrap64 (by omega)
  have c1 : ¬ ((n : Int) ≤ ((c / 2 : Nat) : Int) - len) := by omega
  have c2 : ¬ ((9223372036854775807 : Int) - c - n < (c : Int)) := by omega
  have hb2 : ∀ X : List AObj, (L ++ X)[b]? = some (.cells (v :: .int .i64 0 :: y2 :: rest) T) := fun X => get_appl hb X
  have hcl := hv.cells
  rcases hv with ⟨rfl, rfl, rfl⟩ | ⟨k, rfl⟩
  · have hv : BV .nilsl 0 0 := .inl ⟨rfl, rfl, rfl⟩
    have v3 : IntKind.wrap .i64 ((9223372036854775807 : Int) - 0) = 9223372036854775807 := by kernel_rfl
    have v4 : IntKind.wrap .i64 ((9223372036854775807 : Int) - n) = 9223372036854775807 - n := wrap64 (by omega)
    have v5 : IntKind.wrap .i64 (Int.tdiv 0 2) = 0 := by kernel_rfl
    have v6 : IntKind.wrap .i64 ((0 : Int) - 0) = 0 := by kernel_rfl
    have v0 : ((0 : Nat) : Int) = 0 := rfl
    have c1' : ¬ ((n : Int) ≤ 0) := by omega
    have c2' : ¬ ((9223372036854775807 : Int) - n < 0) := by omega
    have hz1' : n ≤ gz 0 n 0 := by simpa using hz1
    have c3 : ¬ (n : Int) ≤ 64 := by have := hbig rfl; omega
    simp -implicitDefEqProofs only [Tryd.f70,Wa,Wb,Wc,Wd,We,Wf,Wg,Wh,Wi,Wj,Wk,Wl,Wm,Wn,Zo,Zp,evalT,Nat.reduceLT,Nat.reduceEqDiff,if_true,if_false,reduceIte,Ys,ofVal,ofCell,argT,resT,setT,Y0,Int.reduceEq,Int.reduceLT,Int.reduceLE,Int.reduceNeg,mb,Nat.reduceBEq,tys,stb,Va,storeList,Nat.reduceAdd,Nat.reduceLeDiff,opT_nilCheck,nilO_ptr,hL,hT,hb,hb2,opT_cap,hv.len,hv.cap,eq_nil1,opT_slice,optO_none,optO_some,hsl,hG,w1,w2,v0,v3,v4,v5,v6,c1',c2',c3,set_app hbl,get_set hbl,set_app2 hbl,List.set_set,cut_grow hz1']
    exact ⟨by kernel_rfl, rfl, rfl, trivial⟩
  · have hv : BV (.hsl k 0 len c (.both 1)) len c := .inr ⟨k, rfl⟩
    by_cases h0 : (len : Int) = 0
    · have h0 := eq_true h0
      simp -implicitDefEqProofs only [Tryd.f70,Wa,Wb,Wc,Wd,We,Wf,Wg,Wh,Wi,Wj,Wk,Wl,Wm,Wn,Zo,Zp,evalT,Nat.reduceLT,Nat.reduceEqDiff,if_true,if_false,reduceIte,Ys,ofVal,ofCell,argT,resT,setT,Y0,Int.reduceEq,Int.reduceLT,Int.reduceLE,Int.reduceNeg,mb,Nat.reduceBEq,tys,stb,Va,storeList,Nat.reduceAdd,Nat.reduceLeDiff,opT_nilCheck,nilO_ptr,hL,hT,hb,hb2,opT_cap,hv.len,hv.cap,eq_nil2,opT_slice,optO_none,optO_some,hsl,hG,w1,w2,w3,w4,w5,w6,c1,c2,h0,set_app hbl,get_set hbl,set_app2 hbl,List.set_set,cut_grow hz1]
      exact ⟨by kernel_rfl, rfl, rfl, trivial⟩
    · simp -implicitDefEqProofs only [Tryd.f70,Wa,Wb,Wc,Wd,We,Wf,Wg,Wh,Wi,Wj,Wk,Wl,Wm,Wn,Zo,Zp,evalT,Nat.reduceLT,Nat.reduceEqDiff,if_true,if_false,reduceIte,Ys,ofVal,ofCell,argT,resT,setT,Y0,Int.reduceEq,Int.reduceLT,Int.reduceLE,Int.reduceNeg,mb,Nat.reduceBEq,tys,stb,Va,storeList,Nat.reduceAdd,Nat.reduceLeDiff,opT_nilCheck,nilO_ptr,hL,hT,hb,hb2,opT_cap,hv.len,hv.cap,eq_nil2,opT_slice,optO_none,optO_some,hsl,hG,w1,w2,w3,w4,w5,w6,c1,c2,h0,set_app hbl,get_set hbl,set_app2 hbl,List.set_set,cut_grow hz1]
      exact ⟨by kernel_rfl, rfl, rfl, trivial⟩
theorem make_ok (n : Nat) (hn : n ≤ 64) (L : List AObj) (ts : List Nat) : makeO env true ⟨L, ts⟩ 26 (.int .i64 (n : Int)) (.int .i64 64) = some (.hsl L.length 0 n 64 .exact, ⟨L ++ [.cells (List.replicate 64 (.int .u8 0)) 5], ts⟩) := by
  have h1 : (0 : Int) ≤ n ∧ (n : Int) ≤ 64 ∧ (64 : Int) ≤ lim ∧ (64 : Int) * (1 : Nat) ≤ lim := by unfold lim; omega
  simp only [makeO, e26, s5, b5, Option.bind_some, h1, and_self, if_true, zv5, V.cells, S.push]
  rfl
theorem grow_small (b n : Nat) (y2 : V) (rest : List V) (T : TypeId) (hn : 1 ≤ n) (hn2 : n ≤ 64) (L : List AObj) (ts : List Nat) (hb : L[b]? = some (.cells (.nilsl :: .int .i64 0 :: y2 :: rest) T)) :
    callFn env (ev env) 70 [.ptr b 0, .int .i64 n] ⟨L, ts⟩ = some (.int .i64 0, ⟨L.set b (.cells (.hsl L.length 0 n 64 .exact :: .int .i64 0 :: y2 :: rest) T) ++ [.cells (List.replicate 64 (.int .u8 0)) 5], ts⟩) := by
  refine callFn_eq rfl rfl at70 rfl (by simp [Tryd.f70]) (by simp [Tryd.f70]) (G_start ?_)
  have hbl := lt_get hb
  have hv : BV .nilsl 0 0 := .inl ⟨rfl, rfl, rfl⟩
  have hL := len_call b 0 0 .nilsl y2 rest T hv L ts hb (by omega)
  have hT := try_none b 0 0 n .nilsl (.int .i64 0) y2 rest T hv L ts hb (by omega) (by omega) (by omega)
  have hb2 : ∀ X : List AObj, (L ++ X)[b]? = some (.cells (.nilsl :: .int .i64 0 :: y2 :: rest) T) := fun X => get_appl hb X
  have c3 : (n : Int) ≤ 64 := by omega
  have v0 : ((0 : Nat) : Int) = 0 := rfl
  simp -implicitDefEqProofs only [v0] at hL
  simp -implicitDefEqProofs only [Tryd.f70,Wa,Wb,Wc,Wd,We,Wf,Wg,Wh,Wi,Wj,Wk,Wl,Wm,Wn,Zo,Zp,evalT,Nat.reduceLT,Nat.reduceEqDiff,if_true,if_false,reduceIte,Ys,ofVal,ofCell,argT,resT,setT,Y0,Int.reduceEq,Int.reduceLT,Int.reduceLE,Int.reduceNeg,mb,Nat.reduceBEq,tys,stb,Va,storeList,Nat.reduceAdd,Nat.reduceLeDiff,opT_nilCheck,nilO_ptr,hL,hT,hb,hb2,eq_nil1,c3,v0,opT_makeSlice,make_ok n hn2,set_app hbl]
  exact ⟨rfl, trivial⟩
theorem slice_from {k len c : Nat} {ex : HCap} {m : Nat} (hex : ex ≠ .exact) (hl : len ≤ c) (hm : m ≤ len) (h : m < c ∨ m = 0) : sliceO env 26 (.hsl k 0 len c ex) (some (.int .i64 (m : Int))) none none = some (.hsl k m (len - m) (c - m) (ex.cut 1)) := by
  have h1 : (m : Int) ≤ (len : Int) := by omega
  cases ex <;> first | exact absurd rfl hex | (simp only [sliceO, u26, s5, vSlice, vBound, Option.bind_some, Int.toNat_natCast]; simp [h1, h])
theorem copy_room {L : List AObj} {ts : List Nat} {k off m c n : Nat} {ex : HCap} {y : V} {cs new : List V} {t : TypeId} (hx : ex.room 1 = true) (hk : L[k]? = some (.cells cs t)) (hy : vLen y = some n) (hn : 1 ≤ n) (hmn : m = n) (hc : n ≤ c) (hoff : off ≤ cs.length) (hr : vCells L 1 n y = some new) (hcell : new.all V.isCell = true) :
    copyO env ⟨L, ts⟩ 26 (.hsl k off m c ex) y = some (.int .i64 n, ⟨L.set k (.cells (cs.take off ++ new ++ cs.drop (off + n)) t), ts⟩) := by
  subst hmn
  have hnl : new.length = m := by have := vCells_len hr; omega
  have h0 : ¬ m = 0 := by omega
  simp only [copyO, e26, s5, Option.bind_some, hy, Nat.min_self, hr, h0, if_false, hx, if_true, storeRoom, hk]
  rw [if_pos ⟨hoff, by omega, hcell⟩]
  simp [S.set, hnl]
end Go.Proofs.YtncohjljeoknkaaDoor.B
namespace Go.Proofs.YtncohjljeoknkaaDoor.B
open Go.Ab
set_option maxHeartbeats 4000000
set_option maxRecDepth 100000
set_option linter.unusedSimpArgs false
set_option linter.unusedVariables false
theorem write_room (b k len c n : Nat) (lr : Int) (rest : List V) (T t : TypeId) (cs new : List V) (y : V) (hn : 1 ≤ n) (hn2 : len + n ≤ c) (hc : c ≤ 9223372036854775807) (hbk : b ≠ k) (L : List AObj) (ts : List Nat)
    (hb : L[b]? = some (.cells (.hsl k 0 len c (.both 1) :: .int .i64 0 :: .int .i8 lr :: rest) T)) (hk : L[k]? = some (.cells cs t)) (hlen : len ≤ cs.length) (hyl : vLenT (some (.slice 5)) y = some (.int .i64 n)) (hy : vLen y = some n) (hr : ∀ o X, vCells (L.set b o ++ X) 1 n y = some new) (hcell : new.all V.isCell = true) :
    callFn env (ev env) 50 [.ptr b 0, y] ⟨L, ts⟩ = some (.tup [.int .i64 n, .nilif], ⟨(L.set b (.cells (.hsl k 0 (len + n) c (.both 1) :: .int .i64 0 :: .int .i8 0 :: rest) T)).set k (.cells (cs.take len ++ new ++ cs.drop (len + n)) t), ts⟩) := by
  refine callFn_eq rfl rfl at50 rfl (by simp [Tryd.f50]) (by simp [Tryd.f50]) (G_start ?_)
  have hbl := lt_get hb
  have hg : ∀ o, (L.set b o)[b]? = some o := fun o => List.getElem?_set_self hbl
  have hkk : ∀ o, (L.set b o)[k]? = some (.cells cs t) := fun o => by rw [List.getElem?_set_ne hbk]; exact hk
  have hT := try_room b k len c n (.int .i64 0) (.int .i8 0) rest T (L.set b (.cells (.hsl k 0 len c (.both 1) :: .int .i64 0 :: .int .i8 0 :: rest) T)) ts (hg _) hn2 hc
  rw [List.set_set] at hT
  have hs1 : sliceO env 26 (.hsl k 0 (len + n) c (.both 1)) (some (.int .i64 (len : Int))) none none = some (.hsl k len n (c - len) (.both 1)) := by
    rw [slice_from (by simp) hn2 (by omega) (by omega), Nat.add_sub_cancel_left]; rfl
  have hc1 := copy_room (ts := ts) (ex := .both 1) (m := n) (off := len) (c := c - len) rfl (hkk (.cells (.hsl k 0 (len + n) c (.both 1) :: .int .i64 0 :: .int .i8 0 :: rest) T)) hy hn rfl (by omega) hlen (by simpa using hr _ []) hcell
  simp -implicitDefEqProofs only [Tryd.f50,Wa,Wb,Wc,Wd,We,Wf,Wg,Wh,Wi,Wj,Wk,Wl,Wm,Wn,Zo,Zp,evalT,Nat.reduceLT,Nat.reduceEqDiff,if_true,if_false,reduceIte,Ys,ofVal,ofCell,argT,resT,setT,Y0,Int.reduceEq,Int.reduceLT,Int.reduceLE,Int.reduceNeg,mb,Nat.reduceBEq,tys,stb,Va,storeList,Nat.reduceAdd,Nat.reduceLeDiff,opT_nilCheck,nilO_ptr,hb,hyl,hT,hg,opT_slice,optO_none,optO_some,hs1,opT_copy,hc1]
  exact ⟨rfl, rfl, trivial⟩
theorem write_grow (b len n c : Nat) (v : V) (lr : Int) (rest : List V) (T : TypeId) (old new : List V) (y : V) (hv : BV v len c) (hlc : len ≤ c) (hn : 1 ≤ n) (hroom : c < len + n) (hlim : len + n ≤ 2 ^ 38) (hbig : v = .nilsl → 64 < n) (ho : old.all V.isCell = true) (L : List AObj) (ts : List Nat)
    (hb : L[b]? = some (.cells (v :: .int .i64 0 :: .int .i8 lr :: rest) T)) (hro : ∀ o X, vCells (L.set b o ++ X) 1 len v = some old) (hyl : vLenT (some (.slice 5)) y = some (.int .i64 n)) (hy : vLen y = some n) (hr : ∀ o X, vCells (L.set b o ++ X) 1 n y = some new) (hcell : new.all V.isCell = true) :
    callFn env (ev env) 50 [.ptr b 0, y] ⟨L, ts⟩ = some (.tup [.int .i64 n, .nilif], ⟨L.set b (.cells (.hsl L.length 0 (len + n) (gz len n c) (.grow 1) :: .int .i64 0 :: .int .i8 0 :: rest) T) ++ [.cells (old ++ new ++ List.replicate (gz len n c - (len + n)) (.int .u8 0)) 5], ts⟩) := by
  refine callFn_eq rfl rfl at50 rfl (by simp [Tryd.f50]) (by simp [Tryd.f50]) (G_start ?_)
  have hbl := lt_get hb
  have hcl := hv.cells
  have hg : ∀ o, (L.set b o)[b]? = some o := fun o => List.getElem?_set_self hbl
  have hT := try_none b len c n v (.int .i64 0) (.int .i8 0) rest T hv (L.set b (.cells (v :: .int .i64 0 :: .int .i8 0 :: rest) T)) ts (hg _) hlc hroom (by omega)
  have hG := grow_call b len n c v (.int .i8 0) rest T old hv hlc hn hroom hlim hbig ho (L.set b (.cells (v :: .int .i64 0 :: .int .i8 0 :: rest) T)) ts (hg _) (hro _)
  rw [List.set_set, List.length_set] at hG
  have hz1 := gz_le len n c
  have hol : old.length = len := by have := vCells_len (hro (.dead) []); omega
  have hs1 : sliceO env 26 (.hsl L.length 0 (len + n) (gz len n c) (.grow 1)) (some (.int .i64 (len : Int))) none none = some (.hsl L.length len n (gz len n c - len) (.grow 1)) := by
    rw [slice_from (by simp) hz1 (by omega) (by omega), Nat.add_sub_cancel_left]; rfl
  have hkk : ∀ o p, (L.set b o ++ [p])[L.length]? = some p := fun o p => by
    have : L.length = (L.set b o).length := by simp
    rw [this, List.getElem?_concat_length]
  have hsk : ∀ o p q, (L.set b o ++ [p]).set L.length q = L.set b o ++ [q] := fun o p q => by
    have : L.length = (L.set b o).length := by simp
    rw [this, List.set_append_right _ _ (Nat.le_refl _)]; simp
  have hc1 := copy_room (ts := ts) (ex := .grow 1) (m := n) (off := len) (c := gz len n c - len) rfl (hkk (.cells (.hsl L.length 0 (len + n) (gz len n c) (.grow 1) :: .int .i64 0 :: .int .i8 0 :: rest) T) (.cells (old ++ List.replicate (gz len n c - len) (.int .u8 0)) 5)) hy hn rfl (by omega) (by rw [List.length_append]; omega) (hr _ _) hcell
  have hfin : (old ++ List.replicate (gz len n c - len) (V.int .u8 0)).take len ++ new ++ (old ++ List.replicate (gz len n c - len) (V.int .u8 0)).drop (len + n) = old ++ new ++ List.replicate (gz len n c - (len + n)) (V.int .u8 0) := by
    rw [← hol, List.take_left' rfl, List.drop_append, List.drop_of_length_le (by omega), List.nil_append]
    have e : old.length + n - old.length = n := by omega
    rw [e, List.drop_replicate]
    congr 2
    omega
  rw [hsk, hfin] at hc1
  simp -implicitDefEqProofs only [Tryd.f50,Wa,Wb,Wc,Wd,We,Wf,Wg,Wh,Wi,Wj,Wk,Wl,Wm,Wn,Zo,Zp,evalT,Nat.reduceLT,Nat.reduceEqDiff,if_true,if_false,reduceIte,Ys,ofVal,ofCell,argT,resT,setT,Y0,Int.reduceEq,Int.reduceLT,Int.reduceLE,Int.reduceNeg,mb,Nat.reduceBEq,tys,stb,Va,storeList,Nat.reduceAdd,Nat.reduceLeDiff,opT_nilCheck,nilO_ptr,hb,hcl.1,hyl,hT,hG,hg,get_set hbl,opT_slice,optO_none,optO_some,hs1,opT_copy,hc1]
  exact ⟨rfl, rfl, trivial⟩
theorem write_small (b n : Nat) (lr : Int) (rest : List V) (T : TypeId) (new : List V) (y : V) (hn : 1 ≤ n) (hn2 : n ≤ 64) (L : List AObj) (ts : List Nat)
    (hb : L[b]? = some (.cells (.nilsl :: .int .i64 0 :: .int .i8 lr :: rest) T)) (hyl : vLenT (some (.slice 5)) y = some (.int .i64 n)) (hy : vLen y = some n) (hr : ∀ o X, vCells (L.set b o ++ X) 1 n y = some new) (hcell : new.all V.isCell = true) :
    callFn env (ev env) 50 [.ptr b 0, y] ⟨L, ts⟩ = some (.tup [.int .i64 n, .nilif], ⟨L.set b (.cells (.hsl L.length 0 n 64 .exact :: .int .i64 0 :: .int .i8 0 :: rest) T) ++ [.cells (new ++ List.replicate (64 - n) (.int .u8 0)) 5], ts⟩) := by
  refine callFn_eq rfl rfl at50 rfl (by simp [Tryd.f50]) (by simp [Tryd.f50]) (G_start ?_)
  have hbl := lt_get hb
  have hv : BV .nilsl 0 0 := .inl ⟨rfl, rfl, rfl⟩
  have hg : ∀ o, (L.set b o)[b]? = some o := fun o => List.getElem?_set_self hbl
  have hT := try_none b 0 0 n .nilsl (.int .i64 0) (.int .i8 0) rest T hv (L.set b (.cells (.nilsl :: .int .i64 0 :: .int .i8 0 :: rest) T)) ts (hg _) (by omega) (by omega) (by omega)
  have hG := grow_small b n (.int .i8 0) rest T hn hn2 (L.set b (.cells (.nilsl :: .int .i64 0 :: .int .i8 0 :: rest) T)) ts (hg _)
  rw [List.set_set, List.length_set] at hG
  have hs1 : sliceO env 26 (.hsl L.length 0 n 64 .exact) (some (.int .i64 0)) none none = some (.hsl L.length 0 n 64 .exact) := by
    simp [sliceO, u26, s5, vSlice, vBound]
  have hkk : ∀ o p, (L.set b o ++ [p])[L.length]? = some p := fun o p => by
    have : L.length = (L.set b o).length := by simp
    rw [this, List.getElem?_concat_length]
  have hsk : ∀ o p q, (L.set b o ++ [p]).set L.length q = L.set b o ++ [q] := fun o p q => by
    have : L.length = (L.set b o).length := by simp
    rw [this, List.set_append_right _ _ (Nat.le_refl _)]; simp
  have hnl : new.length = n := by have := vCells_len (hr (.dead) []); omega
  have hc1 : copyO env ⟨L.set b (.cells (.hsl L.length 0 n 64 .exact :: .int .i64 0 :: .int .i8 0 :: rest) T) ++ [.cells (List.replicate 64 (.int .u8 0)) 5], ts⟩ 26 (.hsl L.length 0 n 64 .exact) y = some (.int .i64 n, ⟨L.set b (.cells (.hsl L.length 0 n 64 .exact :: .int .i64 0 :: .int .i8 0 :: rest) T) ++ [.cells (new ++ List.replicate (64 - n) (.int .u8 0)) 5], ts⟩) := by
    have h0 : ¬ n = 0 := by omega
    simp only [copyO, e26, s5, Option.bind_some, hy, Nat.min_self, hr, h0, if_false, HCap.room, Bool.false_eq_true, storeCellsV, hkk]
    rw [if_pos ⟨by rw [hnl, List.length_replicate]; omega, hcell⟩]
    simp only [S.set, hsk, storeList, hnl, List.drop_replicate, List.take_zero, List.nil_append, Nat.zero_add, Option.map_some]
  simp -implicitDefEqProofs only [Tryd.f50,Wa,Wb,Wc,Wd,We,Wf,Wg,Wh,Wi,Wj,Wk,Wl,Wm,Wn,Zo,Zp,evalT,Nat.reduceLT,Nat.reduceEqDiff,if_true,if_false,reduceIte,Ys,ofVal,ofCell,argT,resT,setT,Y0,Int.reduceEq,Int.reduceLT,Int.reduceLE,Int.reduceNeg,mb,Nat.reduceBEq,tys,stb,Va,storeList,Nat.reduceAdd,Nat.reduceLeDiff,opT_nilCheck,nilO_ptr,hb,hyl,hT,hG,hg,get_set hbl,opT_slice,optO_none,optO_some,hs1,opT_copy,hc1]
  exact ⟨rfl, rfl, trivial⟩
theorem try_zero (b : Nat) (y1 y2 : V) (rest : List V) (T : TypeId) (L : List AObj) (ts : List Nat) (hb : L[b]? = some (.cells (.nilsl :: y1 :: y2 :: rest) T)) :
    callFn env (ev env) 69 [.ptr b 0, .int .i64 0] ⟨L, ts⟩ = some (.tup [.int .i64 0, .bool true], ⟨L.set b (.cells (.nilsl :: y1 :: y2 :: rest) T), ts⟩) := by
  refine callFn_eq rfl rfl at69 rfl (by simp [Tryd.f69]) (by simp [Tryd.f69]) (G_start ?_)
  have hv : BV .nilsl 0 0 := .inl ⟨rfl, rfl, rfl⟩
  have hw : IntKind.wrap .i64 ((0 : Int) - 0) = 0 := by kernel_rfl
  have hw2 : IntKind.wrap .i64 ((0 : Int) + 0) = 0 := by kernel_rfl
  have hle : (0 : Int) ≤ 0 := Int.le_refl _
  have v0 : ((0 : Nat) : Int) = 0 := rfl
  have hsl : sliceO env 26 .nilsl none (some (.int .i64 0)) none = some .nilsl := by simp [sliceO, u26, s5, vSlice, vBound]
  simp -implicitDefEqProofs only [Tryd.f69,Wa,Wb,Wc,Wd,We,Wf,Wg,Wh,Wi,Wj,Wk,Wl,Wm,Wn,Zo,Zp,evalT,Nat.reduceLT,Nat.reduceEqDiff,if_true,if_false,reduceIte,Ys,ofVal,ofCell,argT,resT,setT,Y0,Int.reduceEq,Int.reduceLT,Int.reduceLE,Int.reduceNeg,mb,Nat.reduceBEq,tys,stb,Va,storeList,Nat.reduceAdd,Nat.reduceLeDiff,opT_nilCheck,nilO_ptr,hb,opT_cap,hv.len,hv.cap,v0,hw,hw2,hle,opT_slice,optO_none,optO_some,hsl]
  exact ⟨rfl, rfl, trivial⟩
theorem write_zero (b len c : Nat) (v : V) (lr : Int) (rest : List V) (T : TypeId) (y : V) (hv : BV v len c) (hlc : len ≤ c) (hc : c ≤ 9223372036854775807) (L : List AObj) (ts : List Nat)
    (hb : L[b]? = some (.cells (v :: .int .i64 0 :: .int .i8 lr :: rest) T)) (hyl : vLenT (some (.slice 5)) y = some (.int .i64 0)) (hy : vLen y = some 0) (hr : ∀ o X, vCells (L.set b o ++ X) 1 0 y = some []) :
    callFn env (ev env) 50 [.ptr b 0, y] ⟨L, ts⟩ = some (.tup [.int .i64 0, .nilif], ⟨L.set b (.cells (v :: .int .i64 0 :: .int .i8 0 :: rest) T), ts⟩) := by
  refine callFn_eq rfl rfl at50 rfl (by simp [Tryd.f50]) (by simp [Tryd.f50]) (G_start ?_)
  have hbl := lt_get hb
  have hg : ∀ o, (L.set b o)[b]? = some o := fun o => List.getElem?_set_self hbl
  have hr0 : ∀ o, vCells (L.set b o) 1 0 y = some [] := fun o => by simpa using hr o []
  rcases hv with ⟨rfl, rfl, rfl⟩ | ⟨k, rfl⟩
  · have hT := try_zero b (.int .i64 0) (.int .i8 0) rest T (L.set b (.cells (.nilsl :: .int .i64 0 :: .int .i8 0 :: rest) T)) ts (hg _)
    rw [List.set_set] at hT
    have hs1 : sliceO env 26 .nilsl (some (.int .i64 0)) none none = some .nilsl := by simp [sliceO, u26, s5, vSlice, vBound]
    have hc1 : ∀ o, copyO env ⟨L.set b o, ts⟩ 26 .nilsl y = some (.int .i64 0, ⟨L.set b o, ts⟩) := fun o => by simp only [copyO, e26, s5, Option.bind_some, hy]
    simp -implicitDefEqProofs only [Tryd.f50,Wa,Wb,Wc,Wd,We,Wf,Wg,Wh,Wi,Wj,Wk,Wl,Wm,Wn,Zo,Zp,evalT,Nat.reduceLT,Nat.reduceEqDiff,if_true,if_false,reduceIte,Ys,ofVal,ofCell,argT,resT,setT,Y0,Int.reduceEq,Int.reduceLT,Int.reduceLE,Int.reduceNeg,mb,Nat.reduceBEq,tys,stb,Va,storeList,Nat.reduceAdd,Nat.reduceLeDiff,opT_nilCheck,nilO_ptr,hb,hyl,hT,hg,opT_slice,optO_none,optO_some,hs1,opT_copy,hc1]
    exact ⟨rfl, rfl, trivial⟩
  · have hT := try_room b k len c 0 (.int .i64 0) (.int .i8 0) rest T (L.set b (.cells (.hsl k 0 len c (.both 1) :: .int .i64 0 :: .int .i8 0 :: rest) T)) ts (hg _) (by omega) hc
    rw [List.set_set] at hT
    have v0 : ((0 : Nat) : Int) = 0 := rfl
    simp -implicitDefEqProofs only [v0,Nat.add_zero] at hT
    have hs1 : ∃ x, sliceO env 26 (.hsl k 0 len c (.both 1)) (some (.int .i64 (len : Int))) none none = some x ∧ ∀ o, copyO env ⟨L.set b o, ts⟩ 26 x y = some (.int .i64 0, ⟨L.set b o, ts⟩) := by
      by_cases h : len < c ∨ len = 0
      · refine ⟨_, slice_from (by simp) hlc (Nat.le_refl _) h, fun o => ?_⟩
        simp only [copyO, e26, s5, Option.bind_some, hy, Nat.sub_self, Nat.min_self, hr0, if_true]
      · refine ⟨.row [] 0 .unk, ?_, fun o => ?_⟩
        · have h1 : (len : Int) ≤ (len : Int) := Int.le_refl _
          simp only [sliceO, u26, s5, vSlice, vBound, Option.bind_some, Int.toNat_natCast]
          simp [h]
        · simp only [copyO, e26, s5, Option.bind_some, hy, Nat.min_self, if_true]
    obtain ⟨x, hs1, hc1⟩ := hs1
    simp -implicitDefEqProofs only [Tryd.f50,Wa,Wb,Wc,Wd,We,Wf,Wg,Wh,Wi,Wj,Wk,Wl,Wm,Wn,Zo,Zp,evalT,Nat.reduceLT,Nat.reduceEqDiff,if_true,if_false,reduceIte,Ys,ofVal,ofCell,argT,resT,setT,Y0,Int.reduceEq,Int.reduceLT,Int.reduceLE,Int.reduceNeg,mb,Nat.reduceBEq,tys,stb,Va,storeList,Nat.reduceAdd,Nat.reduceLeDiff,opT_nilCheck,nilO_ptr,hb,hyl,hT,hg,opT_slice,optO_none,optO_some,hs1,opT_copy,hc1]
    exact ⟨rfl, rfl, trivial⟩
end Go.Proofs.YtncohjljeoknkaaDoor.B
namespace Go.Ab
set_option linter.unusedVariables false
section
variable {Γ : Ctx} {σ : S} {w : World}
theorem WRel.obj (h : WRel Γ σ w) {a : Nat} {cs : List V} {t : TypeId} (ha : σ.heap[a]? = some (.cells cs t)) :
    ∃ c xs, Γ.blk a = some c ∧ w.heap[c]? = some (.cells xs t (0, 0)) ∧ cs.length ≤ xs.size ∧ ∀ i (h : i < cs.length) (h2 : i < xs.size), VRel Γ cs[i] xs[i] := by
  rcases h.live a _ ha with ⟨hr, _⟩ | ⟨c, ob, h1, h2, h3, _⟩
  · cases hr
  · cases ob <;> simp only [ORel] at h3
    obtain ⟨rfl, rfl, h4, h5⟩ := h3
    exact ⟨c, _, h1, h2, h4, h5⟩
theorem WRel.resay (h : WRel Γ σ w) {a c : Nat} {cs ds : List V} {t : TypeId} {xs : Array Value} (ha : σ.heap[a]? = some (.cells cs t)) (hb : Γ.blk a = some c) (hx : w.heap[c]? = some (.cells xs t (0, 0))) (hl : ds.length ≤ xs.size) (hr : ∀ i (h : i < ds.length) (h2 : i < xs.size), VRel Γ ds[i] xs[i]) :
    Moved Γ Γ (σ.set a (.cells ds t)) w w :=
  h.upd (Upd.refl hx) hb ha rfl ⟨rfl, rfl, hl, hr⟩ (fun _ xs' t' f' e => by rw [hx] at e; cases e; exact ⟨_, _, _, rfl, rfl⟩)
theorem WRel.kill (h : WRel Γ σ w) {a : Nat} {cs : List V} {t : TypeId} (ha : σ.heap[a]? = some (.cells cs t)) : Moved Γ Γ (σ.set a .dead) w w := by
  obtain ⟨c, xs, h1, h2, _⟩ := h.obj ha
  exact h.upd (o := .dead) (Upd.refl h2) h1 ha rfl trivial (fun _ xs' t' f' e => by rw [h2] at e; cases e; exact ⟨_, _, _, rfl, rfl⟩)
theorem WRel.head (h : WRel Γ σ w) {a : Nat} {v u : V} {cs : List V} {t : TypeId} (ha : σ.heap[a]? = some (.cells (v :: cs) t)) (hv : ∀ x, VRel Γ v x → VRel Γ u x) : Moved Γ Γ (σ.set a (.cells (u :: cs) t)) w w := by
  obtain ⟨c, xs, h1, h2, h3, h4⟩ := h.obj ha
  refine h.resay ha h1 h2 (by simpa using h3) fun i hi hi2 => ?_
  cases i with
  | zero => exact hv _ (h4 0 (by simp) hi2)
  | succ i => exact h4 (i + 1) (by simpa using hi) hi2
theorem WRel.blur (h : WRel Γ σ w) {b j m cap k : Nat} {ex : HCap} {bs cs : List V} {T t : TypeId} (hb : σ.heap[b]? = some (.cells (.hsl j 0 m cap ex :: bs) T)) (hj : σ.heap[j]? = some (.cells cs t)) (hbj : b ≠ j) (hm : m ≤ cap)
    (hr : ex = .grow 1 ∨ (ex = .both 1 ∧ cap ≤ maxLen) ∨ (ex = .exact ∧ cap ≤ cs.length ∧ cap ≤ maxLen)) :
    ∃ Γ', Moved Γ Γ' ((σ.set j (.cells (cs.take k) t)).set b (.cells (.hsl j 0 m m (.grow 1) :: bs) T)) w w := by
  obtain ⟨c, xs, h1, h2, h3, h4⟩ := h.obj hj
  have m1 := h.resay (ds := cs.take k) hj h1 h2 (by rw [List.length_take]; omega) (fun i hi hi2 => by
    rw [List.length_take] at hi
    simpa using h4 i (by omega) hi2)
  have m2 := m1.rel.setSiz h2 rfl
  have hb2 : (σ.set j (.cells (cs.take k) t)).heap[b]? = some (.cells (.hsl j 0 m cap ex :: bs) T) := by
    show (σ.heap.set j _)[b]? = _
    rw [List.getElem?_set_ne (Ne.symm hbj)]; exact hb
  have m3 := m2.rel.head (u := .hsl j 0 m m (.grow 1)) hb2 (fun x hx => by
    cases hx with
    | hsl _ _ _ _ _ c2 c' hblk hcc =>
      have e : c2 = c := by
        have h5 : Γ.blk j = some c2 := hblk
        rw [h1] at h5; cases h5; rfl
      subst e
      obtain ⟨hcap, hH⟩ := hcc
      refine .hsl _ _ _ _ _ c2 c' hblk ⟨by omega, ⟨xs.size, by simp [Ctx.setSiz], ?_⟩, ?_⟩
      · rcases hr with rfl | ⟨rfl, _⟩ | ⟨rfl, hl, _⟩
        · obtain ⟨⟨n, k1, k2⟩, _⟩ := hH
          simp [Ctx.setSiz] at k1
          omega
        · obtain ⟨_, n, k1, k2⟩ := hH
          simp [Ctx.setSiz] at k1
          omega
        · have : c' = cap := hH
          omega
      · rcases hr with rfl | ⟨rfl, hl⟩ | ⟨rfl, _, hl⟩
        · exact hH.2
        · have : c' = cap := hH.1
          omega
        · have : c' = cap := hH
          omega)
  exact ⟨_, m1.trans (m2.trans m3)⟩
end
end Go.Ab
namespace Go.Proofs.YtncohjljeoknkaaDoor
open Go.Ab
set_option maxHeartbeats 4000000
set_option maxRecDepth 100000
set_option linter.unusedVariables false
def srcOK (b : Nat) : V → Bool
  | .hsl j _ _ _ _ => j != b
  | .row _ _ _ => true
  | .nilsl => true
  | _ => false
def bufP (b : Nat) (T : TypeId) (n : Nat) (new : List V) (buf : V) (rest : List V) (L : List AObj) (ts : List Nat) : Option (V × S) :=
  match buf with
  | .nilsl =>
    if n = 0 then some (.tup [.int .i64 0, .nilif], ⟨L.set b (.cells (.nilsl :: .int .i64 0 :: .int .i8 0 :: rest) T), ts⟩)
    else if n ≤ 2 ^ 38 then some (.tup [.int .i64 n, .nilif], ⟨L.set b (.cells (.hsl L.length 0 n n (.grow 1) :: .int .i64 0 :: .int .i8 0 :: rest) T) ++ [.cells new 5], ts⟩)
    else none
  | .hsl k off len cap ex =>
    match L[k]? with
    | some (.cells cs t) =>
      if off = 0 ∧ ex = .grow 1 ∧ t = 5 ∧ b ≠ k ∧ len ≤ cap ∧ len ≤ cs.length ∧ len + n ≤ 2 ^ 38 ∧ (cs.take len).all V.isCell then
        if n = 0 then some (.tup [.int .i64 0, .nilif], ⟨L.set b (.cells (.hsl k 0 len cap (.grow 1) :: .int .i64 0 :: .int .i8 0 :: rest) T), ts⟩)
        else some (.tup [.int .i64 n, .nilif], ⟨(L.set b (.cells (.hsl L.length 0 (len + n) (len + n) (.grow 1) :: .int .i64 0 :: .int .i8 0 :: rest) T)).set k .dead ++ [.cells (cs.take len ++ new) 5], ts⟩)
      else none
    | _ => none
  | _ => none
def bufW (args : List V) (σ : S) : Option (V × S) :=
  match args with
  | [.ptr b off, y] =>
    match σ.heap[b]? with
    | some (.cells (buf :: .int .i64 o :: .int .i8 lr :: rest) T) =>
      match vLen y with
      | some n => (vCells σ.heap 1 n y).bind fun new =>
        if off = 0 ∧ o = 0 ∧ srcOK b y = true ∧ new.all V.isCell = true then bufP b T n new buf rest σ.heap σ.toks else none
      | none => none
    | _ => none
  | _ => none
theorem src_len {b : Nat} {y : V} {n : Nat} (h : srcOK b y = true) (hy : vLen y = some n) : vLenT (some (.slice 5)) y = some (.int .i64 n) := by
  cases y <;> simp only [srcOK, Bool.false_eq_true] at h <;> simp only [vLen, Option.some.injEq] at hy <;> subst hy <;> rfl
theorem src_get {b : Nat} {y : V} {n : Nat} {L : List AObj} {new : List V} (h : srcOK b y = true) (hr : vCells L 1 n y = some new) (o : AObj) (X : List AObj) : vCells (L.set b o ++ X) 1 n y = some new := by
  cases y with
  | hsl j off len cap ex =>
    simp only [srcOK, bne_iff_ne, ne_eq] at h
    have e : ∀ p, L[j]? = some p → (L.set b o ++ X)[j]? = some p := fun p hp => by
      rw [List.getElem?_append_left (by rw [List.length_set]; exact B.lt_get hp), List.getElem?_set_ne (Ne.symm h)]; exact hp
    simp only [vCells] at hr ⊢
    cases hj : L[j]? with
    | none => rw [hj] at hr; simp at hr
    | some p => rw [hj] at hr; rw [e _ hj]; exact hr
  | row cells len cap => simpa [vCells] using hr
  | nilsl => simpa [vCells] using hr
  | _ => simp [srcOK] at h
theorem LRel.two {Γ : Ctx} {a b : V} {xs : Array Value} (h : LRel Γ [a, b] xs) : ∃ x y, xs = #[x, y] ∧ VRel Γ a x ∧ VRel Γ b y := by
  have h1 := h.len
  obtain ⟨l⟩ := xs
  match l, h1 with
  | [x, y], _ => exact ⟨x, y, rfl, h.rel 0 (by simp) (by simp), h.rel 1 (by simp) (by simp)⟩
theorem gok (Γ : Ctx) : GOK B.env Γ := fun g v hv => by simp [B.env] at hv
theorem b_sound {args : List V} {σ σ' : S} {v : V} (h : callFn B.env (ev B.env) 50 args σ = some (v, σ')) {Γ : Ctx} {w : World} {xs : Array Value} (hw : WRel Γ σ w) (hx : LRel Γ args xs) :
    ∃ Γ' w' y, Moved Γ Γ' σ' w w' ∧ VRel Γ' v y ∧ CallsV Tryd.prog 50 xs w y w' :=
  callFn_sound B.env_ok (fun t r h => ev_sound B.env_ok h) h hw (gok Γ) hx
theorem get_last (L : List AObj) (b : Nat) (o p : AObj) : (L.set b o ++ [p])[L.length]? = some p := by
  have : L.length = (L.set b o).length := by simp
  rw [this, List.getElem?_concat_length]
theorem set_last (L : List AObj) (b : Nat) (o p q : AObj) : (L.set b o ++ [p]).set L.length q = L.set b o ++ [q] := by
  have : L.length = (L.set b o).length := by simp
  rw [this, List.set_append_right _ _ (Nat.le_refl _)]; simp
theorem max64 : (maxLen : Nat) ≤ 9223372036854775807 := by unfold maxLen; decide
theorem bufP_sound {b n : Nat} {T : TypeId} {new rest : List V} {buf y : V} {lr : Int} {L : List AObj} {ts : List Nat} {v : V} {σ' : S} (hb : L[b]? = some (.cells (buf :: .int .i64 0 :: .int .i8 lr :: rest) T)) (hy : vLen y = some n) (hc : vCells L 1 n y = some new) (hs : srcOK b y = true) (hcell : new.all V.isCell = true)
    (h : bufP b T n new buf rest L ts = some (v, σ')) {Γ : Ctx} {w : World} {xs : Array Value} (hw : WRel Γ ⟨L, ts⟩ w) (hx : LRel Γ [.ptr b 0, y] xs) : ∃ Γ' w' r, Moved Γ Γ' σ' w w' ∧ VRel Γ' v r ∧ CallsV Tryd.prog 50 xs w r w' := by
  have hyl := src_len hs hy
  have hr := fun o X => src_get hs hc o X
  have hnl : new.length = n := by have := vCells_len hc; omega
  have hbl := B.lt_get hb
  unfold bufP at h
  split at h
  · -- nothing yet
    have hv : B.BV .nilsl 0 0 := .inl ⟨rfl, rfl, rfl⟩
    split at h
    · rename_i h0
      subst h0
      have hn0 : new = [] := List.eq_nil_of_length_eq_zero hnl
      subst hn0
      simp only [Option.some.injEq, Prod.mk.injEq] at h
      obtain ⟨rfl, rfl⟩ := h
      exact b_sound (B.write_zero b 0 0 .nilsl lr rest T y hv (by omega) (by omega) L ts hb hyl hy hr) hw hx
    · rename_i h0
      split at h
      · rename_i h38
        simp only [Option.some.injEq, Prod.mk.injEq] at h
        obtain ⟨rfl, rfl⟩ := h
        have key : ∀ cap ex zs, (ex = .grow 1 ∨ (ex = .both 1 ∧ cap ≤ maxLen) ∨ (ex = .exact ∧ cap ≤ (new ++ zs).length ∧ cap ≤ maxLen)) → n ≤ cap →
            callFn B.env (ev B.env) 50 [.ptr b 0, y] ⟨L, ts⟩ = some (.tup [.int .i64 n, .nilif], ⟨L.set b (.cells (.hsl L.length 0 n cap ex :: .int .i64 0 :: .int .i8 0 :: rest) T) ++ [.cells (new ++ zs) 5], ts⟩) →
            ∃ Γ' w' r, Moved Γ Γ' ⟨L.set b (.cells (.hsl L.length 0 n n (.grow 1) :: .int .i64 0 :: .int .i8 0 :: rest) T) ++ [.cells new 5], ts⟩ w w' ∧ VRel Γ' (.tup [.int .i64 n, .nilif]) r ∧ CallsV Tryd.prog 50 xs w r w' := by
          intro cap ex zs hex hcap hcall
          obtain ⟨Γ1, w1, r, m1, hr1, hc1⟩ := b_sound hcall hw hx
          have hlL : L.length = (L.set b (AObj.cells (.hsl L.length 0 n cap ex :: .int .i64 0 :: .int .i8 0 :: rest) T)).length := by simp
          obtain ⟨Γ2, m2⟩ := m1.rel.blur (k := n) (bs := .int .i64 0 :: .int .i8 0 :: rest) (j := L.length) (T := T) (cs := new ++ zs) (t := 5) (B.get_set hbl _ _) (get_last L b _ _) (by omega) hcap hex
          refine ⟨Γ2, w1, r, m1.trans ?_, hr1.mono m2.le, hc1⟩
          have e : ((⟨L.set b (.cells (.hsl L.length 0 n cap ex :: .int .i64 0 :: .int .i8 0 :: rest) T) ++ [.cells (new ++ zs) 5], ts⟩ : S).set L.length (.cells ((new ++ zs).take n) 5)).set b (.cells (.hsl L.length 0 n n (.grow 1) :: .int .i64 0 :: .int .i8 0 :: rest) T) =
              ⟨L.set b (.cells (.hsl L.length 0 n n (.grow 1) :: .int .i64 0 :: .int .i8 0 :: rest) T) ++ [.cells new 5], ts⟩ := by
            simp only [S.set, S.mk.injEq, and_true]
            rw [set_last, B.set_app2 hbl, List.take_left' hnl]
          rw [e] at m2
          exact m2
        by_cases h64 : n ≤ 64
        · exact key 64 .exact _ (.inr (.inr ⟨rfl, by rw [List.length_append, List.length_replicate]; omega, by unfold maxLen; decide⟩)) h64 (B.write_small b n lr rest T new y (by omega) h64 L ts hb hyl hy hr hcell)
        · have := B.write_grow b 0 n 0 .nilsl lr rest T [] new y hv (Nat.le_refl _) (by omega) (by omega) (by omega) (fun _ => by omega) rfl L ts hb (fun o X => rfl) hyl hy hr hcell
          simp only [Nat.zero_add, List.nil_append] at this
          exact key (B.gz 0 n 0) (.grow 1) _ (.inl rfl) (by have := B.gz_le 0 n 0; omega) this
      · simp at h
  · rename_i k off len cap ex
    split at h
    · rename_i cs t hk
      split at h
      · rename_i hcond
        obtain ⟨rfl, rfl, rfl, hbk, hlc, hlen, h38, hcellk⟩ := hcond
        have hcellk : (cs.take len).all V.isCell = true := by simpa using hcellk
        -- the slice's true end
        obtain ⟨cb, xb, g1, g2, g3, g4⟩ := hw.obj hb
        have hcap : ∃ c' , len ≤ c' ∧ cap ≤ c' ∧ c' ≤ maxLen ∧ ∀ x, VRel Γ (.hsl k 0 len cap (.grow 1)) x → x = xb[0]! → VRel Γ (.hsl k 0 len c' (.both 1)) x := by
          have h0 := g4 0 (by simp) (by simp at g3; omega)
          simp only [List.getElem_cons_zero] at h0
          have hsz : 0 < xb.size := by simp at g3; omega
          cases hxx : xb[0] with
          | slice p l c' =>
            rw [hxx] at h0
            cases h0 with
            | hsl _ _ _ _ _ cc _ hblk hcc =>
              refine ⟨c', by have := hcc.1; omega, hcc.1, hcc.2.2, fun x hx2 hx3 => ?_⟩
              have e : x = .slice (some ⟨cc, 0, none⟩) len c' := by rw [hx3, getElem!_pos xb 0 hsz, hxx]
              subst e
              exact .hsl _ _ _ _ _ cc c' hblk ⟨Nat.le_refl _, rfl, hcc.2.1⟩
          | _ => rw [hxx] at h0; cases h0
        obtain ⟨c', hlc', hcapc, hcm, hre⟩ := hcap
        have mr : Moved Γ Γ ⟨L.set b (.cells (.hsl k 0 len c' (.both 1) :: .int .i64 0 :: .int .i8 lr :: rest) T), ts⟩ w w := by
          refine hw.resay hb g1 g2 (by simpa using g3) fun i hi hi2 => ?_
          cases i with
          | zero => exact hre _ (g4 0 (by simp) hi2) (by rw [getElem!_pos xb 0 hi2])
          | succ i => exact g4 (i + 1) (by simpa using hi) hi2
        have hc64 : c' ≤ 9223372036854775807 := Nat.le_trans hcm max64
        have hb' : (L.set b (.cells (.hsl k 0 len c' (.both 1) :: .int .i64 0 :: .int .i8 lr :: rest) T))[b]? = some (.cells (.hsl k 0 len c' (.both 1) :: .int .i64 0 :: .int .i8 lr :: rest) T) := List.getElem?_set_self hbl
        have hk' : ∀ o, (L.set b o)[k]? = some (.cells cs 5) := fun o => by rw [List.getElem?_set_ne hbk]; exact hk
        have hr' : ∀ o o2 X, vCells ((L.set b o).set b o2 ++ X) 1 n y = some new := fun o o2 X => by rw [List.set_set]; exact hr o2 X
        have hbl' : ∀ o, b < (L.set b o).length := fun o => by simpa using hbl
        split at h
        · rename_i h0
          subst h0
          have hn0 : new = [] := List.eq_nil_of_length_eq_zero hnl
          subst hn0
          simp only [Option.some.injEq, Prod.mk.injEq] at h
          obtain ⟨rfl, rfl⟩ := h
          obtain ⟨Γ1, w1, r, m1, hr1, hc1⟩ := b_sound (B.write_zero b len c' _ lr rest T y (.inr ⟨k, rfl⟩) hlc' hc64 _ ts hb' hyl hy (hr' _)) mr.rel hx
          rw [List.set_set] at m1
          have m2 := m1.rel.head (a := b) (u := .hsl k 0 len cap (.grow 1)) (List.getElem?_set_self hbl) (fun x hx2 => by
            cases hx2 with
            | hsl _ _ _ _ _ cc c2 hblk hcc =>
              obtain ⟨h1, rfl, h3⟩ := hcc
              exact .hsl _ _ _ _ _ cc _ hblk ⟨hcapc, h3, hcm⟩)
          simp only [S.set, List.set_set] at m2
          exact ⟨Γ1, w1, r, (mr.trans m1).trans m2, hr1.mono m2.le, hc1⟩
        · rename_i h0
          simp only [Option.some.injEq, Prod.mk.injEq] at h
          obtain ⟨rfl, rfl⟩ := h
          by_cases hfit : len + n ≤ c'
          · obtain ⟨Γ1, w1, r, m1, hr1, hc1⟩ := b_sound (B.write_room b k len c' n lr rest T 5 cs new y (by omega) hfit hc64 hbk _ ts hb' (hk' _) hlen hyl hy (hr' _) hcell) mr.rel hx
            rw [List.set_set] at m1
            obtain ⟨Γ2, m2⟩ := m1.rel.blur (k := len + n) (b := b) (j := k) (T := T) (t := 5) (cap := c') (ex := .both 1) (bs := .int .i64 0 :: .int .i8 0 :: rest) (cs := cs.take len ++ new ++ cs.drop (len + n))
              (by show ((L.set b _).set k _)[b]? = _; rw [List.getElem?_set_ne (Ne.symm hbk)]; exact List.getElem?_set_self hbl) (by show ((L.set b _).set k _)[k]? = _; exact List.getElem?_set_self (by simpa using B.lt_get hk)) hbk hfit (.inr (.inl ⟨rfl, hcm⟩))
            have etake : (cs.take len ++ new ++ cs.drop (len + n)).take (len + n) = cs.take len ++ new := List.take_left' (by rw [List.length_append, List.length_take, hnl]; omega)
            rw [etake] at m2
            simp only [S.set] at m2
            rw [List.set_set, List.set_comm _ _ (Ne.symm hbk), List.set_set] at m2
            have hk2 : ((L.set b (.cells (.hsl k 0 (len + n) (len + n) (.grow 1) :: .int .i64 0 :: .int .i8 0 :: rest) T)).set k (.cells (cs.take len ++ new) 5))[k]? = some (.cells (cs.take len ++ new) 5) := List.getElem?_set_self (by simpa using B.lt_get hk)
            obtain ⟨ck, xk, k1, k2, k3, k4⟩ := m2.rel.obj hk2
            have m3 := m2.rel.rename (o := .cells (cs.take len ++ new) 5) (Upd.refl k2) k1 hk2 rfl ⟨rfl, rfl, k3, k4⟩ (fun xs' t' f' e => by rw [k2] at e; cases e; exact ⟨_, _, _, rfl, rfl⟩)
            have m4 := m3.rel.head (a := b) (v := .hsl k 0 (len + n) (len + n) (.grow 1)) (u := .hsl L.length 0 (len + n) (len + n) (.grow 1)) (cs := .int .i64 0 :: .int .i8 0 :: rest) (t := T)
              (by
                show (((L.set b _).set k _).set k _ ++ [_])[b]? = _
                rw [List.getElem?_append_left (by simpa using hbl), List.getElem?_set_ne (Ne.symm hbk), List.getElem?_set_ne (Ne.symm hbk)]
                exact List.getElem?_set_self hbl) (fun x hx2 => by
              cases hx2 with
              | hsl _ _ _ _ _ cc c2 hblk hcc =>
                have hkl := B.lt_get hk
                have e1 : cc = ck := by
                  simp only [Ctx.push, List.length_set] at hblk
                  rw [if_neg (by omega), k1] at hblk
                  cases hblk; rfl
                subst e1
                exact .hsl _ _ _ _ _ cc _ (by simp [Ctx.push]) hcc)
            have hkl := B.lt_get hk
            have e : ((((⟨(L.set b (.cells (.hsl k 0 (len + n) (len + n) (.grow 1) :: .int .i64 0 :: .int .i8 0 :: rest) T)).set k (.cells (cs.take len ++ new) 5), ts⟩ : S).set k .dead).push (.cells (cs.take len ++ new) 5)).set b (.cells (.hsl L.length 0 (len + n) (len + n) (.grow 1) :: .int .i64 0 :: .int .i8 0 :: rest) T)) =
                ⟨(L.set b (.cells (.hsl L.length 0 (len + n) (len + n) (.grow 1) :: .int .i64 0 :: .int .i8 0 :: rest) T)).set k .dead ++ [.cells (cs.take len ++ new) 5], ts⟩ := by
              simp only [S.set, S.push, S.mk.injEq, and_true]
              rw [List.set_append_left _ _ (by simpa using hbl), List.set_set, List.set_comm _ _ (Ne.symm hbk), List.set_set]
            have m5 := (mr.trans m1).trans (m2.trans (m3.trans m4))
            rw [show ((((⟨(L.set b (.cells (.hsl k 0 (len + n) (len + n) (.grow 1) :: .int .i64 0 :: .int .i8 0 :: rest) T)).set k (.cells (cs.take len ++ new) 5), ts⟩ : S).set k .dead).push (.cells (cs.take len ++ new) 5)).set b (.cells (.hsl L.length 0 (len + n) (len + n) (.grow 1) :: .int .i64 0 :: .int .i8 0 :: rest) T)) = _ from e] at m5
            exact ⟨_, w1, r, m5, hr1.mono (m2.le.trans (m3.le.trans m4.le)), hc1⟩
          · obtain ⟨Γ1, w1, r, m1, hr1, hc1⟩ := b_sound (B.write_grow b len n c' _ lr rest T (cs.take len) new y (.inr ⟨k, rfl⟩) hlc' (by omega) (by omega) h38 (fun e => by cases e) hcellk _ ts hb' (fun o X => by
              rw [List.set_set]
              have : (L.set b o ++ X)[k]? = some (.cells cs 5) := B.get_appl (hk' o) X
              simp [vCells, this, hlen]) hyl hy (hr' _) hcell) mr.rel hx
            rw [List.set_set, List.length_set] at m1
            have hlL : ∀ o, L.length = (L.set b o).length := fun o => by simp
            obtain ⟨Γ2, m2⟩ := m1.rel.blur (k := len + n) (b := b) (j := L.length) (T := T) (t := 5) (bs := .int .i64 0 :: .int .i8 0 :: rest) (cs := cs.take len ++ new ++ List.replicate (B.gz len n c' - (len + n)) (.int .u8 0)) (B.get_set hbl _ _) (get_last L b _ _) (by omega) (B.gz_le len n c') (.inl rfl)
            have etake : (cs.take len ++ new ++ List.replicate (B.gz len n c' - (len + n)) (V.int .u8 0)).take (len + n) = cs.take len ++ new := List.take_left' (by rw [List.length_append, List.length_take, hnl]; omega)
            rw [etake] at m2
            have hkl := B.lt_get hk
            have e : ((⟨L.set b (.cells (.hsl L.length 0 (len + n) (B.gz len n c') (.grow 1) :: .int .i64 0 :: .int .i8 0 :: rest) T) ++ [.cells (cs.take len ++ new ++ List.replicate (B.gz len n c' - (len + n)) (.int .u8 0)) 5], ts⟩ : S).set L.length (.cells (cs.take len ++ new) 5)).set b (.cells (.hsl L.length 0 (len + n) (len + n) (.grow 1) :: .int .i64 0 :: .int .i8 0 :: rest) T) =
                ⟨L.set b (.cells (.hsl L.length 0 (len + n) (len + n) (.grow 1) :: .int .i64 0 :: .int .i8 0 :: rest) T) ++ [.cells (cs.take len ++ new) 5], ts⟩ := by
              simp only [S.set, S.mk.injEq, and_true]
              rw [set_last, B.set_app2 hbl]
            rw [e] at m2
            have m3 := m2.rel.kill (a := k) (cs := cs) (t := 5) (B.get_appl (hk' _) _)
            simp only [S.set] at m3
            rw [List.set_append_left _ _ (by simpa using hkl)] at m3
            exact ⟨Γ2, w1, r, (mr.trans m1).trans (m2.trans m3), hr1.mono (m2.le.trans m3.le), hc1⟩
      · simp at h
    · simp at h
  · simp at h
theorem bufW_sound {args : List V} {σ σ' : S} {v : V} (h : bufW args σ = some (v, σ')) {Γ : Ctx} {w : World} {xs : Array Value} (hw : WRel Γ σ w) (hx : LRel Γ args xs) : ∃ Γ' w' r, Moved Γ Γ' σ' w w' ∧ VRel Γ' v r ∧ CallsV Tryd.prog 50 xs w r w' := by
  obtain ⟨L, ts⟩ := σ
  unfold bufW at h
  split at h
  · rename_i b off y
    split at h
    · rename_i buf o lr rest T hb
      split at h
      · rename_i n hy
        simp only [Option.bind_eq_some_iff] at h
        obtain ⟨new, hc, h⟩ := h
        split at h
        · rename_i hcond
          obtain ⟨rfl, rfl, hs, hcell⟩ := hcond
          exact bufP_sound hb hy hc hs hcell h hw hx
        · simp at h
      · simp at h
    · simp at h
  · simp at h
theorem bufW_eq {b n : Nat} {T : TypeId} {new rest : List V} {buf y : V} {lr : Int} {L : List AObj} {ts : List Nat} (hb : L[b]? = some (.cells (buf :: .int .i64 0 :: .int .i8 lr :: rest) T)) (hy : vLen y = some n) (hc : vCells L 1 n y = some new) (hs : srcOK b y = true) (hcell : new.all V.isCell = true) :
    bufW [.ptr b 0, y] ⟨L, ts⟩ = bufP b T n new buf rest L ts := by
  simp only [bufW, hb, hy, hc, Option.bind_some, hs, hcell, and_self, if_true]
end Go.Proofs.YtncohjljeoknkaaDoor
