/- Proved here: what a builder and the signs do. Conditions: those of each theorem; no statement of the seat is proved in this text. -/
import Derived.Test.YtbikmhpobflfeaaDoorEnvJ
namespace Go.Proofs.YtbikmhpobflfeaaDoor
open Go.Ab
set_option maxRecDepth 100000
set_option linter.unusedSimpArgs false
set_option linter.unusedVariables false
theorem u3 : env.P.underlying 3 = some (.int .i64) := by kernel_rfl
theorem u5 : env.P.underlying 5 = some (.int .u8) := by kernel_rfl
theorem u9 : env.P.underlying 9 = some .string := by kernel_rfl
theorem u24 : env.P.underlying 24 = some (.slice 9) := by kernel_rfl
theorem u45 : env.P.underlying 45 = some (.slice 52) := by kernel_rfl
theorem u97 : env.P.underlying 97 = some (.slice 5) := by kernel_rfl
theorem u108 : env.P.underlying 108 = some (.pointer 110) := by kernel_rfl
theorem u147 : env.P.underlying 147 = some .unsafePointer := by kernel_rfl
theorem tys : env.P.underlying 3 = some (.int .i64) ∧ env.P.underlying 4 = some .bool ∧ env.P.underlying 5 = some (.int .u8) ∧ env.P.underlying 9 = some .string ∧ env.P.underlying 24 = some (.slice 9) ∧ env.P.underlying 45 = some (.slice 52) ∧ env.P.underlying 97 = some (.slice 5) ∧
    sz env 9 = some 1 ∧ sz env 24 = some 1 ∧ sz env 3 = some 1 ∧ sz env 5 = some 1 ∧ sz env 52 = some 4 ∧ sz env 97 = some 1 ∧ sz env 108 = some 1 ∧ sz env 110 = some 2 ∧
    fldOff env 52 0 = some 0 ∧ fldOff env 52 1 = some 1 ∧ fldOff env 110 0 = some 0 ∧ fldOff env 110 1 = some 1 ∧
    (∀ h p, aload env h 9 p = (loadCellsV h 1 p).bind (·[0]?)) ∧ (∀ h p, aload env h 3 p = (loadCellsV h 1 p).bind (·[0]?)) ∧ (∀ h p, aload env h 97 p = (loadCellsV h 1 p).bind (·[0]?)) ∧ (∀ h p, aload env h 108 p = (loadCellsV h 1 p).bind (·[0]?)) := by
  have g9 : aggT env 9 = some false := by kernel_rfl
  have g3 : aggT env 3 = some false := by kernel_rfl
  have g97 : aggT env 97 = some false := by kernel_rfl
  have g108 : aggT env 108 = some false := by kernel_rfl
  exact ⟨u3, by kernel_rfl, u5, u9, u24, u45, u97, by kernel_rfl, by kernel_rfl, by kernel_rfl, by kernel_rfl, by kernel_rfl, by kernel_rfl, by kernel_rfl, by kernel_rfl, by kernel_rfl, by kernel_rfl, by kernel_rfl, by kernel_rfl,
    fun _ _ => aload_one g9, fun _ _ => aload_one g3, fun _ _ => aload_one g97, fun _ _ => aload_one g108⟩
theorem agg52 (h : List AObj) (p : V) : aload env h 52 p = (loadCellsV h 4 p).map .agg := by
  unfold aload
  rw [show aggT env 52 = some true by kernel_rfl, show sz env 52 = some 4 by kernel_rfl]
  rfl
theorem z52 : zeroV env 52 = some (.agg [.int .i64 0, .str [], .int .i64 0, .int .i64 0]) := by kernel_rfl
theorem z110 : zeroV env 110 = some (.agg [.nilptr, .nilsl]) := by kernel_rfl
theorem mb (f : FuncId) (r : Nat) (h : (f == 82 || f == 83 || f == 136) = false) : env.mutb f r = false := h
theorem stb (f : FuncId) (r : Nat) (h : (f == 35 && r == 9 || f == 75 && r == 28 || f == 56 && r == 6) = false) : env.stab f r = false := h
theorem at115 : env.P.funcs[115]? = some Tryd.f115 := by kernel_rfl
theorem at82 : env.P.funcs[82]? = some Tryd.f82 := by kernel_rfl
theorem at83 : env.P.funcs[83]? = some Tryd.f83 := by kernel_rfl
theorem at84 : env.P.funcs[84]? = some Tryd.f84 := by kernel_rfl
theorem set_same {σ : S} {p : Nat} {o : AObj} (h : σ.heap[p]? = some o) : σ.set p o = σ := by
  obtain ⟨L, ts⟩ := σ
  simp only [S.set, S.mk.injEq, and_true]
  apply List.ext_getElem?
  intro i
  rw [List.getElem?_set]
  split
  · rename_i e; subst e
    simp only at h
    rw [h]
    have := (List.getElem?_eq_some_iff.1 h).1
    simp [this]
  · rfl
theorem conv_up {σ : S} {p : Nat} {a v : V} (h : σ.heap[p]? = some (.cells [a, v] 110)) : convO env σ 108 147 (some (.pointer 110)) (some .unsafePointer) (.ptr p 0) = some (.ptr p 0, σ) := by
  simp [convO, convP, convR, vUnsafe, h, tys]
theorem cells110 : env.P.cellsOf 110 = 2 := by kernel_rfl
theorem conv_down {σ : S} {p : Nat} {a v : V} (h : σ.heap[p]? = some (.cells [a, v] 110)) : convO env σ 147 108 (some .unsafePointer) (some (.pointer 110)) (.ptr p 0) = some (.ptr p 0, σ) := by
  simp [convO, convP, convR, vUnsafe, h, cells110]
theorem esc_call (v : V) (σ : S) : callFn env (ev env) 130 [v] σ = some (v, σ) := rfl
theorem eq_nilptr (c : Bool) : binO env 108 c .eql (some .nilptr) (some .nilptr) = some (.bool true) := by
  show vBinE env 108 c .eql .nilptr .nilptr = _
  rw [vBinE_of (by rfl), u108]; rfl
theorem eq_ptrnil (c : Bool) (b o : Nat) : binO env 108 c .eql (some (.ptr b o)) (some .nilptr) = some (.bool false) := by
  show vBinE env 108 c .eql (.ptr b o) .nilptr = _
  rw [vBinE_of (by rfl), u108]; rfl
theorem ne_same (c : Bool) (b o : Nat) : binO env 108 c .neq (some (.ptr b o)) (some (.ptr b o)) = some (.bool false) := by
  show vBinE env 108 c .neq (.ptr b o) (.ptr b o) = _
  unfold vBinE
  rw [u108]
  show vBinA env 108 .neq (.ptr b o) (.ptr b o) = _
  simp [vBinA, samePtr, u108, tys]
theorem cells_ptr (b o : Nat) : (V.ptr b o).cells = [.ptr b o] := rfl
theorem isCell_ptr (b o : Nat) : (V.ptr b o).isCell = true := rfl
theorem check1_call (L : List AObj) (ts : List Nat) (p : Nat) (v : V) (hp : L[p]? = some (.cells [.nilptr, v] 110)) : callFn env (ev env) 115 [.ptr p 0] ⟨L, ts⟩ = some (.tup [], ⟨L.set p (.cells [.ptr p 0, v] 110), ts⟩) := by
  refine callFn_eq rfl rfl at115 rfl (by simp [Tryd.f115]) (by simp [Tryd.f115]) (G_start ?_)
  simp -implicitDefEqProofs only [Tryd.f115, Zaa, Zab, Zac, Zad, Zae, Zaf, Zag, Zah, Zai, Zaj, Zak, Zal, Zam, Zan, Zao, Zap, Zaq, Zar, Zas, Zat, Zau, Zav, Zaw, Zax, Zay, Zaz, Zba, Zbb, Zbc, Zbd, Zbe, Zbf, Zbg, Zbh, Zbi, Zbj, Zbk, Zbl, Zbm, Zbn, Zbo, Zbp, Zbq, Zbr, Zbs, Zbt, Zbu, Zbv, Zbw, Zbx, Zby, Zbz, Zca, Zcb, Zcc, Zcd, Zce, Zcf, Zcg, evalT, Zch, Nat.reduceLT, Nat.reduceEqDiff, if_true, if_false, reduceIte, true_and, Zci, Zcj, map_ite', Zck, bind_ite', Zcl, Zcm, Zcn, Zco, Zcp, Zcq, Zcr, Zcs, Zct, Zcu, Zcv, Zcw, Zcx, Zcy, Zcz, Zda, Zdb, Zdc, Zdd, Zde, Zdf, Zdg, ofVal, ofCell, argT, List.getD_cons_zero, List.getD_cons_succ, List.getElem?_toArray, List.getElem?_cons_zero, List.getElem?_cons_succ, List.nil_append, List.cons_append, List.append_nil, resT, Zdh, Zdi, Nat.mul_one, Zdj, Zdk, Zdl, Zdm, Zdn, Zdo, Zdp, Zdq, Zdr, Zds, Zdt, setT, Zdu, Zdv, Zdw, Zdx, Zdy, List.append_eq, Zdz, Zea, Zeb, Zec, Zed, Zee, Zef, Zeg, Zeh, Nat.add_zero, Zei, Zej, Zek, Zel, Zem, Zen, Int.toNat_natCast, Bool.false_eq_true, Int.reduceEq, Int.reduceLT, Int.reduceLE, Int.reduceNeg, not_false_eq_true, and_self, Zeo, Zep, Int.natCast_one, Int.cast_ofNat_Int, not_true_eq_false, decide_true, decide_false, true_implies, false_implies, Int.toNat_zero, List.length_cons, List.length_nil, Nat.zero_add, mb, Nat.reduceBEq, Bool.false_and, Bool.and_false, Zeq, tys, stb, Zer, Zes, Zet, Zeu, Zev, Zew, Bool.or_false, Bool.false_or, Bool.true_and, Bool.or_true, Bool.true_or, Zex, Zey, opT_nilCheck, nilO_ptr, hp, eq_nilptr, u108, u147, conv_up (σ := ⟨L, ts⟩) hp, conv_down (σ := ⟨L, ts⟩) hp, esc_call, cells_ptr, isCell_ptr, storeList, List.take_zero, List.take_succ_cons, List.drop_zero, List.drop_succ_cons, List.drop_nil, List.all_cons, List.all_nil, List.set_cons_zero, List.set_cons_succ, cells_hsl, isCell_hsl, Nat.reduceAdd, Nat.reduceLeDiff, oneOr]
theorem check2_call (L : List AObj) (ts : List Nat) (p : Nat) (v : V) (hp : L[p]? = some (.cells [.ptr p 0, v] 110)) : callFn env (ev env) 115 [.ptr p 0] ⟨L, ts⟩ = some (.tup [], ⟨L, ts⟩) := by
  refine callFn_eq rfl rfl at115 rfl (by simp [Tryd.f115]) (by simp [Tryd.f115]) (G_start ?_)
  simp -implicitDefEqProofs only [Tryd.f115, Zaa, Zab, Zac, Zad, Zae, Zaf, Zag, Zah, Zai, Zaj, Zak, Zal, Zam, Zan, Zao, Zap, Zaq, Zar, Zas, Zat, Zau, Zav, Zaw, Zax, Zay, Zaz, Zba, Zbb, Zbc, Zbd, Zbe, Zbf, Zbg, Zbh, Zbi, Zbj, Zbk, Zbl, Zbm, Zbn, Zbo, Zbp, Zbq, Zbr, Zbs, Zbt, Zbu, Zbv, Zbw, Zbx, Zby, Zbz, Zca, Zcb, Zcc, Zcd, Zce, Zcf, Zcg, evalT, Zch, Nat.reduceLT, Nat.reduceEqDiff, if_true, if_false, reduceIte, true_and, Zci, Zcj, map_ite', Zck, bind_ite', Zcl, Zcm, Zcn, Zco, Zcp, Zcq, Zcr, Zcs, Zct, Zcu, Zcv, Zcw, Zcx, Zcy, Zcz, Zda, Zdb, Zdc, Zdd, Zde, Zdf, Zdg, ofVal, ofCell, argT, List.getD_cons_zero, List.getD_cons_succ, List.getElem?_toArray, List.getElem?_cons_zero, List.getElem?_cons_succ, List.nil_append, List.cons_append, List.append_nil, resT, Zdh, Zdi, Nat.mul_one, Zdj, Zdk, Zdl, Zdm, Zdn, Zdo, Zdp, Zdq, Zdr, Zds, Zdt, setT, Zdu, Zdv, Zdw, Zdx, Zdy, List.append_eq, Zdz, Zea, Zeb, Zec, Zed, Zee, Zef, Zeg, Zeh, Nat.add_zero, Zei, Zej, Zek, Zel, Zem, Zen, Int.toNat_natCast, Bool.false_eq_true, Int.reduceEq, Int.reduceLT, Int.reduceLE, Int.reduceNeg, not_false_eq_true, and_self, Zeo, Zep, Int.natCast_one, Int.cast_ofNat_Int, not_true_eq_false, decide_true, decide_false, true_implies, false_implies, Int.toNat_zero, List.length_cons, List.length_nil, Nat.zero_add, mb, Nat.reduceBEq, Bool.false_and, Bool.and_false, Zeq, tys, stb, Zer, Zes, Zet, Zeu, Zev, Zew, Bool.or_false, Bool.false_or, Bool.true_and, Bool.or_true, Bool.true_or, Zex, Zey, opT_nilCheck, nilO_ptr, hp, eq_ptrnil, ne_same, u108, u147, cells_ptr, isCell_ptr, storeList, List.take_zero, List.take_succ_cons, List.drop_zero, List.drop_succ_cons, List.drop_nil, List.all_cons, List.all_nil, List.set_cons_zero, List.set_cons_succ, cells_hsl, isCell_hsl, Nat.reduceAdd, Nat.reduceLeDiff, oneOr]
end Go.Proofs.YtbikmhpobflfeaaDoor

namespace Go.Proofs.YtbikmhpobflfeaaDoor
open Go.Ab
set_option maxRecDepth 100000
set_option linter.unusedSimpArgs false
set_option linter.unusedVariables false
/-- the buffer of a builder -/
def Buf (h : List AObj) (p : Nat) (v : V) (s : List UInt8) : Prop :=
  (v = .nilsl ∧ s = []) ∨ ∃ b, v = .hsl b 0 s.length s.length (.grow 1) ∧ h[b]? = some (.cells (byteCells s) 5) ∧ b ≠ p ∧ s ≠ []
/-- a builder -/
def Bld (σ : S) (p : Nat) (s : List UInt8) : Prop := ∃ a v, σ.heap[p]? = some (.cells [a, v] 110) ∧ ((a = .nilptr ∧ s = []) ∨ a = .ptr p 0) ∧ Buf σ.heap p v s
/-- tokens stay -/
def Keeps (σ σ' : S) : Prop := ∀ (q : Nat) (cs : List V), σ.heap[q]? = some (.cells cs 52) → σ'.heap[q]? = some (.cells cs 52)
theorem Buf.cells {h : List AObj} {p : Nat} {v : V} {s : List UInt8} (hb : Buf h p v s) : v.cells = [v] ∧ v.isCell = true := by
  rcases hb with ⟨rfl, _⟩ | ⟨b, rfl, _⟩ <;> exact ⟨rfl, rfl⟩
theorem byteCells_app (a b : List UInt8) : byteCells (a ++ b) = byteCells a ++ byteCells b := by simp [byteCells]
theorem byteCells_len (a : List UInt8) : (byteCells a).length = a.length := by simp [byteCells]
theorem byteCells_cell (a : List UInt8) : (byteCells a).all V.isCell = true := by simp [byteCells, V.isCell]
theorem e97 : elemS env 97 = some 5 := by kernel_rfl
theorem b5 : bys env 5 = some 1 := by kernel_rfl
theorem zn5 : zeroN env 5 = some 1 := by kernel_rfl
/-- append(v, bytes..) -/
theorem app_core (L : List AObj) (ts : List Nat) (p : Nat) (v : V) (s new : List UInt8) (hb : Buf L p v s) (hn : new ≠ []) (hl : s.length + new.length ≤ 2 ^ 30) (hpl : p < L.length) :
    ∃ L', aappend true 1 1 new.length 5 (byteCells new) v ⟨L, ts⟩ = some (.hsl L.length 0 (s ++ new).length (s ++ new).length (.grow 1), ⟨L', ts⟩) ∧ L'[L.length]? = some (.cells (byteCells (s ++ new)) 5) ∧ L'[p]? = L[p]? ∧
      (∀ (q : Nat) (cs : List V), L[q]? = some (.cells cs 52) → L'[q]? = some (.cells cs 52)) := by
  have hlim : lim = 2 ^ 40 := rfl
  have hn1 : ¬ new.length = 0 := fun h => hn (List.eq_nil_of_length_eq_zero h)
  rcases hb with ⟨rfl, rfl⟩ | ⟨b, rfl, hbL, hbp, hs⟩
  · refine ⟨L ++ [.cells (byteCells new) 5], ?_, by simp, by rw [List.getElem?_append_left hpl], fun q cs hq => get_app hq _⟩
    have h1 : new.length * 1 ≤ lim ∧ new.length ≤ lim := by rw [hlim]; omega
    simp only [aappend, hn1, if_false, h1, and_self, if_true, S.push, List.nil_append]
  · have hs1 : s.length ≠ 0 := fun h => hs (List.eq_nil_of_length_eq_zero h)
    have hblt := lt_of_get hbL
    refine ⟨(L.set b .dead) ++ [.cells (byteCells (s ++ new)) 5], ?_, by simp, ?_, fun q cs hq => ?_⟩
    · have h1 : ¬ s.length + new.length ≤ s.length := by omega
      have h2 : (s.length + new.length) * 1 ≤ lim ∧ s.length + new.length ≤ lim := by rw [hlim]; omega
      have htk : List.take s.length (byteCells s) = byteCells s := List.take_of_length_le (by rw [byteCells_len]; omega)
      simp [aappend, h1, h2, byteCells_cell, hbL, byteCells_len, htk, S.push, S.set, byteCells_app]
    · rw [List.getElem?_append_left (by simpa using hpl), List.getElem?_set_ne hbp]
    · have hne : b ≠ q := by rintro rfl; rw [hbL] at hq; cases hq
      rw [List.getElem?_append_left (by simpa using lt_of_get hq), List.getElem?_set_ne hne]; exact hq
theorem app_bytes (L : List AObj) (ts : List Nat) (p : Nat) (v : V) (s : List UInt8) (c : UInt8) (b : Nat) (hb : Buf L p v s) (hl : s.length + 1 ≤ 2 ^ 30) (hpl : p < L.length) (hc : L[b]? = some (.cells [.int .u8 c.toNat] 5)) :
    ∃ L', appO env true ⟨L, ts⟩ 97 97 v (.hsl b 0 1 1 .exact) = some (.hsl L.length 0 (s ++ [c]).length (s ++ [c]).length (.grow 1), ⟨L', ts⟩) ∧ L'[L.length]? = some (.cells (byteCells (s ++ [c])) 5) ∧ L'[p]? = L[p]? ∧
      (∀ (q : Nat) (cs : List V), L[q]? = some (.cells cs 52) → L'[q]? = some (.cells cs 52)) := by
  obtain ⟨L', h1, h2⟩ := app_core L ts p v s [c] hb (by simp) (by simpa using hl) hpl
  refine ⟨L', ?_, h2⟩
  unfold appO
  simp only [e97, tys, b5, zn5, Option.bind_some, vLen, vCells, hc, if_true]
  simpa [byteCells] using h1
theorem app_str (L : List AObj) (ts : List Nat) (p : Nat) (v : V) (s new : List UInt8) (hb : Buf L p v s) (hn : new ≠ []) (hl : s.length + new.length ≤ 2 ^ 30) (hpl : p < L.length) :
    ∃ L', appO env true ⟨L, ts⟩ 97 9 v (.str new) = some (.hsl L.length 0 (s ++ new).length (s ++ new).length (.grow 1), ⟨L', ts⟩) ∧ L'[L.length]? = some (.cells (byteCells (s ++ new)) 5) ∧ L'[p]? = L[p]? ∧
      (∀ (q : Nat) (cs : List V), L[q]? = some (.cells cs 52) → L'[q]? = some (.cells cs 52)) := by
  obtain ⟨L', h1, h2⟩ := app_core L ts p v s new hb hn hl hpl
  refine ⟨L', ?_, h2⟩
  have hv : vCells L 1 new.length (.str new) = some (byteCells new) := by simp [vCells, byteCells]
  unfold appO
  simp only [e97, tys, b5, zn5, Option.bind_some, vLen, hv, if_true]
  exact h1
theorem app_str0 (L : List AObj) (ts : List Nat) (p : Nat) (v : V) (s : List UInt8) (hb : Buf L p v s) : appO env true ⟨L, ts⟩ 97 9 v (.str []) = some (v, ⟨L, ts⟩) := by
  have hv : vCells L 1 0 (.str []) = some [] := by simp [vCells]
  unfold appO
  simp only [e97, tys, b5, zn5, Option.bind_some, vLen, List.length_nil, hv, if_true]
  rcases hb with ⟨rfl, rfl⟩ | ⟨b, rfl, hbL, hbp, hs⟩
  · simp [aappend]
  · simp [aappend]
theorem build_m {T : Tm} (L : List AObj) (ts : List Nat) (x : Operand) : opT env true T ⟨L, ts⟩ (.buildSlice 97 1 #[(0, x)]) = (evalT env T x).bind fun v => if v.cells.length = 1 then some (.hsl L.length 0 1 1 .exact, ⟨L ++ [.cells v.cells 5], ts⟩) else none := by
  obtain ⟨z, hz, hl⟩ : ∃ z, zeroV env 5 = some z ∧ z.cells.length = 1 := ⟨.int .u8 0, by kernel_rfl, rfl⟩
  unfold opT
  simp only [apure, aread, astate, partsO]
  cases evalT env T x with
  | none => rfl
  | some v =>
    simp only [Option.map_some, Option.bind_some, e97, tys, hz]
    by_cases hv : v.cells.length = 1
    · have : z.cells.tail = [] := List.eq_nil_of_length_eq_zero (by simp [hl])
      simp [vFill, hl, hv, this, S.push, env]
    · simp [vFill, hv]
theorem mb82 (r : Nat) : env.mutb 82 r = true := rfl
theorem mb83 (r : Nat) : env.mutb 83 r = true := rfl
theorem check_call (L : List AObj) (ts : List Nat) (p : Nat) (s : List UInt8) (h : Bld ⟨L, ts⟩ p s) : ∃ L' v, callFn env (ev env) 115 [.ptr p 0] ⟨L, ts⟩ = some (.tup [], ⟨L', ts⟩) ∧ L'[p]? = some (.cells [.ptr p 0, v] 110) ∧ Buf L' p v s ∧ L'.length = L.length ∧ Keeps ⟨L, ts⟩ ⟨L', ts⟩ := by
  obtain ⟨a, v, hp, ha, hb⟩ := h
  simp only at hp hb
  have hlt := lt_of_get hp
  rcases ha with ⟨rfl, rfl⟩ | rfl
  · refine ⟨L.set p (.cells [.ptr p 0, v] 110), v, check1_call L ts p v hp, by simp [hlt], ?_, by simp, fun q cs hq => ?_⟩
    · rcases hb with h | ⟨b, _, _, _, h⟩
      · exact .inl h
      · exact absurd rfl h
    · have hne : p ≠ q := by rintro rfl; simp only at hq; rw [hp] at hq; cases hq
      simp only at hq ⊢
      rw [List.getElem?_set_ne hne]; exact hq
  · exact ⟨L, v, check2_call L ts p v hp, hp, hb, rfl, fun q cs hq => hq⟩
theorem wbyte_call (L : List AObj) (ts : List Nat) (p : Nat) (s : List UInt8) (c : UInt8) (h : Bld ⟨L, ts⟩ p s) (hl : s.length + 1 ≤ 2 ^ 30) :
    ∃ L', callFn env (ev env) 82 [.ptr p 0, .int .u8 c.toNat] ⟨L, ts⟩ = some (.nilif, ⟨L', ts⟩) ∧ Bld ⟨L', ts⟩ p (s ++ [c]) ∧ Keeps ⟨L, ts⟩ ⟨L', ts⟩ := by
  obtain ⟨L1, v, hc, hp, hb, hlen, hk⟩ := check_call L ts p s h
  have hplt := lt_of_get hp
  have hb2 : Buf (L1 ++ [.cells [.int .u8 c.toNat] 5]) p v s := by
    rcases hb with h | ⟨b, h1, h2, h3⟩
    · exact .inl h
    · exact .inr ⟨b, h1, get_app h2 _, h3⟩
  obtain ⟨L2, ha, h1, h2, h3⟩ := app_bytes (L1 ++ [.cells [.int .u8 c.toNat] 5]) ts p v s c L1.length hb2 hl (by simp; omega) (by simp)
  have hp2 : L2[p]? = some (.cells [.ptr p 0, v] 110) := by rw [h2]; exact get_app hp _
  have hp3 := lt_of_get hp2
  have hlt2 := lt_of_get h1
  have hne : (L1 ++ [AObj.cells [V.int .u8 c.toNat] 5]).length ≠ p := by simp; omega
  refine ⟨L2.set p (.cells [.ptr p 0, .hsl (L1 ++ [AObj.cells [V.int .u8 c.toNat] 5]).length 0 (s ++ [c]).length (s ++ [c]).length (.grow 1)] 110), ?_, ?_, ?_⟩
  · refine callFn_eq rfl rfl at82 rfl (by simp [Tryd.f82]) (by simp [Tryd.f82]) (G_start ?_)
    simp -implicitDefEqProofs only [Tryd.f82, Zaa, Zab, Zac, Zad, Zae, Zaf, Zag, Zah, Zai, Zaj, Zak, Zal, Zam, Zan, Zao, Zap, Zaq, Zar, Zas, Zat, Zau, Zav, Zaw, Zax, Zay, Zaz, Zba, Zbb, Zbc, Zbd, Zbe, Zbf, Zbg, Zbh, Zbi, Zbj, Zbk, Zbl, Zbm, Zbn, Zbo, Zbp, Zbq, Zbr, Zbs, Zbt, Zbu, Zbv, Zbw, Zbx, Zby, Zbz, Zca, Zcb, Zcc, Zcd, Zce, Zcf, Zcg, evalT, Zch, Nat.reduceLT, Nat.reduceEqDiff, if_true, if_false, reduceIte, true_and, Zci, Zcj, map_ite', Zck, bind_ite', Zcl, Zcm, Zcn, Zco, Zcp, Zcq, Zcr, Zcs, Zct, Zcu, Zcv, Zcw, Zcx, Zcy, Zcz, Zda, Zdb, Zdc, Zdd, Zde, Zdf, Zdg, ofVal, ofCell, argT, List.getD_cons_zero, List.getD_cons_succ, List.getElem?_toArray, List.getElem?_cons_zero, List.getElem?_cons_succ, List.nil_append, List.cons_append, List.append_nil, resT, Zdh, Zdi, Nat.mul_one, Zdj, Zdk, Zdl, Zdm, Zdn, Zdo, Zdp, Zdq, Zdr, Zds, Zdt, setT, Zdu, Zdv, Zdw, Zdx, Zdy, List.append_eq, Zdz, Zea, Zeb, Zec, Zed, Zee, Zef, Zeg, Zeh, Nat.add_zero, Zei, Zej, Zek, Zel, Zem, Zen, Int.toNat_natCast, Bool.false_eq_true, Int.reduceEq, Int.reduceLT, Int.reduceLE, Int.reduceNeg, not_false_eq_true, and_self, Zeo, Zep, Int.natCast_one, Int.cast_ofNat_Int, not_true_eq_false, decide_true, decide_false, true_implies, false_implies, Int.toNat_zero, List.length_cons, List.length_nil, Nat.zero_add, mb, Nat.reduceBEq, Bool.false_and, Bool.and_false, Zeq, tys, stb, Zer, Zes, Zet, Zeu, Zev, Zew, Bool.or_false, Bool.false_or, Bool.true_and, Bool.or_true, Bool.true_or, Zex, Zey, opT_nilCheck, nilO_ptr, hc, hp, mb82, build_m, get_app hp, ha, hp2, storeList, List.take_zero, List.take_succ_cons, List.drop_zero, List.drop_succ_cons, List.drop_nil, List.all_cons, List.all_nil, List.set_cons_zero, List.set_cons_succ, cells_hsl, isCell_hsl, Nat.reduceAdd, Nat.reduceLeDiff, List.length_append, isCell_ptr, oneOr]
  · refine ⟨.ptr p 0, _, by simp [hp3], .inr rfl, .inr ⟨_, rfl, ?_, hne, by simp⟩⟩
    simp only
    rw [List.getElem?_set_ne (fun e => hne e.symm)]; exact h1
  · intro q cs hq
    have := h3 q cs (get_app (hk q cs hq) _)
    have hne2 : p ≠ q := by rintro rfl; rw [hp2] at this; cases this
    simp only
    rw [List.getElem?_set_ne hne2]; exact this
theorem wstr_call (L : List AObj) (ts : List Nat) (p : Nat) (s new : List UInt8) (h : Bld ⟨L, ts⟩ p s) (hl : s.length + new.length ≤ 2 ^ 30) :
    ∃ L', callFn env (ev env) 83 [.ptr p 0, .str new] ⟨L, ts⟩ = some (.tup [.int .i64 new.length, .nilif], ⟨L', ts⟩) ∧ Bld ⟨L', ts⟩ p (s ++ new) ∧ Keeps ⟨L, ts⟩ ⟨L', ts⟩ := by
  obtain ⟨L1, v, hc, hp, hb, hlen, hk⟩ := check_call L ts p s h
  have hplt := lt_of_get hp
  by_cases hn : new = []
  · subst hn
    refine ⟨L1, ?_, ?_, hk⟩
    · refine callFn_eq rfl rfl at83 rfl (by simp [Tryd.f83]) (by simp [Tryd.f83]) (G_start ?_)
      have hs : L1.set p (.cells [.ptr p 0, v] 110) = L1 := by
        have := set_same (σ := ⟨L1, ts⟩) hp
        simpa [S.set] using this
      simp -implicitDefEqProofs only [Tryd.f83, Zaa, Zab, Zac, Zad, Zae, Zaf, Zag, Zah, Zai, Zaj, Zak, Zal, Zam, Zan, Zao, Zap, Zaq, Zar, Zas, Zat, Zau, Zav, Zaw, Zax, Zay, Zaz, Zba, Zbb, Zbc, Zbd, Zbe, Zbf, Zbg, Zbh, Zbi, Zbj, Zbk, Zbl, Zbm, Zbn, Zbo, Zbp, Zbq, Zbr, Zbs, Zbt, Zbu, Zbv, Zbw, Zbx, Zby, Zbz, Zca, Zcb, Zcc, Zcd, Zce, Zcf, Zcg, evalT, Zch, Nat.reduceLT, Nat.reduceEqDiff, if_true, if_false, reduceIte, true_and, Zci, Zcj, map_ite', Zck, bind_ite', Zcl, Zcm, Zcn, Zco, Zcp, Zcq, Zcr, Zcs, Zct, Zcu, Zcv, Zcw, Zcx, Zcy, Zcz, Zda, Zdb, Zdc, Zdd, Zde, Zdf, Zdg, ofVal, ofCell, argT, List.getD_cons_zero, List.getD_cons_succ, List.getElem?_toArray, List.getElem?_cons_zero, List.getElem?_cons_succ, List.nil_append, List.cons_append, List.append_nil, resT, Zdh, Zdi, Nat.mul_one, Zdj, Zdk, Zdl, Zdm, Zdn, Zdo, Zdp, Zdq, Zdr, Zds, Zdt, setT, Zdu, Zdv, Zdw, Zdx, Zdy, List.append_eq, Zdz, Zea, Zeb, Zec, Zed, Zee, Zef, Zeg, Zeh, Nat.add_zero, Zei, Zej, Zek, Zel, Zem, Zen, Int.toNat_natCast, Bool.false_eq_true, Int.reduceEq, Int.reduceLT, Int.reduceLE, Int.reduceNeg, not_false_eq_true, and_self, Zeo, Zep, Int.natCast_one, Int.cast_ofNat_Int, not_true_eq_false, decide_true, decide_false, true_implies, false_implies, Int.toNat_zero, List.length_cons, List.length_nil, Nat.zero_add, mb, Nat.reduceBEq, Bool.false_and, Bool.and_false, Zeq, tys, stb, Zer, Zes, Zet, Zeu, Zev, Zew, Bool.or_false, Bool.false_or, Bool.true_and, Bool.or_true, Bool.true_or, Zex, Zey, opT_nilCheck, nilO_ptr, hc, hp, mb83, app_str0 L1 ts p v s hb, storeList, List.take_zero, List.take_succ_cons, List.drop_zero, List.drop_succ_cons, List.drop_nil, List.all_cons, List.all_nil, List.set_cons_zero, List.set_cons_succ, cells_hsl, isCell_hsl, Nat.reduceAdd, Nat.reduceLeDiff, hb.cells, isCell_ptr, oneOr, len_str, hs]
    · rw [List.append_nil]; exact ⟨_, v, hp, .inr rfl, hb⟩
  obtain ⟨L2, ha, h1, h2, h3⟩ := app_str L1 ts p v s new hb hn hl hplt
  have hp2 : L2[p]? = some (.cells [.ptr p 0, v] 110) := by rw [h2]; exact hp
  have hp3 := lt_of_get hp2
  have hne : L1.length ≠ p := by omega
  refine ⟨L2.set p (.cells [.ptr p 0, .hsl L1.length 0 (s ++ new).length (s ++ new).length (.grow 1)] 110), ?_, ?_, ?_⟩
  · refine callFn_eq rfl rfl at83 rfl (by simp [Tryd.f83]) (by simp [Tryd.f83]) (G_start ?_)
    simp -implicitDefEqProofs only [Tryd.f83, Zaa, Zab, Zac, Zad, Zae, Zaf, Zag, Zah, Zai, Zaj, Zak, Zal, Zam, Zan, Zao, Zap, Zaq, Zar, Zas, Zat, Zau, Zav, Zaw, Zax, Zay, Zaz, Zba, Zbb, Zbc, Zbd, Zbe, Zbf, Zbg, Zbh, Zbi, Zbj, Zbk, Zbl, Zbm, Zbn, Zbo, Zbp, Zbq, Zbr, Zbs, Zbt, Zbu, Zbv, Zbw, Zbx, Zby, Zbz, Zca, Zcb, Zcc, Zcd, Zce, Zcf, Zcg, evalT, Zch, Nat.reduceLT, Nat.reduceEqDiff, if_true, if_false, reduceIte, true_and, Zci, Zcj, map_ite', Zck, bind_ite', Zcl, Zcm, Zcn, Zco, Zcp, Zcq, Zcr, Zcs, Zct, Zcu, Zcv, Zcw, Zcx, Zcy, Zcz, Zda, Zdb, Zdc, Zdd, Zde, Zdf, Zdg, ofVal, ofCell, argT, List.getD_cons_zero, List.getD_cons_succ, List.getElem?_toArray, List.getElem?_cons_zero, List.getElem?_cons_succ, List.nil_append, List.cons_append, List.append_nil, resT, Zdh, Zdi, Nat.mul_one, Zdj, Zdk, Zdl, Zdm, Zdn, Zdo, Zdp, Zdq, Zdr, Zds, Zdt, setT, Zdu, Zdv, Zdw, Zdx, Zdy, List.append_eq, Zdz, Zea, Zeb, Zec, Zed, Zee, Zef, Zeg, Zeh, Nat.add_zero, Zei, Zej, Zek, Zel, Zem, Zen, Int.toNat_natCast, Bool.false_eq_true, Int.reduceEq, Int.reduceLT, Int.reduceLE, Int.reduceNeg, not_false_eq_true, and_self, Zeo, Zep, Int.natCast_one, Int.cast_ofNat_Int, not_true_eq_false, decide_true, decide_false, true_implies, false_implies, Int.toNat_zero, List.length_cons, List.length_nil, Nat.zero_add, mb, Nat.reduceBEq, Bool.false_and, Bool.and_false, Zeq, tys, stb, Zer, Zes, Zet, Zeu, Zev, Zew, Bool.or_false, Bool.false_or, Bool.true_and, Bool.or_true, Bool.true_or, Zex, Zey, opT_nilCheck, nilO_ptr, hc, hp, mb83, ha, hp2, storeList, List.take_zero, List.take_succ_cons, List.drop_zero, List.drop_succ_cons, List.drop_nil, List.all_cons, List.all_nil, List.set_cons_zero, List.set_cons_succ, cells_hsl, isCell_hsl, Nat.reduceAdd, Nat.reduceLeDiff, isCell_ptr, oneOr, len_str]
  · refine ⟨.ptr p 0, _, by simp [hp3], .inr rfl, .inr ⟨_, rfl, ?_, hne, by simp [hn]⟩⟩
    simp only
    rw [List.getElem?_set_ne (fun e => hne e.symm)]; exact h1
  · intro q cs hq
    have := h3 q cs (hk q cs hq)
    have hne2 : p ≠ q := by rintro rfl; rw [hp2] at this; cases this
    simp only
    rw [List.getElem?_set_ne hne2]; exact this
end Go.Proofs.YtbikmhpobflfeaaDoor

namespace Go.Proofs.YtbikmhpobflfeaaDoor
open Go.Ab
set_option maxRecDepth 100000
set_option linter.unusedSimpArgs false
set_option linter.unusedVariables false
theorem opT_sdata {m : Bool} {T : Tm} {σ : S} (x : Operand) (t : TypeId) : opT env m T σ (.call ⟨.builtin .unsafeSliceData, #[x], #[t]⟩) = ((evalT env T x).bind vSliceData).map fun v => (v, σ) := by
  unfold opT
  simp only [apure, aread, astate, listO, Option.map_some]
  cases evalT env T x with
  | none => rfl
  | some v =>
    simp only [Option.map_some, Option.bind_some]
    cases vSliceData v <;> rfl
noncomputable def ustr (σ : S) (pt : TypeId) (p n : V) : Option (V × S) :=
  match n with
  | .int .i64 n => aunsafeStr env pt p n σ
  | _ => none
theorem opT_ustr {m : Bool} {T : Tm} {σ : S} (x y : Operand) (t u : TypeId) : opT env m T σ (.call ⟨.builtin .unsafeString, #[x, y], #[t, u]⟩) = (evalT env T x).bind fun p => (evalT env T y).bind fun n => ustr σ t p n := by
  unfold opT ustr
  simp only [apure, aread, astate, listO, Option.map_some]
  cases evalT env T x with
  | none => rfl
  | some v =>
    cases evalT env T y with
    | none => rfl
    | some w => cases w <;> first | rfl | (rename_i k n; cases k <;> rfl)
theorem at50 : env.P.funcs[50]? = some Tryd.f50 := by kernel_rfl
def W (l : List String) : List (List UInt8) := l.map fun s => s.toList.map fun c => UInt8.ofNat c.toNat
def signsW : List (List UInt8) := W ["(", ")", "[", "]", "+", "-", "*", "/", ",", "=", "!=", "<", "<=", ">", ">=", ".."]
theorem signs_call (σ : S) : callFn env (ev env) 50 [] σ = some (.row (signsW.map V.str) 16 .unk, σ) := row_of_run rfl rfl rfl (k := 20) (by rw [← runQ_eq]; kernel_rfl) σ
theorem signsref_call (σ : S) : callFn env (ev env) 51 [] σ = some (.row (signsW.map V.str) 16 .unk, σ) := row_of_run rfl rfl rfl (k := 20) (by rw [← runQ_eq]; kernel_rfl) σ
theorem same_call (σ : S) : callFn env (ev env) 17 [.row (signsW.map V.str) 16 .unk, .row (signsW.map V.str) 16 .unk] σ = some (.bool true, σ) := row_of_run rfl rfl (by kernel_rfl) (k := 100) (by rw [← runQ_eq]; kernel_rfl) σ
theorem awake_call (σ : S) : callFn env (ev env) 34 [] σ = some (.bool true, σ) := row_of_run rfl rfl rfl (k := 2000) (by rw [← runQ_eq]; kernel_rfl) σ

/-! ### String -/
theorem bytesOf_cells : ∀ s : List UInt8, bytesOf (byteCells s) = some s
  | [] => rfl
  | b :: s => by
    have h := bytesOf_cells s
    unfold byteCells at h ⊢
    simp only [List.map_cons, bytesOf, h, Option.map_some, Option.some.injEq, List.cons.injEq, and_true]
    simp
theorem bytesOK_cells : ∀ s : List UInt8, bytesOK (byteCells s) = true
  | [] => rfl
  | b :: s => by
    have h := bytesOK_cells s
    unfold byteCells at h ⊢
    have hb := b.toNat_lt
    simp only [List.map_cons, bytesOK, h]
    simp
    omega
theorem u132 : env.P.underlying 132 = some (.pointer 5) := by kernel_rfl
theorem cells5 : env.P.cellsOf 5 = 1 := by kernel_rfl
theorem ustr_nil (σ : S) : ustr σ 132 .nilptr (.int .i64 0) = some (.str [], σ) := rfl
theorem ustr_hsl (σ : S) (b : Nat) (s : List UInt8) (hs : s ≠ []) (hl : s.length ≤ 2 ^ 30) (hb : σ.heap[b]? = some (.cells (byteCells s) 5)) : ustr σ 132 (.ptr b 0) (.int .i64 s.length) = some (.str s, σ.set b (.ro (byteCells s) 5)) := by
  have h0 : ¬ (s.length : Int) = 0 := fun h => hs (List.eq_nil_of_length_eq_zero (by omega))
  have hlim : lim = 2 ^ 40 := rfl
  have h1 : s.length ≤ lim := by rw [hlim]; omega
  have htk : List.take s.length (byteCells s) = byteCells s := List.take_of_length_le (by rw [byteCells_len]; omega)
  simp only [ustr, aunsafeStr, h0, if_false, hb, u132]
  simp [cells5, byteCells_len, htk, bytesOK_cells, bytesOf_cells, h1]
theorem string_call (L : List AObj) (ts : List Nat) (p : Nat) (s : List UInt8) (h : Bld ⟨L, ts⟩ p s) (hl : s.length ≤ 2 ^ 30) : ∃ σ', callFn env (ev env) 84 [.ptr p 0] ⟨L, ts⟩ = some (.str s, σ') := by
  obtain ⟨a, v, hp, ha, hb⟩ := h
  simp only at hp hb
  have hplt := lt_of_get hp
  rcases hb with ⟨rfl, rfl⟩ | ⟨b, rfl, hbL, hbp, hs⟩
  · refine ⟨⟨L, ts⟩, callFn_eq rfl rfl at84 rfl (by simp [Tryd.f84]) (by simp [Tryd.f84]) (G_start ?_)⟩
    simp -implicitDefEqProofs only [Tryd.f84, Zaa, Zab, Zac, Zad, Zae, Zaf, Zag, Zah, Zai, Zaj, Zak, Zal, Zam, Zan, Zao, Zap, Zaq, Zar, Zas, Zat, Zau, Zav, Zaw, Zax, Zay, Zaz, Zba, Zbb, Zbc, Zbd, Zbe, Zbf, Zbg, Zbh, Zbi, Zbj, Zbk, Zbl, Zbm, Zbn, Zbo, Zbp, Zbq, Zbr, Zbs, Zbt, Zbu, Zbv, Zbw, Zbx, Zby, Zbz, Zca, Zcb, Zcc, Zcd, Zce, Zcf, Zcg, evalT, Zch, Nat.reduceLT, Nat.reduceEqDiff, if_true, if_false, reduceIte, true_and, Zci, Zcj, map_ite', Zck, bind_ite', Zcl, Zcm, Zcn, Zco, Zcp, Zcq, Zcr, Zcs, Zct, Zcu, Zcv, Zcw, Zcx, Zcy, Zcz, Zda, Zdb, Zdc, Zdd, Zde, Zdf, Zdg, ofVal, ofCell, argT, List.getD_cons_zero, List.getD_cons_succ, List.getElem?_toArray, List.getElem?_cons_zero, List.getElem?_cons_succ, List.nil_append, List.cons_append, List.append_nil, resT, Zdh, Zdi, Nat.mul_one, Zdj, Zdk, Zdl, Zdm, Zdn, Zdo, Zdp, Zdq, Zdr, Zds, Zdt, setT, Zdu, Zdv, Zdw, Zdx, Zdy, List.append_eq, Zdz, Zea, Zeb, Zec, Zed, Zee, Zef, Zeg, Zeh, Nat.add_zero, Zei, Zej, Zek, Zel, Zem, Zen, Int.toNat_natCast, Bool.false_eq_true, Int.reduceEq, Int.reduceLT, Int.reduceLE, Int.reduceNeg, not_false_eq_true, and_self, Zeo, Zep, Int.natCast_one, Int.cast_ofNat_Int, not_true_eq_false, decide_true, decide_false, true_implies, false_implies, Int.toNat_zero, List.length_cons, List.length_nil, Nat.zero_add, mb, Nat.reduceBEq, Bool.false_and, Bool.and_false, Zeq, tys, stb, Zer, Zes, Zet, Zeu, Zev, Zew, Bool.or_false, Bool.false_or, Bool.true_and, Bool.or_true, Bool.true_or, Zex, Zey, opT_nilCheck, nilO_ptr, hp, opT_sdata, vSliceData, opT_ustr, ustr_nil, oneOr]
    exact ⟨by kernel_rfl, trivial⟩
  · have hs1 : 0 < s.length := by
      rcases Nat.eq_zero_or_pos s.length with h | h
      · exact absurd (List.eq_nil_of_length_eq_zero h) hs
      · exact h
    refine ⟨S.set ⟨L, ts⟩ b (.ro (byteCells s) 5), callFn_eq rfl rfl at84 rfl (by simp [Tryd.f84]) (by simp [Tryd.f84]) (G_start ?_)⟩
    simp -implicitDefEqProofs only [Tryd.f84, Zaa, Zab, Zac, Zad, Zae, Zaf, Zag, Zah, Zai, Zaj, Zak, Zal, Zam, Zan, Zao, Zap, Zaq, Zar, Zas, Zat, Zau, Zav, Zaw, Zax, Zay, Zaz, Zba, Zbb, Zbc, Zbd, Zbe, Zbf, Zbg, Zbh, Zbi, Zbj, Zbk, Zbl, Zbm, Zbn, Zbo, Zbp, Zbq, Zbr, Zbs, Zbt, Zbu, Zbv, Zbw, Zbx, Zby, Zbz, Zca, Zcb, Zcc, Zcd, Zce, Zcf, Zcg, evalT, Zch, Nat.reduceLT, Nat.reduceEqDiff, if_true, if_false, reduceIte, true_and, Zci, Zcj, map_ite', Zck, bind_ite', Zcl, Zcm, Zcn, Zco, Zcp, Zcq, Zcr, Zcs, Zct, Zcu, Zcv, Zcw, Zcx, Zcy, Zcz, Zda, Zdb, Zdc, Zdd, Zde, Zdf, Zdg, ofVal, ofCell, argT, List.getD_cons_zero, List.getD_cons_succ, List.getElem?_toArray, List.getElem?_cons_zero, List.getElem?_cons_succ, List.nil_append, List.cons_append, List.append_nil, resT, Zdh, Zdi, Nat.mul_one, Zdj, Zdk, Zdl, Zdm, Zdn, Zdo, Zdp, Zdq, Zdr, Zds, Zdt, setT, Zdu, Zdv, Zdw, Zdx, Zdy, List.append_eq, Zdz, Zea, Zeb, Zec, Zed, Zee, Zef, Zeg, Zeh, Nat.add_zero, Zei, Zej, Zek, Zel, Zem, Zen, Int.toNat_natCast, Bool.false_eq_true, Int.reduceEq, Int.reduceLT, Int.reduceLE, Int.reduceNeg, not_false_eq_true, and_self, Zeo, Zep, Int.natCast_one, Int.cast_ofNat_Int, not_true_eq_false, decide_true, decide_false, true_implies, false_implies, Int.toNat_zero, List.length_cons, List.length_nil, Nat.zero_add, mb, Nat.reduceBEq, Bool.false_and, Bool.and_false, Zeq, tys, stb, Zer, Zes, Zet, Zeu, Zev, Zew, Bool.or_false, Bool.false_or, Bool.true_and, Bool.or_true, Bool.true_or, Zex, Zey, opT_nilCheck, nilO_ptr, hp, opT_sdata, vSliceData, hs1, len_hsl, opT_ustr, ustr_hsl ⟨L, ts⟩ b s hs hl hbL, oneOr]
    exact ⟨by kernel_rfl, trivial⟩
/-! ### words in a list -/
theorem at77 : env.P.funcs[77]? = some Tryd.f77 := by kernel_rfl
theorem at114 : env.P.funcs[114]? = some Tryd.f114 := by kernel_rfl
theorem at81 : env.P.funcs[81]? = some Tryd.f81 := by kernel_rfl
theorem load_hd (h : List AObj) (v : V) (r : List V) : (loadCellsV h 1 (.rptr (v :: r))).bind (·[0]?) = some v := by
  have := Zdj h (v :: r) 0
  simpa using this
theorem idx_row {ws : List (List UInt8)} {c : RCap} {i : Nat} (hi : i < ws.length) : vIndexAddr 1 (.row (ws.map V.str) ws.length c) (.int .i64 (i : Int)) = some (.rptr (.str (ws.getD i []) :: (ws.map V.str).drop (i + 1))) := by
  rw [Zdc, if_pos (by omega), Int.toNat_natCast, Nat.mul_one, List.drop_eq_getElem_cons (by simpa using hi)]
  simp [List.getD, hi]
/-- where a word stands -/
def placeW (ws : List (List UInt8)) (s : List UInt8) : Nat → Nat → Int
  | 0, _ => -1
  | m + 1, i => if s = ws.getD i [] then i else placeW ws s m (i + 1)
theorem placeW_pos (ws : List (List UInt8)) (s : List UInt8) : ∀ m i, 0 ≤ placeW ws s m i ↔ ∃ j, i ≤ j ∧ j < i + m ∧ s = ws.getD j []
  | 0, i => by simp only [placeW]; constructor
               · intro h; omega
               · rintro ⟨j, h1, h2, _⟩; omega
  | m + 1, i => by
    simp only [placeW]
    by_cases h : s = ws.getD i []
    · rw [if_pos h]
      exact ⟨fun _ => ⟨i, by omega, by omega, h⟩, fun _ => by omega⟩
    · rw [if_neg h, placeW_pos ws s m (i + 1)]
      constructor
      · rintro ⟨j, h1, h2, h3⟩; exact ⟨j, by omega, by omega, h3⟩
      · rintro ⟨j, h1, h2, h3⟩
        refine ⟨j, ?_, by omega, h3⟩
        rcases Nat.lt_or_ge i j with h4 | h4
        · omega
        · have : j = i := by omega
          subst this; exact absurd h3 h
theorem place_mem (ws : List (List UInt8)) (s : List UInt8) : 0 ≤ placeW ws s ws.length 0 ↔ s ∈ ws := by
  rw [placeW_pos]
  constructor
  · rintro ⟨j, _, h2, rfl⟩
    have h2 : j < ws.length := by omega
    simp [List.getD, h2]
  · intro h
    obtain ⟨j, hj, rfl⟩ := List.mem_iff_getElem.1 h
    exact ⟨j, by omega, by omega, by simp [List.getD, hj]⟩
theorem closed_row (ws : List (List UInt8)) (c : RCap) (hc : ∀ k e s, c ≠ .tok k e s) : (V.row (ws.map V.str) ws.length c).closed = true := by
  simp only [V.closed, closed_strs, Bool.and_true]
theorem index_call (ws : List (List UInt8)) (c : RCap) (hc : ∀ k e s, c ≠ .tok k e s) (hl : ws.length ≤ 1000) (s : List UInt8) (σ : S) : callFn env (ev env) 77 [.row (ws.map V.str) ws.length c, .str s] σ = some (.int .i64 (placeW ws s ws.length 0), σ) := by
  refine callFn_pure rfl rfl (by rw [List.all_cons, closed_row ws c hc]; rfl) at77 rfl (by simp [Tryd.f77]) (by simp [Tryd.f77]) (G_start ?_) σ
  simp -implicitDefEqProofs only [Tryd.f77, Zaa, Zab, Zac, Zad, Zae, Zaf, Zag, Zah, Zai, Zaj, Zak, Zal, Zam, Zan, Zao, Zap, Zaq, Zar, Zas, Zat, Zau, Zav, Zaw, Zax, Zay, Zaz, Zba, Zbb, Zbc, Zbd, Zbe, Zbf, Zbg, Zbh, Zbi, Zbj, Zbk, Zbl, Zbm, Zbn, Zbo, Zbp, Zbq, Zbr, Zbs, Zbt, Zbu, Zbv, Zbw, Zbx, Zby, Zbz, Zca, Zcb, Zcc, Zcd, Zce, Zcf, Zcg, evalT, Zch, Nat.reduceLT, Nat.reduceEqDiff, if_true, if_false, reduceIte, true_and, Zci, Zcj, map_ite', Zck, bind_ite', Zcl, Zcm, Zcn, Zco, Zcp, Zcq, Zcr, Zcs, Zct, Zcu, Zcv, Zcw, Zcx, Zcy, Zcz, Zda, Zdb, Zdc, Zdd, Zde, Zdf, Zdg, ofVal, ofCell, argT, List.getD_cons_zero, List.getD_cons_succ, List.getElem?_toArray, List.getElem?_cons_zero, List.getElem?_cons_succ, List.nil_append, List.cons_append, List.append_nil, resT, Zdh, Zdi, Nat.mul_one, Zdj, Zdk, Zdl, Zdm, Zdn, Zdo, Zdp, Zdq, Zdr, Zds, Zdt, setT, Zdu, Zdv, Zdw, Zdx, Zdy, List.append_eq, Zdz, Zea, Zeb, Zec, Zed, Zee, Zef, Zeg, Zeh, Nat.add_zero, Zei, Zej, Zek, Zel, Zem, Zen, Int.toNat_natCast, Bool.false_eq_true, Int.reduceEq, Int.reduceLT, Int.reduceLE, Int.reduceNeg, not_false_eq_true, and_self, Zeo, Zep, Int.natCast_one, Int.cast_ofNat_Int, not_true_eq_false, decide_true, decide_false, true_implies, false_implies, Int.toNat_zero, List.length_cons, List.length_nil, Nat.zero_add, mb, Nat.reduceBEq, Bool.false_and, Bool.and_false, Zeq, tys, stb, Zer, Zes, Zet, Zeu, Zev, Zew, Bool.or_false, Bool.false_or, Bool.true_and, Bool.or_true, Bool.true_or, Zex, Zey]
  refine loop_rule (fun m T D σ => D = [] ∧ σ = S.empty ∧ T 0 = .row (ws.map V.str) ws.length c ∧ T 1 = .str s ∧ T 7 = .int .i64 ws.length ∧ ∃ i : Nat, T 8 = .int .i64 i ∧ i ≤ ws.length ∧ m = ws.length - i ∧ placeW ws s ws.length 0 = placeW ws s (ws.length - i) i) ?_ _ _ _ _ ⟨rfl, rfl, rfl, rfl, rfl, 0, rfl, by omega, rfl, rfl⟩
  rintro m T D σ ⟨rfl, rfl, t0, t1, t7, i, t8, hi, rfl, hf⟩
  refine G_start ?_
  by_cases hlt : i < ws.length
  · have c1 : (i : Int) < (ws.length : Int) := by omega
    have e1 : IntKind.i64.wrap ((i : Int) + 1) = ((i + 1 : Nat) : Int) := by rw [wrap_i64 (by omega) (by omega)]; omega
    have c2 : (0 : Int) ≤ (i : Int) ∧ (i : Int) < (ws.length : Int) := by omega
    obtain ⟨q, hq⟩ : ∃ q, ws.length - i = q + 1 := ⟨ws.length - i - 1, by omega⟩
    have hq2 : q = ws.length - (i + 1) := by omega
    have hstep : placeW ws s (ws.length - i) i = if s = ws.getD i [] then (i : Int) else placeW ws s q (i + 1) := by rw [hq]; rfl
    rw [hstep] at hf
    by_cases hn : s = ws.getD i []
    · rw [if_pos hn] at hf
      simp -implicitDefEqProofs only [Zaa, Zab, Zac, Zad, Zae, Zaf, Zag, Zah, Zai, Zaj, Zak, Zal, Zam, Zan, Zao, Zap, Zaq, Zar, Zas, Zat, Zau, Zav, Zaw, Zax, Zay, Zaz, Zba, Zbb, Zbc, Zbd, Zbe, Zbf, Zbg, Zbh, Zbi, Zbj, Zbk, Zbl, Zbm, Zbn, Zbo, Zbp, Zbq, Zbr, Zbs, Zbt, Zbu, Zbv, Zbw, Zbx, Zby, Zbz, Zca, Zcb, Zcc, Zcd, Zce, Zcf, Zcg, evalT, Zch, Nat.reduceLT, Nat.reduceEqDiff, if_true, if_false, reduceIte, true_and, Zci, Zcj, map_ite', Zck, bind_ite', Zcl, Zcm, Zcn, Zco, Zcp, Zcq, Zcr, Zcs, Zct, Zcu, Zcv, Zcw, Zcx, Zcy, Zcz, Zda, Zdb, Zdc, Zdd, Zde, Zdf, Zdg, ofVal, ofCell, argT, List.getD_cons_zero, List.getD_cons_succ, List.getElem?_toArray, List.getElem?_cons_zero, List.getElem?_cons_succ, List.nil_append, List.cons_append, List.append_nil, resT, Zdh, Zdi, Nat.mul_one, Zdj, Zdk, Zdl, Zdm, Zdn, Zdo, Zdp, Zdq, Zdr, Zds, Zdt, setT, Zdu, Zdv, Zdw, Zdx, Zdy, List.append_eq, Zdz, Zea, Zeb, Zec, Zed, Zee, Zef, Zeg, Zeh, Nat.add_zero, Zei, Zej, Zek, Zel, Zem, Zen, Int.toNat_natCast, Bool.false_eq_true, Int.reduceEq, Int.reduceLT, Int.reduceLE, Int.reduceNeg, not_false_eq_true, and_self, Zeo, Zep, Int.natCast_one, Int.cast_ofNat_Int, not_true_eq_false, decide_true, decide_false, true_implies, false_implies, Int.toNat_zero, List.length_cons, List.length_nil, Nat.zero_add, mb, Nat.reduceBEq, Bool.false_and, Bool.and_false, Zeq, tys, stb, Zer, Zes, Zet, Zeu, Zev, Zew, Bool.or_false, Bool.false_or, Bool.true_and, Bool.or_true, Bool.true_or, Zex, Zey, t0, t1, t7, t8, c1, c2, e1, strs_get, hlt, vBin_seql, ← hn]
      simp only [oneOr, sealDepth, sealV_int, hf]
    · rw [if_neg hn, hq2] at hf
      simp -implicitDefEqProofs only [Zaa, Zab, Zac, Zad, Zae, Zaf, Zag, Zah, Zai, Zaj, Zak, Zal, Zam, Zan, Zao, Zap, Zaq, Zar, Zas, Zat, Zau, Zav, Zaw, Zax, Zay, Zaz, Zba, Zbb, Zbc, Zbd, Zbe, Zbf, Zbg, Zbh, Zbi, Zbj, Zbk, Zbl, Zbm, Zbn, Zbo, Zbp, Zbq, Zbr, Zbs, Zbt, Zbu, Zbv, Zbw, Zbx, Zby, Zbz, Zca, Zcb, Zcc, Zcd, Zce, Zcf, Zcg, evalT, Zch, Nat.reduceLT, Nat.reduceEqDiff, if_true, if_false, reduceIte, true_and, Zci, Zcj, map_ite', Zck, bind_ite', Zcl, Zcm, Zcn, Zco, Zcp, Zcq, Zcr, Zcs, Zct, Zcu, Zcv, Zcw, Zcx, Zcy, Zcz, Zda, Zdb, Zdc, Zdd, Zde, Zdf, Zdg, ofVal, ofCell, argT, List.getD_cons_zero, List.getD_cons_succ, List.getElem?_toArray, List.getElem?_cons_zero, List.getElem?_cons_succ, List.nil_append, List.cons_append, List.append_nil, resT, Zdh, Zdi, Nat.mul_one, Zdj, Zdk, Zdl, Zdm, Zdn, Zdo, Zdp, Zdq, Zdr, Zds, Zdt, setT, Zdu, Zdv, Zdw, Zdx, Zdy, List.append_eq, Zdz, Zea, Zeb, Zec, Zed, Zee, Zef, Zeg, Zeh, Nat.add_zero, Zei, Zej, Zek, Zel, Zem, Zen, Int.toNat_natCast, Bool.false_eq_true, Int.reduceEq, Int.reduceLT, Int.reduceLE, Int.reduceNeg, not_false_eq_true, and_self, Zeo, Zep, Int.natCast_one, Int.cast_ofNat_Int, not_true_eq_false, decide_true, decide_false, true_implies, false_implies, Int.toNat_zero, List.length_cons, List.length_nil, Nat.zero_add, mb, Nat.reduceBEq, Bool.false_and, Bool.and_false, Zeq, tys, stb, Zer, Zes, Zet, Zeu, Zev, Zew, Bool.or_false, Bool.false_or, Bool.true_and, Bool.or_true, Bool.true_or, Zex, Zey, t0, t1, t7, t8, c1, c2, e1, strs_get, hlt, vBin_seql, hn]
      exact ⟨ws.length - (i + 1), by omega, i + 1, rfl, by omega, rfl, hf⟩
  · have hi2 : i = ws.length := by omega
    subst hi2
    have c1 : ¬ (ws.length : Int) < (ws.length : Int) := by omega
    rw [Nat.sub_self] at hf
    simp -implicitDefEqProofs only [Zaa, Zab, Zac, Zad, Zae, Zaf, Zag, Zah, Zai, Zaj, Zak, Zal, Zam, Zan, Zao, Zap, Zaq, Zar, Zas, Zat, Zau, Zav, Zaw, Zax, Zay, Zaz, Zba, Zbb, Zbc, Zbd, Zbe, Zbf, Zbg, Zbh, Zbi, Zbj, Zbk, Zbl, Zbm, Zbn, Zbo, Zbp, Zbq, Zbr, Zbs, Zbt, Zbu, Zbv, Zbw, Zbx, Zby, Zbz, Zca, Zcb, Zcc, Zcd, Zce, Zcf, Zcg, evalT, Zch, Nat.reduceLT, Nat.reduceEqDiff, if_true, if_false, reduceIte, true_and, Zci, Zcj, map_ite', Zck, bind_ite', Zcl, Zcm, Zcn, Zco, Zcp, Zcq, Zcr, Zcs, Zct, Zcu, Zcv, Zcw, Zcx, Zcy, Zcz, Zda, Zdb, Zdc, Zdd, Zde, Zdf, Zdg, ofVal, ofCell, argT, List.getD_cons_zero, List.getD_cons_succ, List.getElem?_toArray, List.getElem?_cons_zero, List.getElem?_cons_succ, List.nil_append, List.cons_append, List.append_nil, resT, Zdh, Zdi, Nat.mul_one, Zdj, Zdk, Zdl, Zdm, Zdn, Zdo, Zdp, Zdq, Zdr, Zds, Zdt, setT, Zdu, Zdv, Zdw, Zdx, Zdy, List.append_eq, Zdz, Zea, Zeb, Zec, Zed, Zee, Zef, Zeg, Zeh, Nat.add_zero, Zei, Zej, Zek, Zel, Zem, Zen, Int.toNat_natCast, Bool.false_eq_true, Int.reduceEq, Int.reduceLT, Int.reduceLE, Int.reduceNeg, not_false_eq_true, and_self, Zeo, Zep, Int.natCast_one, Int.cast_ofNat_Int, not_true_eq_false, decide_true, decide_false, true_implies, false_implies, Int.toNat_zero, List.length_cons, List.length_nil, Nat.zero_add, mb, Nat.reduceBEq, Bool.false_and, Bool.and_false, Zeq, tys, stb, Zer, Zes, Zet, Zeu, Zev, Zew, Bool.or_false, Bool.false_or, Bool.true_and, Bool.or_true, Bool.true_or, Zex, Zey, t0, t1, t7, t8, c1]
    simp only [oneOr, sealDepth, sealV_int, hf]; rfl
theorem contains_call (ws : List (List UInt8)) (c : RCap) (hc : ∀ k e s, c ≠ .tok k e s) (hl : ws.length ≤ 1000) (s : List UInt8) (σ : S) : callFn env (ev env) 114 [.row (ws.map V.str) ws.length c, .str s] σ = some (.bool (decide (s ∈ ws)), σ) := by
  refine callFn_pure rfl rfl (by rw [List.all_cons, closed_row ws c hc]; rfl) at114 rfl (by simp [Tryd.f114]) (by simp [Tryd.f114]) (G_start ?_) σ
  have hk := place_mem ws s
  by_cases h : s ∈ ws
  · have c0 := hk.2 h
    simp -implicitDefEqProofs only [Tryd.f114, Zaa, Zab, Zac, Zad, Zae, Zaf, Zag, Zah, Zai, Zaj, Zak, Zal, Zam, Zan, Zao, Zap, Zaq, Zar, Zas, Zat, Zau, Zav, Zaw, Zax, Zay, Zaz, Zba, Zbb, Zbc, Zbd, Zbe, Zbf, Zbg, Zbh, Zbi, Zbj, Zbk, Zbl, Zbm, Zbn, Zbo, Zbp, Zbq, Zbr, Zbs, Zbt, Zbu, Zbv, Zbw, Zbx, Zby, Zbz, Zca, Zcb, Zcc, Zcd, Zce, Zcf, Zcg, evalT, Zch, Nat.reduceLT, Nat.reduceEqDiff, if_true, if_false, reduceIte, true_and, Zci, Zcj, map_ite', Zck, bind_ite', Zcl, Zcm, Zcn, Zco, Zcp, Zcq, Zcr, Zcs, Zct, Zcu, Zcv, Zcw, Zcx, Zcy, Zcz, Zda, Zdb, Zdc, Zdd, Zde, Zdf, Zdg, ofVal, ofCell, argT, List.getD_cons_zero, List.getD_cons_succ, List.getElem?_toArray, List.getElem?_cons_zero, List.getElem?_cons_succ, List.nil_append, List.cons_append, List.append_nil, resT, Zdh, Zdi, Nat.mul_one, Zdj, Zdk, Zdl, Zdm, Zdn, Zdo, Zdp, Zdq, Zdr, Zds, Zdt, setT, Zdu, Zdv, Zdw, Zdx, Zdy, List.append_eq, Zdz, Zea, Zeb, Zec, Zed, Zee, Zef, Zeg, Zeh, Nat.add_zero, Zei, Zej, Zek, Zel, Zem, Zen, Int.toNat_natCast, Bool.false_eq_true, Int.reduceEq, Int.reduceLT, Int.reduceLE, Int.reduceNeg, not_false_eq_true, and_self, Zeo, Zep, Int.natCast_one, Int.cast_ofNat_Int, not_true_eq_false, decide_true, decide_false, true_implies, false_implies, Int.toNat_zero, List.length_cons, List.length_nil, Nat.zero_add, mb, Nat.reduceBEq, Bool.false_and, Bool.and_false, Zeq, tys, stb, Zer, Zes, Zet, Zeu, Zev, Zew, Bool.or_false, Bool.false_or, Bool.true_and, Bool.or_true, Bool.true_or, Zex, Zey, index_call ws c hc hl, c0]
    simp only [oneOr, sealDepth, sealV_bool, h, decide_true]
  · have c0 : ¬ 0 ≤ placeW ws s ws.length 0 := fun q => h (hk.1 q)
    simp -implicitDefEqProofs only [Tryd.f114, Zaa, Zab, Zac, Zad, Zae, Zaf, Zag, Zah, Zai, Zaj, Zak, Zal, Zam, Zan, Zao, Zap, Zaq, Zar, Zas, Zat, Zau, Zav, Zaw, Zax, Zay, Zaz, Zba, Zbb, Zbc, Zbd, Zbe, Zbf, Zbg, Zbh, Zbi, Zbj, Zbk, Zbl, Zbm, Zbn, Zbo, Zbp, Zbq, Zbr, Zbs, Zbt, Zbu, Zbv, Zbw, Zbx, Zby, Zbz, Zca, Zcb, Zcc, Zcd, Zce, Zcf, Zcg, evalT, Zch, Nat.reduceLT, Nat.reduceEqDiff, if_true, if_false, reduceIte, true_and, Zci, Zcj, map_ite', Zck, bind_ite', Zcl, Zcm, Zcn, Zco, Zcp, Zcq, Zcr, Zcs, Zct, Zcu, Zcv, Zcw, Zcx, Zcy, Zcz, Zda, Zdb, Zdc, Zdd, Zde, Zdf, Zdg, ofVal, ofCell, argT, List.getD_cons_zero, List.getD_cons_succ, List.getElem?_toArray, List.getElem?_cons_zero, List.getElem?_cons_succ, List.nil_append, List.cons_append, List.append_nil, resT, Zdh, Zdi, Nat.mul_one, Zdj, Zdk, Zdl, Zdm, Zdn, Zdo, Zdp, Zdq, Zdr, Zds, Zdt, setT, Zdu, Zdv, Zdw, Zdx, Zdy, List.append_eq, Zdz, Zea, Zeb, Zec, Zed, Zee, Zef, Zeg, Zeh, Nat.add_zero, Zei, Zej, Zek, Zel, Zem, Zen, Int.toNat_natCast, Bool.false_eq_true, Int.reduceEq, Int.reduceLT, Int.reduceLE, Int.reduceNeg, not_false_eq_true, and_self, Zeo, Zep, Int.natCast_one, Int.cast_ofNat_Int, not_true_eq_false, decide_true, decide_false, true_implies, false_implies, Int.toNat_zero, List.length_cons, List.length_nil, Nat.zero_add, mb, Nat.reduceBEq, Bool.false_and, Bool.and_false, Zeq, tys, stb, Zer, Zes, Zet, Zeu, Zev, Zew, Bool.or_false, Bool.false_or, Bool.true_and, Bool.or_true, Bool.true_or, Zex, Zey, index_call ws c hc hl, c0]
    simp only [oneOr, sealDepth, sealV_bool, h, decide_false]
/-- a token -/
structure Tok where
  kind : Int
  text : List UInt8
  n : Int
  pos : Int
def Tok.cells (t : Tok) : List V := [.int .i64 t.kind, .str t.text, .int .i64 t.n, .int .i64 t.pos]
theorem sign_call (t : Tok) (ws : List (List UInt8)) (c : RCap) (hc : ∀ k e s, c ≠ .tok k e s) (hl : ws.length ≤ 1000) (σ : S) : callFn env (ev env) 81 [.agg [.int .i64 t.kind, .str t.text, .int .i64 t.n, .int .i64 t.pos], .row (ws.map V.str) ws.length c] σ = some (.bool (decide (t.kind = 5 ∧ t.text ∈ ws)), σ) := by
  refine callFn_pure rfl rfl (by rw [List.all_cons, List.all_cons, closed_row ws c hc]; rfl) at81 rfl (by simp [Tryd.f81]) (by simp [Tryd.f81]) (G_start ?_) σ
  by_cases h : t.kind = 5
  · by_cases h2 : t.text ∈ ws <;>
    · simp -implicitDefEqProofs only [Tryd.f81, Zaa, Zab, Zac, Zad, Zae, Zaf, Zag, Zah, Zai, Zaj, Zak, Zal, Zam, Zan, Zao, Zap, Zaq, Zar, Zas, Zat, Zau, Zav, Zaw, Zax, Zay, Zaz, Zba, Zbb, Zbc, Zbd, Zbe, Zbf, Zbg, Zbh, Zbi, Zbj, Zbk, Zbl, Zbm, Zbn, Zbo, Zbp, Zbq, Zbr, Zbs, Zbt, Zbu, Zbv, Zbw, Zbx, Zby, Zbz, Zca, Zcb, Zcc, Zcd, Zce, Zcf, Zcg, evalT, Zch, Nat.reduceLT, Nat.reduceEqDiff, if_true, if_false, reduceIte, true_and, Zci, Zcj, map_ite', Zck, bind_ite', Zcl, Zcm, Zcn, Zco, Zcp, Zcq, Zcr, Zcs, Zct, Zcu, Zcv, Zcw, Zcx, Zcy, Zcz, Zda, Zdb, Zdc, Zdd, Zde, Zdf, Zdg, ofVal, ofCell, argT, List.getD_cons_zero, List.getD_cons_succ, List.getElem?_toArray, List.getElem?_cons_zero, List.getElem?_cons_succ, List.nil_append, List.cons_append, List.append_nil, resT, Zdh, Zdi, Nat.mul_one, Zdj, Zdk, Zdl, Zdm, Zdn, Zdo, Zdp, Zdq, Zdr, Zds, Zdt, setT, Zdu, Zdv, Zdw, Zdx, Zdy, List.append_eq, Zdz, Zea, Zeb, Zec, Zed, Zee, Zef, Zeg, Zeh, Nat.add_zero, Zei, Zej, Zek, Zel, Zem, Zen, Int.toNat_natCast, Bool.false_eq_true, Int.reduceEq, Int.reduceLT, Int.reduceLE, Int.reduceNeg, not_false_eq_true, and_self, Zeo, Zep, Int.natCast_one, Int.cast_ofNat_Int, not_true_eq_false, decide_true, decide_false, true_implies, false_implies, Int.toNat_zero, List.length_cons, List.length_nil, Nat.zero_add, mb, Nat.reduceBEq, Bool.false_and, Bool.and_false, Zeq, tys, stb, Zer, Zes, Zet, Zeu, Zev, Zew, Bool.or_false, Bool.false_or, Bool.true_and, Bool.or_true, Bool.true_or, Zex, Zey, empty_mk, Zeg, contains_call ws c hc hl, h, h2]
      simp [oneOr, sealDepth, sealV_bool]
  · simp -implicitDefEqProofs only [Tryd.f81, Zaa, Zab, Zac, Zad, Zae, Zaf, Zag, Zah, Zai, Zaj, Zak, Zal, Zam, Zan, Zao, Zap, Zaq, Zar, Zas, Zat, Zau, Zav, Zaw, Zax, Zay, Zaz, Zba, Zbb, Zbc, Zbd, Zbe, Zbf, Zbg, Zbh, Zbi, Zbj, Zbk, Zbl, Zbm, Zbn, Zbo, Zbp, Zbq, Zbr, Zbs, Zbt, Zbu, Zbv, Zbw, Zbx, Zby, Zbz, Zca, Zcb, Zcc, Zcd, Zce, Zcf, Zcg, evalT, Zch, Nat.reduceLT, Nat.reduceEqDiff, if_true, if_false, reduceIte, true_and, Zci, Zcj, map_ite', Zck, bind_ite', Zcl, Zcm, Zcn, Zco, Zcp, Zcq, Zcr, Zcs, Zct, Zcu, Zcv, Zcw, Zcx, Zcy, Zcz, Zda, Zdb, Zdc, Zdd, Zde, Zdf, Zdg, ofVal, ofCell, argT, List.getD_cons_zero, List.getD_cons_succ, List.getElem?_toArray, List.getElem?_cons_zero, List.getElem?_cons_succ, List.nil_append, List.cons_append, List.append_nil, resT, Zdh, Zdi, Nat.mul_one, Zdj, Zdk, Zdl, Zdm, Zdn, Zdo, Zdp, Zdq, Zdr, Zds, Zdt, setT, Zdu, Zdv, Zdw, Zdx, Zdy, List.append_eq, Zdz, Zea, Zeb, Zec, Zed, Zee, Zef, Zeg, Zeh, Nat.add_zero, Zei, Zej, Zek, Zel, Zem, Zen, Int.toNat_natCast, Bool.false_eq_true, Int.reduceEq, Int.reduceLT, Int.reduceLE, Int.reduceNeg, not_false_eq_true, and_self, Zeo, Zep, Int.natCast_one, Int.cast_ofNat_Int, not_true_eq_false, decide_true, decide_false, true_implies, false_implies, Int.toNat_zero, List.length_cons, List.length_nil, Nat.zero_add, mb, Nat.reduceBEq, Bool.false_and, Bool.and_false, Zeq, tys, stb, Zer, Zes, Zet, Zeu, Zev, Zew, Bool.or_false, Bool.false_or, Bool.true_and, Bool.or_true, Bool.true_or, Zex, Zey, empty_mk, Zeg, contains_call ws c hc hl, h]
    simp [oneOr, sealDepth, sealV_bool]
end Go.Proofs.YtbikmhpobflfeaaDoor

namespace Go.Proofs.YtbikmhpobflfeaaDoor
open Go.Ab
set_option maxRecDepth 100000
set_option linter.unusedSimpArgs false
set_option linter.unusedVariables false
def L1 : List (List UInt8) := W ["(", "[", "/", ".."]
def L2 : List (List UInt8) := W [")", "]", ",", "/", ".."]
def Lft (a : Tok) : Prop := a.kind = 5 ∧ a.text ∈ L1
def Rgt (b : Tok) : Prop := b.kind = 5 ∧ b.text ∈ L2
instance (a : Tok) : Decidable (Lft a) := by unfold Lft; infer_instance
instance (a : Tok) : Decidable (Rgt a) := by unfold Rgt; infer_instance
def Tight (a b : Tok) : Prop := Lft a ∨ Rgt b
instance (a b : Tok) : Decidable (Tight a b) := by unfold Tight; infer_instance
def Tok.none : Tok := ⟨0, [], 0, 0⟩
def piece (t : Tok) : List UInt8 := if t.kind = 4 then 39 :: (t.text ++ [39]) else t.text
/-- the text of the first tokens -/
def joinT (l : List Tok) : Nat → List UInt8
  | 0 => []
  | i + 1 => joinT l i ++ (if 0 < i ∧ ¬ Tight (l.getD (i - 1) Tok.none) (l.getD i Tok.none) then [32] else []) ++ piece (l.getD i Tok.none)
theorem joinT_len (l : List Tok) (h : ∀ i, i < l.length → (l.getD i Tok.none).text.length ≤ 1000) : ∀ i, i ≤ l.length → (joinT l i).length ≤ 1003 * i
  | 0, _ => by simp [joinT]
  | i + 1, hi => by
    have ih := joinT_len l h i (by omega)
    have h1 := h i (by omega)
    have h2 : (piece (l.getD i Tok.none)).length ≤ 1002 := by
      unfold piece; split <;> (try simp only [List.length_append, List.length_cons, List.length_nil]) <;> omega
    have h3 : (if 0 < i ∧ ¬ Tight (l.getD (i - 1) Tok.none) (l.getD i Tok.none) then ([32] : List UInt8) else []).length ≤ 1 := by split <;> simp
    simp only [joinT, List.length_append]
    omega
def flatT (l : List Tok) : List V := (l.map Tok.cells).flatten
def IsT (v : V) (l : List Tok) : Prop := (v = .nilsl ∧ l = []) ∨ v = .row (flatT l) l.length .unk
theorem flatT_cons (c : Tok) (cs : List Tok) : flatT (c :: cs) = .int .i64 c.kind :: .str c.text :: .int .i64 c.n :: .int .i64 c.pos :: flatT cs := rfl
theorem flatT_drop : ∀ (cs : List Tok) (i : Nat), (flatT cs).drop (i * 4) = flatT (cs.drop i)
  | cs, 0 => by simp
  | [], i + 1 => by simp [flatT]
  | c :: cs, i + 1 => by
    rw [flatT_cons, show (i + 1) * 4 = i * 4 + 1 + 1 + 1 + 1 by omega]
    simp only [List.drop_succ_cons]
    exact flatT_drop cs i
theorem flatT_at {cs : List Tok} {i : Nat} (hi : i < cs.length) : flatT (cs.drop i) = .int .i64 (cs.getD i Tok.none).kind :: .str (cs.getD i Tok.none).text :: .int .i64 (cs.getD i Tok.none).n :: .int .i64 (cs.getD i Tok.none).pos :: flatT (cs.drop (i + 1)) := by
  have e : cs.drop i = cs.getD i Tok.none :: cs.drop (i + 1) := by
    rw [List.drop_eq_getElem_cons hi]
    simp [List.getD, hi]
  rw [e, flatT_cons]
theorem len_T {v : V} {cs : List Tok} (h : IsT v cs) : vLenT (some (.slice 52)) v = some (.int .i64 cs.length) := by
  rcases h with ⟨rfl, rfl⟩ | rfl <;> rfl
theorem idx_T {v : V} {cs : List Tok} (h : IsT v cs) {i : Nat} (hi : i < cs.length) : vIndexAddr 4 v (.int .i64 (i : Int)) = some (.rptr (.int .i64 (cs.getD i Tok.none).kind :: .str (cs.getD i Tok.none).text :: .int .i64 (cs.getD i Tok.none).n :: .int .i64 (cs.getD i Tok.none).pos :: flatT (cs.drop (i + 1)))) := by
  rcases h with ⟨rfl, rfl⟩ | rfl
  · simp at hi
  · rw [Zdc, if_pos (by omega), Int.toNat_natCast, flatT_drop, flatT_at hi]
theorem closed_flatT : ∀ l : List Tok, V.closed.closedL (flatT l) = true
  | [] => rfl
  | c :: cs => by
    rw [flatT_cons]
    simp only [V.closed.closedL, V.closed, closed_flatT cs, Bool.and_self]
theorem closed_T {v : V} {l : List Tok} (h : IsT v l) : v.closed = true := by
  rcases h with ⟨rfl, rfl⟩ | rfl
  · rfl
  · simp only [V.closed, closed_flatT, Bool.and_self]
theorem load4_rptr (h : List AObj) (a b c d : V) (r : List V) : loadCellsV h 4 (.rptr (a :: b :: c :: d :: r)) = some [a, b, c, d] := by simp [loadCellsV]
theorem load4_ptr {h : List AObj} {n : Nat} {a b c d : V} {t : TypeId} (hh : h[n]? = some (.cells [a, b, c, d] t)) : loadCellsV h 4 (.ptr n 0) = some [a, b, c, d] := by simp [loadCellsV, hh]
theorem heap_end (L : List AObj) (o : AObj) : (L ++ [o])[L.length]? = some o := by simp
theorem set_end (L : List AObj) (o o' : AObj) : (L ++ [o]).set L.length o' = L ++ [o'] := by simp
theorem Bld.app {L : List AObj} {ts : List Nat} {p : Nat} {s : List UInt8} (h : Bld ⟨L, ts⟩ p s) (o : AObj) : Bld ⟨L ++ [o], ts⟩ p s := by
  obtain ⟨a, v, h1, h2, h3⟩ := h
  refine ⟨a, v, get_app h1 _, h2, ?_⟩
  rcases h3 with h | ⟨b, h4, h5, h6⟩
  · exact .inl h
  · exact .inr ⟨b, h4, get_app h5 _, h6⟩
theorem at85 : env.P.funcs[85]? = some Tryd.f85 := by kernel_rfl
theorem at48 : env.P.funcs[48]? = some Tryd.f48 := by kernel_rfl
theorem at49 : env.P.funcs[49]? = some Tryd.f49 := by kernel_rfl
theorem seal_b (h : List AObj) (b b' : Bool) (e : b = b') : sealV h sealDepth (oneOr [V.bool b]) = some (.bool b') := by
  subst e; simp [oneOr, sealDepth, sealV_bool]
theorem isCell_str (s : List UInt8) : (V.str s).isCell = true := rfl
theorem l1 (a : Tok) : Lft a ↔ (a.kind = 5 ∧ (a.text = [40] ∨ a.text = [91] ∨ a.text = [47] ∨ a.text = [46, 46])) := by
  have e : L1 = [[40], [91], [47], [46, 46]] := by kernel_rfl
  unfold Lft; rw [e]; simp
theorem l2 (b : Tok) : Rgt b ↔ (b.kind = 5 ∧ (b.text = [41] ∨ b.text = [93] ∨ b.text = [44] ∨ b.text = [47] ∨ b.text = [46, 46])) := by
  have e : L2 = [[41], [93], [44], [47], [46, 46]] := by kernel_rfl
  unfold Rgt; rw [e]; simp
theorem tight1 (a b : Tok) {Q : Post} {ks : List Kt} {T : Tm} (t2 : T 2 = .ptr 0 0) (t3 : T 3 = .ptr 1 0) (h : ∀ T', T' 2 = .ptr 0 0 → T' 3 = .ptr 1 0 → T' 5 = .bool (decide (Lft a)) → G env 85 none 62 Q ks .skip T' [] ⟨[.cells [.int .i64 a.kind, .str a.text, .int .i64 a.n, .int .i64 a.pos] 52, .cells [.int .i64 b.kind, .str b.text, .int .i64 b.n, .int .i64 b.pos] 52], []⟩) :
    G env 85 none 62 Q ks (regZ 1 (bodyOf Tryd.f85)) T [] ⟨[.cells [.int .i64 a.kind, .str a.text, .int .i64 a.n, .int .i64 a.pos] 52, .cells [.int .i64 b.kind, .str b.text, .int .i64 b.n, .int .i64 b.pos] 52], []⟩ := by
  by_cases pk : a.kind = 5
  case neg =>
    have e : decide (Lft a) = false := by simp only [l1, eq_false pk]; rfl
    rw [e] at h
    simp -implicitDefEqProofs only [regZ, regA, bodyOf, Tryd.f85, Option.getD_some, Option.or, Nat.reduceEqDiff, if_false, if_true, reduceIte, Zaa, Zab, Zac, Zad, Zae, Zaf, Zag, Zah, Zai, Zaj, Zak, Zal, Zam, Zan, Zao, Zap, Zaq, Zar, Zas, Zat, Zau, Zav, Zaw, Zax, Zay, Zaz, Zba, Zbb, Zbc, Zbd, Zbe, Zbf, Zbg, Zbh, Zbi, Zbj, Zbk, Zbl, Zbm, Zbn, Zbo, Zbp, Zbq, Zbr, Zbs, Zbt, Zbu, Zbv, Zbw, Zbx, Zby, Zbz, Zca, Zcb, Zcc, Zcd, Zce, Zcf, Zcg, evalT, Zch, Nat.reduceLT, Nat.reduceEqDiff, if_true, if_false, reduceIte, true_and, Zci, Zcj, map_ite', Zck, bind_ite', Zcl, Zcm, Zcn, Zco, Zcp, Zcq, Zcr, Zcs, Zct, Zcu, Zcv, Zcw, Zcx, Zcy, Zcz, Zda, Zdb, Zdc, Zdd, Zde, Zdf, Zdg, ofVal, ofCell, argT, List.getD_cons_zero, List.getD_cons_succ, List.getElem?_toArray, List.getElem?_cons_zero, List.getElem?_cons_succ, List.nil_append, List.cons_append, List.append_nil, resT, Zdh, Zdi, Nat.mul_one, Zdj, Zdk, Zdl, Zdm, Zdn, Zdo, Zdp, Zdq, Zdr, Zds, Zdt, setT, Zdu, Zdv, Zdw, Zdx, Zdy, List.append_eq, Zdz, Zea, Zeb, Zec, Zed, Zee, Zef, Zeg, Zeh, Nat.add_zero, Zei, Zej, Zek, Zel, Zem, Zen, Int.toNat_natCast, Bool.false_eq_true, Int.reduceEq, Int.reduceLT, Int.reduceLE, Int.reduceNeg, not_false_eq_true, and_self, Zeo, Zep, Int.natCast_one, Int.cast_ofNat_Int, not_true_eq_false, decide_true, decide_false, true_implies, false_implies, Int.toNat_zero, List.length_cons, List.length_nil, Nat.zero_add, mb, Nat.reduceBEq, Bool.false_and, Bool.and_false, Zeq, tys, stb, Zer, Zes, Zet, Zeu, Zev, Zew, Bool.or_false, Bool.false_or, Bool.true_and, Bool.or_true, Bool.true_or, Zex, Zey, vBin_seql, t2, t3, eq_false pk]
    refine h _ ?_ ?_ ?_ <;> first | exact t2 | exact t3 | rfl
  by_cases p0 : a.text = [40]
  case pos =>
    have e : decide (Lft a) = true := by simp only [l1, eq_true pk, eq_true p0]; rfl
    rw [e] at h
    simp -implicitDefEqProofs only [regZ, regA, bodyOf, Tryd.f85, Option.getD_some, Option.or, Nat.reduceEqDiff, if_false, if_true, reduceIte, Zaa, Zab, Zac, Zad, Zae, Zaf, Zag, Zah, Zai, Zaj, Zak, Zal, Zam, Zan, Zao, Zap, Zaq, Zar, Zas, Zat, Zau, Zav, Zaw, Zax, Zay, Zaz, Zba, Zbb, Zbc, Zbd, Zbe, Zbf, Zbg, Zbh, Zbi, Zbj, Zbk, Zbl, Zbm, Zbn, Zbo, Zbp, Zbq, Zbr, Zbs, Zbt, Zbu, Zbv, Zbw, Zbx, Zby, Zbz, Zca, Zcb, Zcc, Zcd, Zce, Zcf, Zcg, evalT, Zch, Nat.reduceLT, Nat.reduceEqDiff, if_true, if_false, reduceIte, true_and, Zci, Zcj, map_ite', Zck, bind_ite', Zcl, Zcm, Zcn, Zco, Zcp, Zcq, Zcr, Zcs, Zct, Zcu, Zcv, Zcw, Zcx, Zcy, Zcz, Zda, Zdb, Zdc, Zdd, Zde, Zdf, Zdg, ofVal, ofCell, argT, List.getD_cons_zero, List.getD_cons_succ, List.getElem?_toArray, List.getElem?_cons_zero, List.getElem?_cons_succ, List.nil_append, List.cons_append, List.append_nil, resT, Zdh, Zdi, Nat.mul_one, Zdj, Zdk, Zdl, Zdm, Zdn, Zdo, Zdp, Zdq, Zdr, Zds, Zdt, setT, Zdu, Zdv, Zdw, Zdx, Zdy, List.append_eq, Zdz, Zea, Zeb, Zec, Zed, Zee, Zef, Zeg, Zeh, Nat.add_zero, Zei, Zej, Zek, Zel, Zem, Zen, Int.toNat_natCast, Bool.false_eq_true, Int.reduceEq, Int.reduceLT, Int.reduceLE, Int.reduceNeg, not_false_eq_true, and_self, Zeo, Zep, Int.natCast_one, Int.cast_ofNat_Int, not_true_eq_false, decide_true, decide_false, true_implies, false_implies, Int.toNat_zero, List.length_cons, List.length_nil, Nat.zero_add, mb, Nat.reduceBEq, Bool.false_and, Bool.and_false, Zeq, tys, stb, Zer, Zes, Zet, Zeu, Zev, Zew, Bool.or_false, Bool.false_or, Bool.true_and, Bool.or_true, Bool.true_or, Zex, Zey, vBin_seql, t2, t3, eq_true pk, eq_true p0]
    refine h _ ?_ ?_ ?_ <;> first | exact t2 | exact t3 | rfl
  by_cases p1 : a.text = [91]
  case pos =>
    have e : decide (Lft a) = true := by simp only [l1, eq_true pk, eq_false p0, eq_true p1]; rfl
    rw [e] at h
    simp -implicitDefEqProofs only [regZ, regA, bodyOf, Tryd.f85, Option.getD_some, Option.or, Nat.reduceEqDiff, if_false, if_true, reduceIte, Zaa, Zab, Zac, Zad, Zae, Zaf, Zag, Zah, Zai, Zaj, Zak, Zal, Zam, Zan, Zao, Zap, Zaq, Zar, Zas, Zat, Zau, Zav, Zaw, Zax, Zay, Zaz, Zba, Zbb, Zbc, Zbd, Zbe, Zbf, Zbg, Zbh, Zbi, Zbj, Zbk, Zbl, Zbm, Zbn, Zbo, Zbp, Zbq, Zbr, Zbs, Zbt, Zbu, Zbv, Zbw, Zbx, Zby, Zbz, Zca, Zcb, Zcc, Zcd, Zce, Zcf, Zcg, evalT, Zch, Nat.reduceLT, Nat.reduceEqDiff, if_true, if_false, reduceIte, true_and, Zci, Zcj, map_ite', Zck, bind_ite', Zcl, Zcm, Zcn, Zco, Zcp, Zcq, Zcr, Zcs, Zct, Zcu, Zcv, Zcw, Zcx, Zcy, Zcz, Zda, Zdb, Zdc, Zdd, Zde, Zdf, Zdg, ofVal, ofCell, argT, List.getD_cons_zero, List.getD_cons_succ, List.getElem?_toArray, List.getElem?_cons_zero, List.getElem?_cons_succ, List.nil_append, List.cons_append, List.append_nil, resT, Zdh, Zdi, Nat.mul_one, Zdj, Zdk, Zdl, Zdm, Zdn, Zdo, Zdp, Zdq, Zdr, Zds, Zdt, setT, Zdu, Zdv, Zdw, Zdx, Zdy, List.append_eq, Zdz, Zea, Zeb, Zec, Zed, Zee, Zef, Zeg, Zeh, Nat.add_zero, Zei, Zej, Zek, Zel, Zem, Zen, Int.toNat_natCast, Bool.false_eq_true, Int.reduceEq, Int.reduceLT, Int.reduceLE, Int.reduceNeg, not_false_eq_true, and_self, Zeo, Zep, Int.natCast_one, Int.cast_ofNat_Int, not_true_eq_false, decide_true, decide_false, true_implies, false_implies, Int.toNat_zero, List.length_cons, List.length_nil, Nat.zero_add, mb, Nat.reduceBEq, Bool.false_and, Bool.and_false, Zeq, tys, stb, Zer, Zes, Zet, Zeu, Zev, Zew, Bool.or_false, Bool.false_or, Bool.true_and, Bool.or_true, Bool.true_or, Zex, Zey, vBin_seql, t2, t3, eq_true pk, eq_false p0, eq_true p1]
    refine h _ ?_ ?_ ?_ <;> first | exact t2 | exact t3 | rfl
  by_cases p2 : a.text = [47]
  case pos =>
    have e : decide (Lft a) = true := by simp only [l1, eq_true pk, eq_false p0, eq_false p1, eq_true p2]; rfl
    rw [e] at h
    simp -implicitDefEqProofs only [regZ, regA, bodyOf, Tryd.f85, Option.getD_some, Option.or, Nat.reduceEqDiff, if_false, if_true, reduceIte, Zaa, Zab, Zac, Zad, Zae, Zaf, Zag, Zah, Zai, Zaj, Zak, Zal, Zam, Zan, Zao, Zap, Zaq, Zar, Zas, Zat, Zau, Zav, Zaw, Zax, Zay, Zaz, Zba, Zbb, Zbc, Zbd, Zbe, Zbf, Zbg, Zbh, Zbi, Zbj, Zbk, Zbl, Zbm, Zbn, Zbo, Zbp, Zbq, Zbr, Zbs, Zbt, Zbu, Zbv, Zbw, Zbx, Zby, Zbz, Zca, Zcb, Zcc, Zcd, Zce, Zcf, Zcg, evalT, Zch, Nat.reduceLT, Nat.reduceEqDiff, if_true, if_false, reduceIte, true_and, Zci, Zcj, map_ite', Zck, bind_ite', Zcl, Zcm, Zcn, Zco, Zcp, Zcq, Zcr, Zcs, Zct, Zcu, Zcv, Zcw, Zcx, Zcy, Zcz, Zda, Zdb, Zdc, Zdd, Zde, Zdf, Zdg, ofVal, ofCell, argT, List.getD_cons_zero, List.getD_cons_succ, List.getElem?_toArray, List.getElem?_cons_zero, List.getElem?_cons_succ, List.nil_append, List.cons_append, List.append_nil, resT, Zdh, Zdi, Nat.mul_one, Zdj, Zdk, Zdl, Zdm, Zdn, Zdo, Zdp, Zdq, Zdr, Zds, Zdt, setT, Zdu, Zdv, Zdw, Zdx, Zdy, List.append_eq, Zdz, Zea, Zeb, Zec, Zed, Zee, Zef, Zeg, Zeh, Nat.add_zero, Zei, Zej, Zek, Zel, Zem, Zen, Int.toNat_natCast, Bool.false_eq_true, Int.reduceEq, Int.reduceLT, Int.reduceLE, Int.reduceNeg, not_false_eq_true, and_self, Zeo, Zep, Int.natCast_one, Int.cast_ofNat_Int, not_true_eq_false, decide_true, decide_false, true_implies, false_implies, Int.toNat_zero, List.length_cons, List.length_nil, Nat.zero_add, mb, Nat.reduceBEq, Bool.false_and, Bool.and_false, Zeq, tys, stb, Zer, Zes, Zet, Zeu, Zev, Zew, Bool.or_false, Bool.false_or, Bool.true_and, Bool.or_true, Bool.true_or, Zex, Zey, vBin_seql, t2, t3, eq_true pk, eq_false p0, eq_false p1, eq_true p2]
    refine h _ ?_ ?_ ?_ <;> first | exact t2 | exact t3 | rfl
  by_cases p3 : a.text = [46, 46]
  case pos =>
    have e : decide (Lft a) = true := by simp only [l1, eq_true pk, eq_false p0, eq_false p1, eq_false p2, eq_true p3]; rfl
    rw [e] at h
    simp -implicitDefEqProofs only [regZ, regA, bodyOf, Tryd.f85, Option.getD_some, Option.or, Nat.reduceEqDiff, if_false, if_true, reduceIte, Zaa, Zab, Zac, Zad, Zae, Zaf, Zag, Zah, Zai, Zaj, Zak, Zal, Zam, Zan, Zao, Zap, Zaq, Zar, Zas, Zat, Zau, Zav, Zaw, Zax, Zay, Zaz, Zba, Zbb, Zbc, Zbd, Zbe, Zbf, Zbg, Zbh, Zbi, Zbj, Zbk, Zbl, Zbm, Zbn, Zbo, Zbp, Zbq, Zbr, Zbs, Zbt, Zbu, Zbv, Zbw, Zbx, Zby, Zbz, Zca, Zcb, Zcc, Zcd, Zce, Zcf, Zcg, evalT, Zch, Nat.reduceLT, Nat.reduceEqDiff, if_true, if_false, reduceIte, true_and, Zci, Zcj, map_ite', Zck, bind_ite', Zcl, Zcm, Zcn, Zco, Zcp, Zcq, Zcr, Zcs, Zct, Zcu, Zcv, Zcw, Zcx, Zcy, Zcz, Zda, Zdb, Zdc, Zdd, Zde, Zdf, Zdg, ofVal, ofCell, argT, List.getD_cons_zero, List.getD_cons_succ, List.getElem?_toArray, List.getElem?_cons_zero, List.getElem?_cons_succ, List.nil_append, List.cons_append, List.append_nil, resT, Zdh, Zdi, Nat.mul_one, Zdj, Zdk, Zdl, Zdm, Zdn, Zdo, Zdp, Zdq, Zdr, Zds, Zdt, setT, Zdu, Zdv, Zdw, Zdx, Zdy, List.append_eq, Zdz, Zea, Zeb, Zec, Zed, Zee, Zef, Zeg, Zeh, Nat.add_zero, Zei, Zej, Zek, Zel, Zem, Zen, Int.toNat_natCast, Bool.false_eq_true, Int.reduceEq, Int.reduceLT, Int.reduceLE, Int.reduceNeg, not_false_eq_true, and_self, Zeo, Zep, Int.natCast_one, Int.cast_ofNat_Int, not_true_eq_false, decide_true, decide_false, true_implies, false_implies, Int.toNat_zero, List.length_cons, List.length_nil, Nat.zero_add, mb, Nat.reduceBEq, Bool.false_and, Bool.and_false, Zeq, tys, stb, Zer, Zes, Zet, Zeu, Zev, Zew, Bool.or_false, Bool.false_or, Bool.true_and, Bool.or_true, Bool.true_or, Zex, Zey, vBin_seql, t2, t3, eq_true pk, eq_false p0, eq_false p1, eq_false p2, eq_true p3]
    refine h _ ?_ ?_ ?_ <;> first | exact t2 | exact t3 | rfl
  have e : decide (Lft a) = false := by simp only [l1, eq_true pk, eq_false p0, eq_false p1, eq_false p2, eq_false p3]; rfl
  rw [e] at h
  simp -implicitDefEqProofs only [regZ, regA, bodyOf, Tryd.f85, Option.getD_some, Option.or, Nat.reduceEqDiff, if_false, if_true, reduceIte, Zaa, Zab, Zac, Zad, Zae, Zaf, Zag, Zah, Zai, Zaj, Zak, Zal, Zam, Zan, Zao, Zap, Zaq, Zar, Zas, Zat, Zau, Zav, Zaw, Zax, Zay, Zaz, Zba, Zbb, Zbc, Zbd, Zbe, Zbf, Zbg, Zbh, Zbi, Zbj, Zbk, Zbl, Zbm, Zbn, Zbo, Zbp, Zbq, Zbr, Zbs, Zbt, Zbu, Zbv, Zbw, Zbx, Zby, Zbz, Zca, Zcb, Zcc, Zcd, Zce, Zcf, Zcg, evalT, Zch, Nat.reduceLT, Nat.reduceEqDiff, if_true, if_false, reduceIte, true_and, Zci, Zcj, map_ite', Zck, bind_ite', Zcl, Zcm, Zcn, Zco, Zcp, Zcq, Zcr, Zcs, Zct, Zcu, Zcv, Zcw, Zcx, Zcy, Zcz, Zda, Zdb, Zdc, Zdd, Zde, Zdf, Zdg, ofVal, ofCell, argT, List.getD_cons_zero, List.getD_cons_succ, List.getElem?_toArray, List.getElem?_cons_zero, List.getElem?_cons_succ, List.nil_append, List.cons_append, List.append_nil, resT, Zdh, Zdi, Nat.mul_one, Zdj, Zdk, Zdl, Zdm, Zdn, Zdo, Zdp, Zdq, Zdr, Zds, Zdt, setT, Zdu, Zdv, Zdw, Zdx, Zdy, List.append_eq, Zdz, Zea, Zeb, Zec, Zed, Zee, Zef, Zeg, Zeh, Nat.add_zero, Zei, Zej, Zek, Zel, Zem, Zen, Int.toNat_natCast, Bool.false_eq_true, Int.reduceEq, Int.reduceLT, Int.reduceLE, Int.reduceNeg, not_false_eq_true, and_self, Zeo, Zep, Int.natCast_one, Int.cast_ofNat_Int, not_true_eq_false, decide_true, decide_false, true_implies, false_implies, Int.toNat_zero, List.length_cons, List.length_nil, Nat.zero_add, mb, Nat.reduceBEq, Bool.false_and, Bool.and_false, Zeq, tys, stb, Zer, Zes, Zet, Zeu, Zev, Zew, Bool.or_false, Bool.false_or, Bool.true_and, Bool.or_true, Bool.true_or, Zex, Zey, vBin_seql, t2, t3, eq_true pk, eq_false p0, eq_false p1, eq_false p2, eq_false p3]
  refine h _ ?_ ?_ ?_ <;> first | exact t2 | exact t3 | rfl
theorem tight2 (a b : Tok) {Q : Post} {ks : List Kt} {T : Tm} (t2 : T 2 = .ptr 0 0) (t3 : T 3 = .ptr 1 0) (x : Bool) (t5 : T 5 = .bool x) (h : ∀ T', T' 2 = .ptr 0 0 → T' 3 = .ptr 1 0 → T' 5 = .bool x → T' 6 = .bool (decide (Rgt b)) → G env 85 none 62 Q ks .skip T' [] ⟨[.cells [.int .i64 a.kind, .str a.text, .int .i64 a.n, .int .i64 a.pos] 52, .cells [.int .i64 b.kind, .str b.text, .int .i64 b.n, .int .i64 b.pos] 52], []⟩) :
    G env 85 none 62 Q ks (regZ 2 (bodyOf Tryd.f85)) T [] ⟨[.cells [.int .i64 a.kind, .str a.text, .int .i64 a.n, .int .i64 a.pos] 52, .cells [.int .i64 b.kind, .str b.text, .int .i64 b.n, .int .i64 b.pos] 52], []⟩ := by
  by_cases qk : b.kind = 5
  case neg =>
    have e : decide (Rgt b) = false := by simp only [l2, eq_false qk]; rfl
    rw [e] at h
    simp -implicitDefEqProofs only [regZ, regA, bodyOf, Tryd.f85, Option.getD_some, Option.or, Nat.reduceEqDiff, if_false, if_true, reduceIte, Zaa, Zab, Zac, Zad, Zae, Zaf, Zag, Zah, Zai, Zaj, Zak, Zal, Zam, Zan, Zao, Zap, Zaq, Zar, Zas, Zat, Zau, Zav, Zaw, Zax, Zay, Zaz, Zba, Zbb, Zbc, Zbd, Zbe, Zbf, Zbg, Zbh, Zbi, Zbj, Zbk, Zbl, Zbm, Zbn, Zbo, Zbp, Zbq, Zbr, Zbs, Zbt, Zbu, Zbv, Zbw, Zbx, Zby, Zbz, Zca, Zcb, Zcc, Zcd, Zce, Zcf, Zcg, evalT, Zch, Nat.reduceLT, Nat.reduceEqDiff, if_true, if_false, reduceIte, true_and, Zci, Zcj, map_ite', Zck, bind_ite', Zcl, Zcm, Zcn, Zco, Zcp, Zcq, Zcr, Zcs, Zct, Zcu, Zcv, Zcw, Zcx, Zcy, Zcz, Zda, Zdb, Zdc, Zdd, Zde, Zdf, Zdg, ofVal, ofCell, argT, List.getD_cons_zero, List.getD_cons_succ, List.getElem?_toArray, List.getElem?_cons_zero, List.getElem?_cons_succ, List.nil_append, List.cons_append, List.append_nil, resT, Zdh, Zdi, Nat.mul_one, Zdj, Zdk, Zdl, Zdm, Zdn, Zdo, Zdp, Zdq, Zdr, Zds, Zdt, setT, Zdu, Zdv, Zdw, Zdx, Zdy, List.append_eq, Zdz, Zea, Zeb, Zec, Zed, Zee, Zef, Zeg, Zeh, Nat.add_zero, Zei, Zej, Zek, Zel, Zem, Zen, Int.toNat_natCast, Bool.false_eq_true, Int.reduceEq, Int.reduceLT, Int.reduceLE, Int.reduceNeg, not_false_eq_true, and_self, Zeo, Zep, Int.natCast_one, Int.cast_ofNat_Int, not_true_eq_false, decide_true, decide_false, true_implies, false_implies, Int.toNat_zero, List.length_cons, List.length_nil, Nat.zero_add, mb, Nat.reduceBEq, Bool.false_and, Bool.and_false, Zeq, tys, stb, Zer, Zes, Zet, Zeu, Zev, Zew, Bool.or_false, Bool.false_or, Bool.true_and, Bool.or_true, Bool.true_or, Zex, Zey, vBin_seql, t2, t3, eq_false qk]
    refine h _ ?_ ?_ ?_ ?_ <;> first | exact t2 | exact t3 | exact t5 | rfl
  by_cases q0 : b.text = [41]
  case pos =>
    have e : decide (Rgt b) = true := by simp only [l2, eq_true qk, eq_true q0]; rfl
    rw [e] at h
    simp -implicitDefEqProofs only [regZ, regA, bodyOf, Tryd.f85, Option.getD_some, Option.or, Nat.reduceEqDiff, if_false, if_true, reduceIte, Zaa, Zab, Zac, Zad, Zae, Zaf, Zag, Zah, Zai, Zaj, Zak, Zal, Zam, Zan, Zao, Zap, Zaq, Zar, Zas, Zat, Zau, Zav, Zaw, Zax, Zay, Zaz, Zba, Zbb, Zbc, Zbd, Zbe, Zbf, Zbg, Zbh, Zbi, Zbj, Zbk, Zbl, Zbm, Zbn, Zbo, Zbp, Zbq, Zbr, Zbs, Zbt, Zbu, Zbv, Zbw, Zbx, Zby, Zbz, Zca, Zcb, Zcc, Zcd, Zce, Zcf, Zcg, evalT, Zch, Nat.reduceLT, Nat.reduceEqDiff, if_true, if_false, reduceIte, true_and, Zci, Zcj, map_ite', Zck, bind_ite', Zcl, Zcm, Zcn, Zco, Zcp, Zcq, Zcr, Zcs, Zct, Zcu, Zcv, Zcw, Zcx, Zcy, Zcz, Zda, Zdb, Zdc, Zdd, Zde, Zdf, Zdg, ofVal, ofCell, argT, List.getD_cons_zero, List.getD_cons_succ, List.getElem?_toArray, List.getElem?_cons_zero, List.getElem?_cons_succ, List.nil_append, List.cons_append, List.append_nil, resT, Zdh, Zdi, Nat.mul_one, Zdj, Zdk, Zdl, Zdm, Zdn, Zdo, Zdp, Zdq, Zdr, Zds, Zdt, setT, Zdu, Zdv, Zdw, Zdx, Zdy, List.append_eq, Zdz, Zea, Zeb, Zec, Zed, Zee, Zef, Zeg, Zeh, Nat.add_zero, Zei, Zej, Zek, Zel, Zem, Zen, Int.toNat_natCast, Bool.false_eq_true, Int.reduceEq, Int.reduceLT, Int.reduceLE, Int.reduceNeg, not_false_eq_true, and_self, Zeo, Zep, Int.natCast_one, Int.cast_ofNat_Int, not_true_eq_false, decide_true, decide_false, true_implies, false_implies, Int.toNat_zero, List.length_cons, List.length_nil, Nat.zero_add, mb, Nat.reduceBEq, Bool.false_and, Bool.and_false, Zeq, tys, stb, Zer, Zes, Zet, Zeu, Zev, Zew, Bool.or_false, Bool.false_or, Bool.true_and, Bool.or_true, Bool.true_or, Zex, Zey, vBin_seql, t2, t3, eq_true qk, eq_true q0]
    refine h _ ?_ ?_ ?_ ?_ <;> first | exact t2 | exact t3 | exact t5 | rfl
  by_cases q1 : b.text = [93]
  case pos =>
    have e : decide (Rgt b) = true := by simp only [l2, eq_true qk, eq_false q0, eq_true q1]; rfl
    rw [e] at h
    simp -implicitDefEqProofs only [regZ, regA, bodyOf, Tryd.f85, Option.getD_some, Option.or, Nat.reduceEqDiff, if_false, if_true, reduceIte, Zaa, Zab, Zac, Zad, Zae, Zaf, Zag, Zah, Zai, Zaj, Zak, Zal, Zam, Zan, Zao, Zap, Zaq, Zar, Zas, Zat, Zau, Zav, Zaw, Zax, Zay, Zaz, Zba, Zbb, Zbc, Zbd, Zbe, Zbf, Zbg, Zbh, Zbi, Zbj, Zbk, Zbl, Zbm, Zbn, Zbo, Zbp, Zbq, Zbr, Zbs, Zbt, Zbu, Zbv, Zbw, Zbx, Zby, Zbz, Zca, Zcb, Zcc, Zcd, Zce, Zcf, Zcg, evalT, Zch, Nat.reduceLT, Nat.reduceEqDiff, if_true, if_false, reduceIte, true_and, Zci, Zcj, map_ite', Zck, bind_ite', Zcl, Zcm, Zcn, Zco, Zcp, Zcq, Zcr, Zcs, Zct, Zcu, Zcv, Zcw, Zcx, Zcy, Zcz, Zda, Zdb, Zdc, Zdd, Zde, Zdf, Zdg, ofVal, ofCell, argT, List.getD_cons_zero, List.getD_cons_succ, List.getElem?_toArray, List.getElem?_cons_zero, List.getElem?_cons_succ, List.nil_append, List.cons_append, List.append_nil, resT, Zdh, Zdi, Nat.mul_one, Zdj, Zdk, Zdl, Zdm, Zdn, Zdo, Zdp, Zdq, Zdr, Zds, Zdt, setT, Zdu, Zdv, Zdw, Zdx, Zdy, List.append_eq, Zdz, Zea, Zeb, Zec, Zed, Zee, Zef, Zeg, Zeh, Nat.add_zero, Zei, Zej, Zek, Zel, Zem, Zen, Int.toNat_natCast, Bool.false_eq_true, Int.reduceEq, Int.reduceLT, Int.reduceLE, Int.reduceNeg, not_false_eq_true, and_self, Zeo, Zep, Int.natCast_one, Int.cast_ofNat_Int, not_true_eq_false, decide_true, decide_false, true_implies, false_implies, Int.toNat_zero, List.length_cons, List.length_nil, Nat.zero_add, mb, Nat.reduceBEq, Bool.false_and, Bool.and_false, Zeq, tys, stb, Zer, Zes, Zet, Zeu, Zev, Zew, Bool.or_false, Bool.false_or, Bool.true_and, Bool.or_true, Bool.true_or, Zex, Zey, vBin_seql, t2, t3, eq_true qk, eq_false q0, eq_true q1]
    refine h _ ?_ ?_ ?_ ?_ <;> first | exact t2 | exact t3 | exact t5 | rfl
  by_cases q2 : b.text = [44]
  case pos =>
    have e : decide (Rgt b) = true := by simp only [l2, eq_true qk, eq_false q0, eq_false q1, eq_true q2]; rfl
    rw [e] at h
    simp -implicitDefEqProofs only [regZ, regA, bodyOf, Tryd.f85, Option.getD_some, Option.or, Nat.reduceEqDiff, if_false, if_true, reduceIte, Zaa, Zab, Zac, Zad, Zae, Zaf, Zag, Zah, Zai, Zaj, Zak, Zal, Zam, Zan, Zao, Zap, Zaq, Zar, Zas, Zat, Zau, Zav, Zaw, Zax, Zay, Zaz, Zba, Zbb, Zbc, Zbd, Zbe, Zbf, Zbg, Zbh, Zbi, Zbj, Zbk, Zbl, Zbm, Zbn, Zbo, Zbp, Zbq, Zbr, Zbs, Zbt, Zbu, Zbv, Zbw, Zbx, Zby, Zbz, Zca, Zcb, Zcc, Zcd, Zce, Zcf, Zcg, evalT, Zch, Nat.reduceLT, Nat.reduceEqDiff, if_true, if_false, reduceIte, true_and, Zci, Zcj, map_ite', Zck, bind_ite', Zcl, Zcm, Zcn, Zco, Zcp, Zcq, Zcr, Zcs, Zct, Zcu, Zcv, Zcw, Zcx, Zcy, Zcz, Zda, Zdb, Zdc, Zdd, Zde, Zdf, Zdg, ofVal, ofCell, argT, List.getD_cons_zero, List.getD_cons_succ, List.getElem?_toArray, List.getElem?_cons_zero, List.getElem?_cons_succ, List.nil_append, List.cons_append, List.append_nil, resT, Zdh, Zdi, Nat.mul_one, Zdj, Zdk, Zdl, Zdm, Zdn, Zdo, Zdp, Zdq, Zdr, Zds, Zdt, setT, Zdu, Zdv, Zdw, Zdx, Zdy, List.append_eq, Zdz, Zea, Zeb, Zec, Zed, Zee, Zef, Zeg, Zeh, Nat.add_zero, Zei, Zej, Zek, Zel, Zem, Zen, Int.toNat_natCast, Bool.false_eq_true, Int.reduceEq, Int.reduceLT, Int.reduceLE, Int.reduceNeg, not_false_eq_true, and_self, Zeo, Zep, Int.natCast_one, Int.cast_ofNat_Int, not_true_eq_false, decide_true, decide_false, true_implies, false_implies, Int.toNat_zero, List.length_cons, List.length_nil, Nat.zero_add, mb, Nat.reduceBEq, Bool.false_and, Bool.and_false, Zeq, tys, stb, Zer, Zes, Zet, Zeu, Zev, Zew, Bool.or_false, Bool.false_or, Bool.true_and, Bool.or_true, Bool.true_or, Zex, Zey, vBin_seql, t2, t3, eq_true qk, eq_false q0, eq_false q1, eq_true q2]
    refine h _ ?_ ?_ ?_ ?_ <;> first | exact t2 | exact t3 | exact t5 | rfl
  by_cases q3 : b.text = [47]
  case pos =>
    have e : decide (Rgt b) = true := by simp only [l2, eq_true qk, eq_false q0, eq_false q1, eq_false q2, eq_true q3]; rfl
    rw [e] at h
    simp -implicitDefEqProofs only [regZ, regA, bodyOf, Tryd.f85, Option.getD_some, Option.or, Nat.reduceEqDiff, if_false, if_true, reduceIte, Zaa, Zab, Zac, Zad, Zae, Zaf, Zag, Zah, Zai, Zaj, Zak, Zal, Zam, Zan, Zao, Zap, Zaq, Zar, Zas, Zat, Zau, Zav, Zaw, Zax, Zay, Zaz, Zba, Zbb, Zbc, Zbd, Zbe, Zbf, Zbg, Zbh, Zbi, Zbj, Zbk, Zbl, Zbm, Zbn, Zbo, Zbp, Zbq, Zbr, Zbs, Zbt, Zbu, Zbv, Zbw, Zbx, Zby, Zbz, Zca, Zcb, Zcc, Zcd, Zce, Zcf, Zcg, evalT, Zch, Nat.reduceLT, Nat.reduceEqDiff, if_true, if_false, reduceIte, true_and, Zci, Zcj, map_ite', Zck, bind_ite', Zcl, Zcm, Zcn, Zco, Zcp, Zcq, Zcr, Zcs, Zct, Zcu, Zcv, Zcw, Zcx, Zcy, Zcz, Zda, Zdb, Zdc, Zdd, Zde, Zdf, Zdg, ofVal, ofCell, argT, List.getD_cons_zero, List.getD_cons_succ, List.getElem?_toArray, List.getElem?_cons_zero, List.getElem?_cons_succ, List.nil_append, List.cons_append, List.append_nil, resT, Zdh, Zdi, Nat.mul_one, Zdj, Zdk, Zdl, Zdm, Zdn, Zdo, Zdp, Zdq, Zdr, Zds, Zdt, setT, Zdu, Zdv, Zdw, Zdx, Zdy, List.append_eq, Zdz, Zea, Zeb, Zec, Zed, Zee, Zef, Zeg, Zeh, Nat.add_zero, Zei, Zej, Zek, Zel, Zem, Zen, Int.toNat_natCast, Bool.false_eq_true, Int.reduceEq, Int.reduceLT, Int.reduceLE, Int.reduceNeg, not_false_eq_true, and_self, Zeo, Zep, Int.natCast_one, Int.cast_ofNat_Int, not_true_eq_false, decide_true, decide_false, true_implies, false_implies, Int.toNat_zero, List.length_cons, List.length_nil, Nat.zero_add, mb, Nat.reduceBEq, Bool.false_and, Bool.and_false, Zeq, tys, stb, Zer, Zes, Zet, Zeu, Zev, Zew, Bool.or_false, Bool.false_or, Bool.true_and, Bool.or_true, Bool.true_or, Zex, Zey, vBin_seql, t2, t3, eq_true qk, eq_false q0, eq_false q1, eq_false q2, eq_true q3]
    refine h _ ?_ ?_ ?_ ?_ <;> first | exact t2 | exact t3 | exact t5 | rfl
  by_cases q4 : b.text = [46, 46]
  case pos =>
    have e : decide (Rgt b) = true := by simp only [l2, eq_true qk, eq_false q0, eq_false q1, eq_false q2, eq_false q3, eq_true q4]; rfl
    rw [e] at h
    simp -implicitDefEqProofs only [regZ, regA, bodyOf, Tryd.f85, Option.getD_some, Option.or, Nat.reduceEqDiff, if_false, if_true, reduceIte, Zaa, Zab, Zac, Zad, Zae, Zaf, Zag, Zah, Zai, Zaj, Zak, Zal, Zam, Zan, Zao, Zap, Zaq, Zar, Zas, Zat, Zau, Zav, Zaw, Zax, Zay, Zaz, Zba, Zbb, Zbc, Zbd, Zbe, Zbf, Zbg, Zbh, Zbi, Zbj, Zbk, Zbl, Zbm, Zbn, Zbo, Zbp, Zbq, Zbr, Zbs, Zbt, Zbu, Zbv, Zbw, Zbx, Zby, Zbz, Zca, Zcb, Zcc, Zcd, Zce, Zcf, Zcg, evalT, Zch, Nat.reduceLT, Nat.reduceEqDiff, if_true, if_false, reduceIte, true_and, Zci, Zcj, map_ite', Zck, bind_ite', Zcl, Zcm, Zcn, Zco, Zcp, Zcq, Zcr, Zcs, Zct, Zcu, Zcv, Zcw, Zcx, Zcy, Zcz, Zda, Zdb, Zdc, Zdd, Zde, Zdf, Zdg, ofVal, ofCell, argT, List.getD_cons_zero, List.getD_cons_succ, List.getElem?_toArray, List.getElem?_cons_zero, List.getElem?_cons_succ, List.nil_append, List.cons_append, List.append_nil, resT, Zdh, Zdi, Nat.mul_one, Zdj, Zdk, Zdl, Zdm, Zdn, Zdo, Zdp, Zdq, Zdr, Zds, Zdt, setT, Zdu, Zdv, Zdw, Zdx, Zdy, List.append_eq, Zdz, Zea, Zeb, Zec, Zed, Zee, Zef, Zeg, Zeh, Nat.add_zero, Zei, Zej, Zek, Zel, Zem, Zen, Int.toNat_natCast, Bool.false_eq_true, Int.reduceEq, Int.reduceLT, Int.reduceLE, Int.reduceNeg, not_false_eq_true, and_self, Zeo, Zep, Int.natCast_one, Int.cast_ofNat_Int, not_true_eq_false, decide_true, decide_false, true_implies, false_implies, Int.toNat_zero, List.length_cons, List.length_nil, Nat.zero_add, mb, Nat.reduceBEq, Bool.false_and, Bool.and_false, Zeq, tys, stb, Zer, Zes, Zet, Zeu, Zev, Zew, Bool.or_false, Bool.false_or, Bool.true_and, Bool.or_true, Bool.true_or, Zex, Zey, vBin_seql, t2, t3, eq_true qk, eq_false q0, eq_false q1, eq_false q2, eq_false q3, eq_true q4]
    refine h _ ?_ ?_ ?_ ?_ <;> first | exact t2 | exact t3 | exact t5 | rfl
  have e : decide (Rgt b) = false := by simp only [l2, eq_true qk, eq_false q0, eq_false q1, eq_false q2, eq_false q3, eq_false q4]; rfl
  rw [e] at h
  simp -implicitDefEqProofs only [regZ, regA, bodyOf, Tryd.f85, Option.getD_some, Option.or, Nat.reduceEqDiff, if_false, if_true, reduceIte, Zaa, Zab, Zac, Zad, Zae, Zaf, Zag, Zah, Zai, Zaj, Zak, Zal, Zam, Zan, Zao, Zap, Zaq, Zar, Zas, Zat, Zau, Zav, Zaw, Zax, Zay, Zaz, Zba, Zbb, Zbc, Zbd, Zbe, Zbf, Zbg, Zbh, Zbi, Zbj, Zbk, Zbl, Zbm, Zbn, Zbo, Zbp, Zbq, Zbr, Zbs, Zbt, Zbu, Zbv, Zbw, Zbx, Zby, Zbz, Zca, Zcb, Zcc, Zcd, Zce, Zcf, Zcg, evalT, Zch, Nat.reduceLT, Nat.reduceEqDiff, if_true, if_false, reduceIte, true_and, Zci, Zcj, map_ite', Zck, bind_ite', Zcl, Zcm, Zcn, Zco, Zcp, Zcq, Zcr, Zcs, Zct, Zcu, Zcv, Zcw, Zcx, Zcy, Zcz, Zda, Zdb, Zdc, Zdd, Zde, Zdf, Zdg, ofVal, ofCell, argT, List.getD_cons_zero, List.getD_cons_succ, List.getElem?_toArray, List.getElem?_cons_zero, List.getElem?_cons_succ, List.nil_append, List.cons_append, List.append_nil, resT, Zdh, Zdi, Nat.mul_one, Zdj, Zdk, Zdl, Zdm, Zdn, Zdo, Zdp, Zdq, Zdr, Zds, Zdt, setT, Zdu, Zdv, Zdw, Zdx, Zdy, List.append_eq, Zdz, Zea, Zeb, Zec, Zed, Zee, Zef, Zeg, Zeh, Nat.add_zero, Zei, Zej, Zek, Zel, Zem, Zen, Int.toNat_natCast, Bool.false_eq_true, Int.reduceEq, Int.reduceLT, Int.reduceLE, Int.reduceNeg, not_false_eq_true, and_self, Zeo, Zep, Int.natCast_one, Int.cast_ofNat_Int, not_true_eq_false, decide_true, decide_false, true_implies, false_implies, Int.toNat_zero, List.length_cons, List.length_nil, Nat.zero_add, mb, Nat.reduceBEq, Bool.false_and, Bool.and_false, Zeq, tys, stb, Zer, Zes, Zet, Zeu, Zev, Zew, Bool.or_false, Bool.false_or, Bool.true_and, Bool.or_true, Bool.true_or, Zex, Zey, vBin_seql, t2, t3, eq_true qk, eq_false q0, eq_false q1, eq_false q2, eq_false q3, eq_false q4]
  refine h _ ?_ ?_ ?_ ?_ <;> first | exact t2 | exact t3 | exact t5 | rfl
theorem tight0 (a b : Tok) {Q : Post} {ks : List Kt} (h : ∀ T', T' 2 = .ptr 0 0 → T' 3 = .ptr 1 0 → G env 85 none 62 Q ks .skip T' [] ⟨[.cells [.int .i64 a.kind, .str a.text, .int .i64 a.n, .int .i64 a.pos] 52, .cells [.int .i64 b.kind, .str b.text, .int .i64 b.n, .int .i64 b.pos] 52], []⟩) :
    G env 85 none 62 Q ks (regZ 0 (bodyOf Tryd.f85)) (argT [.agg [.int .i64 a.kind, .str a.text, .int .i64 a.n, .int .i64 a.pos], .agg [.int .i64 b.kind, .str b.text, .int .i64 b.n, .int .i64 b.pos]]) [] S.empty := by
  simp -implicitDefEqProofs only [regZ, regA, bodyOf, Tryd.f85, Option.getD_some, Option.or, Nat.reduceEqDiff, if_false, if_true, reduceIte, Zaa, Zab, Zac, Zad, Zae, Zaf, Zag, Zah, Zai, Zaj, Zak, Zal, Zam, Zan, Zao, Zap, Zaq, Zar, Zas, Zat, Zau, Zav, Zaw, Zax, Zay, Zaz, Zba, Zbb, Zbc, Zbd, Zbe, Zbf, Zbg, Zbh, Zbi, Zbj, Zbk, Zbl, Zbm, Zbn, Zbo, Zbp, Zbq, Zbr, Zbs, Zbt, Zbu, Zbv, Zbw, Zbx, Zby, Zbz, Zca, Zcb, Zcc, Zcd, Zce, Zcf, Zcg, evalT, Zch, Nat.reduceLT, Nat.reduceEqDiff, if_true, if_false, reduceIte, true_and, Zci, Zcj, map_ite', Zck, bind_ite', Zcl, Zcm, Zcn, Zco, Zcp, Zcq, Zcr, Zcs, Zct, Zcu, Zcv, Zcw, Zcx, Zcy, Zcz, Zda, Zdb, Zdc, Zdd, Zde, Zdf, Zdg, ofVal, ofCell, argT, List.getD_cons_zero, List.getD_cons_succ, List.getElem?_toArray, List.getElem?_cons_zero, List.getElem?_cons_succ, List.nil_append, List.cons_append, List.append_nil, resT, Zdh, Zdi, Nat.mul_one, Zdj, Zdk, Zdl, Zdm, Zdn, Zdo, Zdp, Zdq, Zdr, Zds, Zdt, setT, Zdu, Zdv, Zdw, Zdx, Zdy, List.append_eq, Zdz, Zea, Zeb, Zec, Zed, Zee, Zef, Zeg, Zeh, Nat.add_zero, Zei, Zej, Zek, Zel, Zem, Zen, Int.toNat_natCast, Bool.false_eq_true, Int.reduceEq, Int.reduceLT, Int.reduceLE, Int.reduceNeg, not_false_eq_true, and_self, Zeo, Zep, Int.natCast_one, Int.cast_ofNat_Int, not_true_eq_false, decide_true, decide_false, true_implies, false_implies, Int.toNat_zero, List.length_cons, List.length_nil, Nat.zero_add, mb, Nat.reduceBEq, Bool.false_and, Bool.and_false, Zeq, tys, stb, Zer, Zes, Zet, Zeu, Zev, Zew, Bool.or_false, Bool.false_or, Bool.true_and, Bool.or_true, Bool.true_or, Zex, Zey, empty_mk, Zeg]
  refine h _ ?_ ?_ <;> rfl
theorem tight3 (a b : Tok) {Q : Post} {ks : List Kt} {T : Tm} {σ : S} (x y : Bool) (t5 : T 5 = .bool x) (t6 : T 6 = .bool y) (h : ∀ T', T' 4 = .bool (x || y) → G env 85 none 62 Q ks .skip T' [] σ) :
    G env 85 none 62 Q ks (regZ 3 (bodyOf Tryd.f85)) T [] σ := by
  cases x <;> cases y <;>
  · simp -implicitDefEqProofs only [regZ, regA, bodyOf, Tryd.f85, Option.getD_some, Option.or, Nat.reduceEqDiff, if_false, if_true, reduceIte, Zaa, Zab, Zac, Zad, Zae, Zaf, Zag, Zah, Zai, Zaj, Zak, Zal, Zam, Zan, Zao, Zap, Zaq, Zar, Zas, Zat, Zau, Zav, Zaw, Zax, Zay, Zaz, Zba, Zbb, Zbc, Zbd, Zbe, Zbf, Zbg, Zbh, Zbi, Zbj, Zbk, Zbl, Zbm, Zbn, Zbo, Zbp, Zbq, Zbr, Zbs, Zbt, Zbu, Zbv, Zbw, Zbx, Zby, Zbz, Zca, Zcb, Zcc, Zcd, Zce, Zcf, Zcg, evalT, Zch, Nat.reduceLT, Nat.reduceEqDiff, if_true, if_false, reduceIte, true_and, Zci, Zcj, map_ite', Zck, bind_ite', Zcl, Zcm, Zcn, Zco, Zcp, Zcq, Zcr, Zcs, Zct, Zcu, Zcv, Zcw, Zcx, Zcy, Zcz, Zda, Zdb, Zdc, Zdd, Zde, Zdf, Zdg, ofVal, ofCell, argT, List.getD_cons_zero, List.getD_cons_succ, List.getElem?_toArray, List.getElem?_cons_zero, List.getElem?_cons_succ, List.nil_append, List.cons_append, List.append_nil, resT, Zdh, Zdi, Nat.mul_one, Zdj, Zdk, Zdl, Zdm, Zdn, Zdo, Zdp, Zdq, Zdr, Zds, Zdt, setT, Zdu, Zdv, Zdw, Zdx, Zdy, List.append_eq, Zdz, Zea, Zeb, Zec, Zed, Zee, Zef, Zeg, Zeh, Nat.add_zero, Zei, Zej, Zek, Zel, Zem, Zen, Int.toNat_natCast, Bool.false_eq_true, Int.reduceEq, Int.reduceLT, Int.reduceLE, Int.reduceNeg, not_false_eq_true, and_self, Zeo, Zep, Int.natCast_one, Int.cast_ofNat_Int, not_true_eq_false, decide_true, decide_false, true_implies, false_implies, Int.toNat_zero, List.length_cons, List.length_nil, Nat.zero_add, mb, Nat.reduceBEq, Bool.false_and, Bool.and_false, Zeq, tys, stb, Zer, Zes, Zet, Zeu, Zev, Zew, Bool.or_false, Bool.false_or, Bool.true_and, Bool.or_true, Bool.true_or, Zex, Zey, t5, t6]
    refine h _ ?_ <;> rfl
theorem tight_call (a b : Tok) (σ : S) : callFn env (ev env) 85 [.agg [.int .i64 a.kind, .str a.text, .int .i64 a.n, .int .i64 a.pos], .agg [.int .i64 b.kind, .str b.text, .int .i64 b.n, .int .i64 b.pos]] σ = some (.bool (decide (Tight a b)), σ) := by
  refine callFn_pure rfl rfl rfl at85 rfl (by simp [Tryd.f85]) (by simp [Tryd.f85]) (G_start ?_) σ
  have hA : decide (Tight a b) = (decide (Lft a) || decide (Rgt b)) := Bool.decide_or _ _
  rw [hA]
  show G env 85 none 62 _ [] (.seq (regZ 0 (bodyOf Tryd.f85)) (.seq (regZ 1 (bodyOf Tryd.f85)) (.seq (regZ 2 (bodyOf Tryd.f85)) (.seq (regZ 3 (bodyOf Tryd.f85)) .ret)))) _ _ _
  rw [Zaa]
  refine tight0 a b fun T' t2 t3 => ?_
  rw [Zac, Zaa]
  refine tight1 a b t2 t3 fun T' t2 t3 t5 => ?_
  rw [Zac, Zaa]
  refine tight2 a b t2 t3 _ t5 fun T' t2 t3 t5 t6 => ?_
  rw [Zac, Zaa]
  refine tight3 a b _ _ t5 t6 fun T' t4 => ?_
  rw [Zac, Zak]
  simp -implicitDefEqProofs only [Tryd.f85, Zaa, Zab, Zac, Zad, Zae, Zaf, Zag, Zah, Zai, Zaj, Zak, Zal, Zam, Zan, Zao, Zap, Zaq, Zar, Zas, Zat, Zau, Zav, Zaw, Zax, Zay, Zaz, Zba, Zbb, Zbc, Zbd, Zbe, Zbf, Zbg, Zbh, Zbi, Zbj, Zbk, Zbl, Zbm, Zbn, Zbo, Zbp, Zbq, Zbr, Zbs, Zbt, Zbu, Zbv, Zbw, Zbx, Zby, Zbz, Zca, Zcb, Zcc, Zcd, Zce, Zcf, Zcg, evalT, Zch, Nat.reduceLT, Nat.reduceEqDiff, if_true, if_false, reduceIte, true_and, Zci, Zcj, map_ite', Zck, bind_ite', Zcl, Zcm, Zcn, Zco, Zcp, Zcq, Zcr, Zcs, Zct, Zcu, Zcv, Zcw, Zcx, Zcy, Zcz, Zda, Zdb, Zdc, Zdd, Zde, Zdf, Zdg, ofVal, ofCell, argT, List.getD_cons_zero, List.getD_cons_succ, List.getElem?_toArray, List.getElem?_cons_zero, List.getElem?_cons_succ, List.nil_append, List.cons_append, List.append_nil, resT, Zdh, Zdi, Nat.mul_one, Zdj, Zdk, Zdl, Zdm, Zdn, Zdo, Zdp, Zdq, Zdr, Zds, Zdt, setT, Zdu, Zdv, Zdw, Zdx, Zdy, List.append_eq, Zdz, Zea, Zeb, Zec, Zed, Zee, Zef, Zeg, Zeh, Nat.add_zero, Zei, Zej, Zek, Zel, Zem, Zen, Int.toNat_natCast, Bool.false_eq_true, Int.reduceEq, Int.reduceLT, Int.reduceLE, Int.reduceNeg, not_false_eq_true, and_self, Zeo, Zep, Int.natCast_one, Int.cast_ofNat_Int, not_true_eq_false, decide_true, decide_false, true_implies, false_implies, Int.toNat_zero, List.length_cons, List.length_nil, Nat.zero_add, mb, Nat.reduceBEq, Bool.false_and, Bool.and_false, Zeq, tys, stb, Zer, Zes, Zet, Zeu, Zev, Zew, Bool.or_false, Bool.false_or, Bool.true_and, Bool.or_true, Bool.true_or, Zex, Zey, t4]
  exact seal_b _ _ _ rfl
end Go.Proofs.YtbikmhpobflfeaaDoor
