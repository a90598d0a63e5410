/- Proved here: that a further blank changes nothing. Conditions: those of each theorem; no statement of the seat is proved in this text. -/
import Derived.Test.YtbikmhpobflfeaaDoorTlA
namespace Go.Proofs.YtbikmhpobflfeaaDoor
open Go.Ab
set_option maxRecDepth 100000
set_option linter.unusedSimpArgs false
set_option linter.unusedVariables false
/-! ### blanks -/
theorem at57 : env.P.funcs[57]? = some Tryd.f57 := by kernel_rfl
theorem at46 : env.P.funcs[46]? = some Tryd.f46 := by kernel_rfl
theorem blank_call (s : List UInt8) (hl : s.length ≤ 4000) (h : ∀ i, i < s.length → s.getD i 0 = 32) (σ : S) : callFn env (ev env) 57 [.str s] σ = some (.bool true, σ) := by
  refine callFn_pure rfl rfl rfl at57 rfl (by simp [Tryd.f57]) (by simp [Tryd.f57]) (G_start ?_) σ
  simp -implicitDefEqProofs only [Tryd.f57, Zaa, Zab, Zac, Zad, Zae, Zaf, Zag, Zah, Zai, Zaj, Zak, Zal, Zam, Zan, Zao, Zap, Zaq, Zar, Zas, Zat, Zau, Zav, Zaw, Zax, Zay, Zaz, Zba, Zbb, Zbc, Zbd, Zbe, Zbf, Zbg, Zbh, Zbi, Zbj, Zbk, Zbl, Zbm, Zbn, Zbo, Zbp, Zbq, Zbr, Zbs, Zbt, Zbu, Zbv, Zbw, Zbx, Zby, Zbz, Zca, Zcb, Zcc, Zcd, Zce, Zcf, Zcg, evalT, Zch, Nat.reduceLT, Nat.reduceEqDiff, if_true, if_false, reduceIte, true_and, Zci, Zcj, map_ite', Zck, bind_ite', Zcl, Zcm, Zcn, Zco, Zcp, Zcq, Zcr, Zcs, Zct, Zcu, Zcv, Zcw, Zcx, Zcy, Zcz, Zda, Zdb, Zdc, Zdd, Zde, Zdf, Zdg, ofVal, ofCell, argT, List.getD_cons_zero, List.getD_cons_succ, List.getElem?_toArray, List.getElem?_cons_zero, List.getElem?_cons_succ, List.nil_append, List.cons_append, List.append_nil, resT, Zdh, Zdi, Nat.mul_one, Zdj, Zdk, Zdl, Zdm, Zdn, Zdo, Zdp, Zdq, Zdr, Zds, Zdt, setT, Zdu, Zdv, Zdw, Zdx, Zdy, List.append_eq, Zdz, Zea, Zeb, Zec, Zed, Zee, Zef, Zeg, Zeh, Nat.add_zero, Zei, Zej, Zek, Zel, Zem, Zen, Int.toNat_natCast, Bool.false_eq_true, Int.reduceEq, Int.reduceLT, Int.reduceLE, Int.reduceNeg, not_false_eq_true, and_self, Zeo, Zep, Int.natCast_one, Int.cast_ofNat_Int, not_true_eq_false, decide_true, decide_false, true_implies, false_implies, Int.toNat_zero, List.length_cons, List.length_nil, Nat.zero_add, mb, Nat.reduceBEq, Bool.false_and, Bool.and_false, Zeq, tys, stb, Zer, Zes, Zet, Zeu, Zev, Zew, Bool.or_false, Bool.false_or, Bool.true_and, Bool.or_true, Bool.true_or, Zex, Zey, empty_mk]
  refine loop_rule (fun m T D σ => D = [] ∧ T 0 = .str s ∧ σ = ⟨[], []⟩ ∧ ∃ (i : Nat), T 3 = .int .i64 i ∧ i ≤ s.length ∧ m = s.length - i) ?_ (s.length - 0) _ _ _ ⟨rfl, rfl, rfl, 0, rfl, by omega, rfl⟩
  rintro m T D σ ⟨rfl, t0, rfl, i, t3, hi, rfl⟩
  refine G_start ?_
  by_cases hlt : i < s.length
  · have c1 : (i : Int) < (s.length : Int) := by omega
    have c2 : (0 : Int) ≤ (i : Int) ∧ (i : Int) < (s.length : Int) := by omega
    have e1 : IntKind.i64.wrap ((i : Int) + 1) = ((i + 1 : Nat) : Int) := by rw [wrap_i64 (by omega) (by omega)]; omega
    have c3 : ((((32 : UInt8).toNat : Nat) : Int) = 32) = True := eq_true rfl
    have hg := h i hlt
    simp -implicitDefEqProofs only [Zaa, Zab, Zac, Zad, Zae, Zaf, Zag, Zah, Zai, Zaj, Zak, Zal, Zam, Zan, Zao, Zap, Zaq, Zar, Zas, Zat, Zau, Zav, Zaw, Zax, Zay, Zaz, Zba, Zbb, Zbc, Zbd, Zbe, Zbf, Zbg, Zbh, Zbi, Zbj, Zbk, Zbl, Zbm, Zbn, Zbo, Zbp, Zbq, Zbr, Zbs, Zbt, Zbu, Zbv, Zbw, Zbx, Zby, Zbz, Zca, Zcb, Zcc, Zcd, Zce, Zcf, Zcg, evalT, Zch, Nat.reduceLT, Nat.reduceEqDiff, if_true, if_false, reduceIte, true_and, Zci, Zcj, map_ite', Zck, bind_ite', Zcl, Zcm, Zcn, Zco, Zcp, Zcq, Zcr, Zcs, Zct, Zcu, Zcv, Zcw, Zcx, Zcy, Zcz, Zda, Zdb, Zdc, Zdd, Zde, Zdf, Zdg, ofVal, ofCell, argT, List.getD_cons_zero, List.getD_cons_succ, List.getElem?_toArray, List.getElem?_cons_zero, List.getElem?_cons_succ, List.nil_append, List.cons_append, List.append_nil, resT, Zdh, Zdi, Nat.mul_one, Zdj, Zdk, Zdl, Zdm, Zdn, Zdo, Zdp, Zdq, Zdr, Zds, Zdt, setT, Zdu, Zdv, Zdw, Zdx, Zdy, List.append_eq, Zdz, Zea, Zeb, Zec, Zed, Zee, Zef, Zeg, Zeh, Nat.add_zero, Zei, Zej, Zek, Zel, Zem, Zen, Int.toNat_natCast, Bool.false_eq_true, Int.reduceEq, Int.reduceLT, Int.reduceLE, Int.reduceNeg, not_false_eq_true, and_self, Zeo, Zep, Int.natCast_one, Int.cast_ofNat_Int, not_true_eq_false, decide_true, decide_false, true_implies, false_implies, Int.toNat_zero, List.length_cons, List.length_nil, Nat.zero_add, mb, Nat.reduceBEq, Bool.false_and, Bool.and_false, Zeq, tys, stb, Zer, Zes, Zet, Zeu, Zev, Zew, Bool.or_false, Bool.false_or, Bool.true_and, Bool.or_true, Bool.true_or, Zex, Zey, t0, t3, c1, c2, e1, len_str, opT_index, indexO_str u9, Int.toNat_natCast, hg, c3]
    exact ⟨s.length - (i + 1), by omega, i + 1, rfl, by omega, rfl⟩
  · have c1 : ¬ (i : Int) < (s.length : Int) := by omega
    simp -implicitDefEqProofs only [Zaa, Zab, Zac, Zad, Zae, Zaf, Zag, Zah, Zai, Zaj, Zak, Zal, Zam, Zan, Zao, Zap, Zaq, Zar, Zas, Zat, Zau, Zav, Zaw, Zax, Zay, Zaz, Zba, Zbb, Zbc, Zbd, Zbe, Zbf, Zbg, Zbh, Zbi, Zbj, Zbk, Zbl, Zbm, Zbn, Zbo, Zbp, Zbq, Zbr, Zbs, Zbt, Zbu, Zbv, Zbw, Zbx, Zby, Zbz, Zca, Zcb, Zcc, Zcd, Zce, Zcf, Zcg, evalT, Zch, Nat.reduceLT, Nat.reduceEqDiff, if_true, if_false, reduceIte, true_and, Zci, Zcj, map_ite', Zck, bind_ite', Zcl, Zcm, Zcn, Zco, Zcp, Zcq, Zcr, Zcs, Zct, Zcu, Zcv, Zcw, Zcx, Zcy, Zcz, Zda, Zdb, Zdc, Zdd, Zde, Zdf, Zdg, ofVal, ofCell, argT, List.getD_cons_zero, List.getD_cons_succ, List.getElem?_toArray, List.getElem?_cons_zero, List.getElem?_cons_succ, List.nil_append, List.cons_append, List.append_nil, resT, Zdh, Zdi, Nat.mul_one, Zdj, Zdk, Zdl, Zdm, Zdn, Zdo, Zdp, Zdq, Zdr, Zds, Zdt, setT, Zdu, Zdv, Zdw, Zdx, Zdy, List.append_eq, Zdz, Zea, Zeb, Zec, Zed, Zee, Zef, Zeg, Zeh, Nat.add_zero, Zei, Zej, Zek, Zel, Zem, Zen, Int.toNat_natCast, Bool.false_eq_true, Int.reduceEq, Int.reduceLT, Int.reduceLE, Int.reduceNeg, not_false_eq_true, and_self, Zeo, Zep, Int.natCast_one, Int.cast_ofNat_Int, not_true_eq_false, decide_true, decide_false, true_implies, false_implies, Int.toNat_zero, List.length_cons, List.length_nil, Nat.zero_add, mb, Nat.reduceBEq, Bool.false_and, Bool.and_false, Zeq, tys, stb, Zer, Zes, Zet, Zeu, Zev, Zew, Bool.or_false, Bool.false_or, Bool.true_and, Bool.or_true, Bool.true_or, Zex, Zey, t0, t3, c1, len_str]
    simp only [oneOr, sealDepth, sealV_bool]
theorem pick_call (x : Int) (n : Nat) (h1 : 1 ≤ n) (h2 : n ≤ 2 ^ 40) : ∃ k : Nat, k < n ∧ ∀ σ, callFn env (ev env) 46 [.int .i64 x, .int .i64 n] σ = some (.int .i64 k, σ) := by
  have hb := Int.tmod_lt_of_pos x (show (0 : Int) < (n : Int) by omega)
  have hb2 : -(n : Int) < x.tmod n := by
    have := Int.tmod_lt_of_pos (-x) (show (0 : Int) < (n : Int) by omega)
    rw [Int.neg_tmod] at this; omega
  have hn : ((n : Int) = 0) = False := eq_false (by omega)
  by_cases h0 : x.tmod n < 0
  · refine ⟨(x.tmod n + n).toNat, by omega, fun σ => callFn_pure rfl rfl rfl at46 rfl (by simp [Tryd.f46]) (by simp [Tryd.f46]) (G_start ?_) σ⟩
    have e1 : IntKind.i64.wrap (x.tmod n + n) = (((x.tmod n + n).toNat : Nat) : Int) := by rw [wrap_i64 (by omega) (by omega)]; omega
    simp -implicitDefEqProofs only [Tryd.f46, Zaa, Zab, Zac, Zad, Zae, Zaf, Zag, Zah, Zai, Zaj, Zak, Zal, Zam, Zan, Zao, Zap, Zaq, Zar, Zas, Zat, Zau, Zav, Zaw, Zax, Zay, Zaz, Zba, Zbb, Zbc, Zbd, Zbe, Zbf, Zbg, Zbh, Zbi, Zbj, Zbk, Zbl, Zbm, Zbn, Zbo, Zbp, Zbq, Zbr, Zbs, Zbt, Zbu, Zbv, Zbw, Zbx, Zby, Zbz, Zca, Zcb, Zcc, Zcd, Zce, Zcf, Zcg, evalT, Zch, Nat.reduceLT, Nat.reduceEqDiff, if_true, if_false, reduceIte, true_and, Zci, Zcj, map_ite', Zck, bind_ite', Zcl, Zcm, Zcn, Zco, Zcp, Zcq, Zcr, Zcs, Zct, Zcu, Zcv, Zcw, Zcx, Zcy, Zcz, Zda, Zdb, Zdc, Zdd, Zde, Zdf, Zdg, ofVal, ofCell, argT, List.getD_cons_zero, List.getD_cons_succ, List.getElem?_toArray, List.getElem?_cons_zero, List.getElem?_cons_succ, List.nil_append, List.cons_append, List.append_nil, resT, Zdh, Zdi, Nat.mul_one, Zdj, Zdk, Zdl, Zdm, Zdn, Zdo, Zdp, Zdq, Zdr, Zds, Zdt, setT, Zdu, Zdv, Zdw, Zdx, Zdy, List.append_eq, Zdz, Zea, Zeb, Zec, Zed, Zee, Zef, Zeg, Zeh, Nat.add_zero, Zei, Zej, Zek, Zel, Zem, Zen, Int.toNat_natCast, Bool.false_eq_true, Int.reduceEq, Int.reduceLT, Int.reduceLE, Int.reduceNeg, not_false_eq_true, and_self, Zeo, Zep, Int.natCast_one, Int.cast_ofNat_Int, not_true_eq_false, decide_true, decide_false, true_implies, false_implies, Int.toNat_zero, List.length_cons, List.length_nil, Nat.zero_add, mb, Nat.reduceBEq, Bool.false_and, Bool.and_false, Zeq, tys, stb, Zer, Zes, Zet, Zeu, Zev, Zew, Bool.or_false, Bool.false_or, Bool.true_and, Bool.or_true, Bool.true_or, Zex, Zey, empty_mk, h0, hn, e1]
    simp only [oneOr, sealDepth, sealV_int]
  · refine ⟨(x.tmod n).toNat, by omega, fun σ => callFn_pure rfl rfl rfl at46 rfl (by simp [Tryd.f46]) (by simp [Tryd.f46]) (G_start ?_) σ⟩
    have e1 : x.tmod n = (((x.tmod n).toNat : Nat) : Int) := by omega
    simp -implicitDefEqProofs only [Tryd.f46, Zaa, Zab, Zac, Zad, Zae, Zaf, Zag, Zah, Zai, Zaj, Zak, Zal, Zam, Zan, Zao, Zap, Zaq, Zar, Zas, Zat, Zau, Zav, Zaw, Zax, Zay, Zaz, Zba, Zbb, Zbc, Zbd, Zbe, Zbf, Zbg, Zbh, Zbi, Zbj, Zbk, Zbl, Zbm, Zbn, Zbo, Zbp, Zbq, Zbr, Zbs, Zbt, Zbu, Zbv, Zbw, Zbx, Zby, Zbz, Zca, Zcb, Zcc, Zcd, Zce, Zcf, Zcg, evalT, Zch, Nat.reduceLT, Nat.reduceEqDiff, if_true, if_false, reduceIte, true_and, Zci, Zcj, map_ite', Zck, bind_ite', Zcl, Zcm, Zcn, Zco, Zcp, Zcq, Zcr, Zcs, Zct, Zcu, Zcv, Zcw, Zcx, Zcy, Zcz, Zda, Zdb, Zdc, Zdd, Zde, Zdf, Zdg, ofVal, ofCell, argT, List.getD_cons_zero, List.getD_cons_succ, List.getElem?_toArray, List.getElem?_cons_zero, List.getElem?_cons_succ, List.nil_append, List.cons_append, List.append_nil, resT, Zdh, Zdi, Nat.mul_one, Zdj, Zdk, Zdl, Zdm, Zdn, Zdo, Zdp, Zdq, Zdr, Zds, Zdt, setT, Zdu, Zdv, Zdw, Zdx, Zdy, List.append_eq, Zdz, Zea, Zeb, Zec, Zed, Zee, Zef, Zeg, Zeh, Nat.add_zero, Zei, Zej, Zek, Zel, Zem, Zen, Int.toNat_natCast, Bool.false_eq_true, Int.reduceEq, Int.reduceLT, Int.reduceLE, Int.reduceNeg, not_false_eq_true, and_self, Zeo, Zep, Int.natCast_one, Int.cast_ofNat_Int, not_true_eq_false, decide_true, decide_false, true_implies, false_implies, Int.toNat_zero, List.length_cons, List.length_nil, Nat.zero_add, mb, Nat.reduceBEq, Bool.false_and, Bool.and_false, Zeq, tys, stb, Zer, Zes, Zet, Zeu, Zev, Zew, Bool.or_false, Bool.false_or, Bool.true_and, Bool.or_true, Bool.true_or, Zex, Zey, empty_mk, h0, hn]
    simp only [oneOr, sealDepth, sealV_int]
    rw [← e1]
theorem slice_lo (s : List UInt8) (i : Nat) (hi : i ≤ s.length) : sliceO env 9 (.str s) (some (.int .i64 (i : Nat))) none none = some (.str (subS s i s.length)) := by
  simp [sliceO, u9, vSlice, vBound, subS, hi]
theorem slice_hi (s : List UInt8) (i : Nat) (hi : i ≤ s.length) : sliceO env 9 (.str s) none (some (.int .i64 (i : Nat))) none = some (.str (subS s 0 i)) := by
  simp [sliceO, u9, vSlice, vBound, subS, hi]
theorem blank_run (s : List UInt8) (e : Nat) (he : e ≤ s.length) : ∀ i, i < (subS s e (endW s [1] e)).length → (subS s e (endW s [1] e)).getD i 0 = 32 := by
  intro i hi
  have hE := endW_le s [1] e he
  rw [subS_len _ _ _ hE.2] at hi
  rw [subS_get _ _ _ _ hE.2 hi]
  have := endW_in s [1] e (e + i) (by omega) (by omega)
  have := (cls1 _).1 (by simpa using this : clsN (s.getD (e + i) 0).toNat = 1)
  exact UInt8.toNat_inj.1 (by rw [this]; rfl)
/-- one token of a text -/
theorem sc_one {s : List UInt8} {e : Nat} {last : Int} {l : List Tok} {i : Nat} (h : Sc s e last (l.drop i)) (he : e ≤ s.length) (hi : i < l.length) : ∃ j e2 last', e ≤ j ∧ j < e2 ∧ e2 ≤ s.length ∧ (l.getD i Tok.none).pos = (j : Nat) ∧ j + (piece (l.getD i Tok.none)).length = e2 ∧
    subS s j e2 = piece (l.getD i Tok.none) ∧ endW s [1] e = j ∧ Sc s e2 last' (l.drop (i + 1)) := by
  have hd : l.drop i = l.getD i Tok.none :: l.drop (i + 1) := by
    rw [List.drop_eq_getElem_cons hi]; simp [List.getD, hi]
  rw [hd] at h
  generalize l.getD i Tok.none = t at *
  generalize l.drop (i + 1) = r at *
  cases h with
  | tok _ _ j e2 _ _ h1 h2 h3 h4 h5 =>
    have hE := endW_le s [1] e he
    obtain ⟨t', e', hn, a1, a2, a3, a4, _⟩ := next_ok s j h2 (by rw [h3])
    rw [h3] at hn
    simp only [Prod.mk.injEq, and_true] at hn
    obtain ⟨rfl, rfl⟩ := hn
    have hl := subS_len s j e2 a2
    rw [a4] at hl
    exact ⟨j, e2, _, by omega, a1, a2, a3, by omega, a4, h1, h5⟩
theorem fo521' : fldOff env 52 1 = some 1 := by kernel_rfl
theorem at14 : env.P.funcs[14]? = some Tryd.f14 := by kernel_rfl
theorem r14 {Q : Post} {ks : List Kt} {T : Tm} {D : List DE} {σ : S} {s : List UInt8} {v : V} {l : List Tok} {i e j e2 : Nat} {x : List UInt8} (hs : s.length ≤ 900) (hT : IsT v l) (hlt : i < l.length) (g1 : e ≤ j) (g2 : j < e2) (g3 : e2 ≤ s.length) (g4 : (l.getD i Tok.none).pos = (j : Nat))
    (g5 : j + x.length = e2) (g6 : subS s j e2 = x) (hbl : ∀ σ, callFn env (ev env) 57 [.str (subS s e j)] σ = some (.bool true, σ)) (t0 : T 0 = .str s) (t6 : T 6 = v) (t8 : T 8 = .int .i64 e) (t9 : T 9 = .int .i64 i) (t10 : T 10 = .str x)
    (h : ∀ T', T' 0 = T 0 → T' 1 = T 1 → T' 5 = T 5 → T' 6 = T 6 → T' 9 = T 9 → T' 10 = T 10 → T' 112 = .bool false → G env 14 none 162 Q ks .skip T' D σ) : G env 14 none 162 Q ks (regB 14 (bodyOf Tryd.f14)) T D σ := by
  have hx := idx_T hT hlt
  have hs1 := slice_s s j e2 (by omega) g3
  have hs2 := slice_s s e j g1 (by omega)
  rw [g6] at hs1
  generalize l.getD i Tok.none = t at *
  have hne : (x = []) = False := eq_false (fun h => by rw [h] at g5; simp at g5; omega)
  have d1 : ¬ (j : Int) < (e : Int) := by omega
  have d2 : ¬ (s.length : Int) < (j : Int) := by omega
  have d3 : ¬ (s.length : Int) < (e2 : Int) := by omega
  have e3 : IntKind.i64.wrap ((j : Int) + (x.length : Int)) = (e2 : Int) := by rw [wrap_i64 (by omega) (by omega)]; omega
  simp only [regB, bodyOf, Tryd.f14, Option.getD_some, regO, Option.or, Nat.reduceEqDiff, if_false, if_true, reduceIte]
  simp -implicitDefEqProofs only [Zaa, Zab, Zac, Zad, Zae, Zaf, Zag, Zah, Zai, Zaj, Zak, Zal, Zam, Zan, Zao, Zap, Zaq, Zar, Zas, Zat, Zau, Zav, Zaw, Zax, Zay, Zaz, Zba, Zbb, Zbc, Zbd, Zbe, Zbf, Zbg, Zbh, Zbi, Zbj, Zbk, Zbl, Zbm, Zbn, Zbo, Zbp, Zbq, Zbr, Zbs, Zbt, Zbu, Zbv, Zbw, Zbx, Zby, Zbz, Zca, Zcb, Zcc, Zcd, Zce, Zcf, Zcg, evalT, Zch, Nat.reduceLT, Nat.reduceEqDiff, if_true, if_false, reduceIte, true_and, Zci, Zcj, map_ite', Zck, bind_ite', Zcl, Zcm, Zcn, Zco, Zcp, Zcq, Zcr, Zcs, Zct, Zcu, Zcv, Zcw, Zcx, Zcy, Zcz, Zda, Zdb, Zdc, Zdd, Zde, Zdf, Zdg, ofVal, ofCell, argT, List.getD_cons_zero, List.getD_cons_succ, List.getElem?_toArray, List.getElem?_cons_zero, List.getElem?_cons_succ, List.nil_append, List.cons_append, List.append_nil, resT, Zdh, Zdi, Nat.mul_one, Zdj, Zdk, Zdl, Zdm, Zdn, Zdo, Zdp, Zdq, Zdr, Zds, Zdt, setT, Zdu, Zdv, Zdw, Zdx, Zdy, List.append_eq, Zdz, Zea, Zeb, Zec, Zed, Zee, Zef, Zeg, Zeh, Nat.add_zero, Zei, Zej, Zek, Zel, Zem, Zen, Int.toNat_natCast, Bool.false_eq_true, Int.reduceEq, Int.reduceLT, Int.reduceLE, Int.reduceNeg, not_false_eq_true, and_self, Zeo, Zep, Int.natCast_one, Int.cast_ofNat_Int, not_true_eq_false, decide_true, decide_false, true_implies, false_implies, Int.toNat_zero, List.length_cons, List.length_nil, Nat.zero_add, mb, Nat.reduceBEq, Bool.false_and, Bool.and_false, Zeq, tys, stb, Zer, Zes, Zet, Zeu, Zev, Zew, Bool.or_false, Bool.false_or, Bool.true_and, Bool.or_true, Bool.true_or, Zex, Zey, t0, t6, t8, t9, t10, hx, fo523', load_hd, len_str, g4, d1, d2, d3, e3, opT_slice, optO_none, optO_some, hs1, hs2, hbl, vBin_seql, vBin_sneq, hne]
  exact ⟨by kernel_rfl, h _ rfl rfl rfl rfl rfl rfl rfl⟩
/-- the loop over the tokens -/
theorem blanks_loop (s : List UInt8) (hs : s.length ≤ 900) (x : Int) (v : V) (l : List Tok) (hS : Sc s 0 (-1) l) (hT : IsT v l) (Q : Post) (ks : List Kt) (T : Tm) (L : List AObj) (ts : List Nat)
    (hout : ∀ T (e : Nat), T 0 = .str s → T 1 = .int .i64 x → T 5 = .bool true → T 6 = v → T 8 = .int .i64 e → e ≤ s.length → endW s [1] e = s.length → G env 14 none 162 Q ks .skip T [] ⟨L, ts⟩)
    (a0 : T 0 = .str s) (a1 : T 1 = .int .i64 x) (a5 : T 5 = .bool true) (a6 : T 6 = v) (a8 : T 8 = .int .i64 (0 : Nat)) (a9 : T 9 = .int .i64 (0 : Nat)) :
    wpLoop env 14 none 162 (loopB 0 (bodyOf Tryd.f14)) T [] ⟨L, ts⟩ (Kt.post env 14 none 162 Q (.blk 0 :: ks)) := by
  obtain ⟨hl1, hl2, hl3⟩ := sc_text hS
  simp only [bodyOf, Tryd.f14, Option.getD_some, loopB, blkC, Option.or, Nat.reduceEqDiff, if_false, if_true, reduceIte]
  refine loop_rule (fun m T D σ => D = [] ∧ σ = ⟨L, ts⟩ ∧ T 0 = .str s ∧ T 1 = .int .i64 x ∧ T 5 = .bool true ∧ T 6 = v ∧ ∃ (i e : Nat) (last : Int), T 8 = .int .i64 e ∧ T 9 = .int .i64 i ∧ i ≤ l.length ∧ e ≤ s.length ∧ Sc s e last (l.drop i) ∧ m = l.length - i) ?_ (l.length - 0) _ _ _
    ⟨rfl, rfl, a0, a1, a5, a6, 0, 0, -1, a8, a9, by omega, by omega, hS, rfl⟩
  clear a0 a1 a5 a6 a8 a9 T
  rintro m T D σ ⟨rfl, rfl, t0, t1, t5, t6, i, e, last, t8, t9, hi, he, hSc, rfl⟩
  refine G_start ?_
  by_cases hlt : i < l.length
  · have c1 : (i : Int) < (l.length : Int) := by omega
    have e1 : IntKind.i64.wrap ((i : Int) + 1) = ((i + 1 : Nat) : Int) := by rw [wrap_i64 (by omega) (by omega)]; omega
    have hx := idx_T hT hlt
    obtain ⟨j, e2, last', g1, g2, g3, g4, g5, g6, g7, g8⟩ := sc_one hSc he hlt
    have htx := hl3 i hlt
    have hbl := blank_call (subS s e j) (by rw [subS_len _ _ _ (by omega)]; omega) (by rw [← g7]; exact blank_run s e he)
    have lim1 : 1 + (l.getD i Tok.none).text.length ≤ lim := by simp only [lim]; omega
    have lim2 : (l.getD i Tok.none).text.length + 1 + 1 ≤ lim := by simp only [lim]; omega
    have e3 : ∀ x : List UInt8, j + x.length = e2 → IntKind.i64.wrap ((j : Int) + (x.length : Int)) = (e2 : Int) := fun x hx => by rw [wrap_i64 (by omega) (by omega)]; omega
    by_cases hk : (l.getD i Tok.none).kind = 4
    · have hp : piece (l.getD i Tok.none) = 39 :: ((l.getD i Tok.none).text ++ [39]) := by unfold piece; rw [if_pos hk]
      rw [hp] at g5 g6
      have e3 := e3 _ g5
      rw [List.length_cons] at e3
      simp -implicitDefEqProofs only [Zaa, Zab, Zac, Zad, Zae, Zaf, Zag, Zah, Zai, Zaj, Zak, Zal, Zam, Zan, Zao, Zaq, Zar, Zas, Zat, Zau, Zav, Zaw, Zax, Zay, Zaz, Zba, Zbb, Zbc, Zbd, Zbe, Zbf, Zbg, Zbh, Zbi, Zbj, Zbk, Zbl, Zbm, Zbn, Zbo, Zbp, Zbq, Zbr, Zbs, Zbt, Zbu, Zbv, Zbw, Zbx, Zby, Zbz, Zca, Zcb, Zcc, Zcd, Zce, Zcf, Zcg, evalT, Zch, Nat.reduceLT, Nat.reduceEqDiff, if_true, if_false, reduceIte, true_and, Zci, Zcj, map_ite', Zck, bind_ite', Zcl, Zcm, Zcn, Zco, Zcp, Zcq, Zcr, Zcs, Zct, Zcu, Zcv, Zcw, Zcx, Zcy, Zcz, Zda, Zdb, Zdc, Zdd, Zde, Zdf, Zdg, ofVal, ofCell, argT, List.getD_cons_zero, List.getD_cons_succ, List.getElem?_toArray, List.getElem?_cons_zero, List.getElem?_cons_succ, List.nil_append, List.cons_append, List.append_nil, resT, Zdh, Zdi, Nat.mul_one, Zdj, Zdk, Zdl, Zdm, Zdn, Zdo, Zdp, Zdq, Zdr, Zds, Zdt, setT, Zdu, Zdv, Zdw, Zdx, Zdy, List.append_eq, Zdz, Zea, Zeb, Zec, Zed, Zee, Zef, Zeg, Zeh, Nat.add_zero, Zei, Zej, Zek, Zel, Zem, Zen, Int.toNat_natCast, Bool.false_eq_true, Int.reduceEq, Int.reduceLT, Int.reduceLE, Int.reduceNeg, not_false_eq_true, and_self, Zeo, Zep, Int.natCast_one, Int.cast_ofNat_Int, not_true_eq_false, decide_true, decide_false, true_implies, false_implies, Int.toNat_zero, List.length_cons, List.length_nil, Nat.zero_add, mb, Nat.reduceBEq, Bool.false_and, Bool.and_false, Zeq, tys, stb, Zer, Zes, Zet, Zeu, Zev, Zew, Bool.or_false, Bool.false_or, Bool.true_and, Bool.or_true, Bool.true_or, Zex, Zey, t0, t1, t5, t6, t8, t9, c1, len_T hT, hx, fo520, fo521', load_hd, eq_true hk, vBin_sadd, lim1, lim2]
      refine r14 hs hT hlt g1 g2 g3 g4 g5 g6 hbl ?_ ?_ ?_ ?_ ?_ ?_
      · exact t0
      · exact t6
      · exact t8
      · exact t9
      · rfl
      intro T' b0 b1 b5 b6 b9 b10 b112
      have u0 := b0.trans t0
      have u1 := b1.trans t1
      have u5 := b5.trans t5
      have u6 := b6.trans t6
      have u9 := b9.trans t9
      have u10 : T' 10 = .str (39 :: ((l.getD i Tok.none).text ++ [39])) := b10
      simp -implicitDefEqProofs only [Zaa, Zab, Zac, Zad, Zae, Zaf, Zag, Zah, Zai, Zaj, Zak, Zal, Zam, Zan, Zao, Zap, Zaq, Zar, Zas, Zat, Zau, Zav, Zaw, Zax, Zay, Zaz, Zba, Zbb, Zbc, Zbd, Zbe, Zbf, Zbg, Zbh, Zbi, Zbj, Zbk, Zbl, Zbm, Zbn, Zbo, Zbp, Zbq, Zbr, Zbs, Zbt, Zbu, Zbv, Zbw, Zbx, Zby, Zbz, Zca, Zcb, Zcc, Zcd, Zce, Zcf, Zcg, evalT, Zch, Nat.reduceLT, Nat.reduceEqDiff, if_true, if_false, reduceIte, true_and, Zci, Zcj, map_ite', Zck, bind_ite', Zcl, Zcm, Zcn, Zco, Zcp, Zcq, Zcr, Zcs, Zct, Zcu, Zcv, Zcw, Zcx, Zcy, Zcz, Zda, Zdb, Zdc, Zdd, Zde, Zdf, Zdg, ofVal, ofCell, argT, List.getD_cons_zero, List.getD_cons_succ, List.getElem?_toArray, List.getElem?_cons_zero, List.getElem?_cons_succ, List.nil_append, List.cons_append, List.append_nil, resT, Zdh, Zdi, Nat.mul_one, Zdj, Zdk, Zdl, Zdm, Zdn, Zdo, Zdp, Zdq, Zdr, Zds, Zdt, setT, Zdu, Zdv, Zdw, Zdx, Zdy, List.append_eq, Zdz, Zea, Zeb, Zec, Zed, Zee, Zef, Zeg, Zeh, Nat.add_zero, Zei, Zej, Zek, Zel, Zem, Zen, Int.toNat_natCast, Bool.false_eq_true, Int.reduceEq, Int.reduceLT, Int.reduceLE, Int.reduceNeg, not_false_eq_true, and_self, Zeo, Zep, Int.natCast_one, Int.cast_ofNat_Int, not_true_eq_false, decide_true, decide_false, true_implies, false_implies, Int.toNat_zero, List.length_cons, List.length_nil, Nat.zero_add, mb, Nat.reduceBEq, Bool.false_and, Bool.and_false, Zeq, tys, stb, Zer, Zes, Zet, Zeu, Zev, Zew, Bool.or_false, Bool.false_or, Bool.true_and, Bool.or_true, Bool.true_or, Zex, Zey, u0, u1, u5, u6, u9, u10, b112, e1, hx, fo523', load_hd, len_str, g4, e3]
      exact ⟨l.length - (i + 1), by omega, i + 1, e2, last', rfl, rfl, by omega, g3, g8, rfl⟩
    · have hp : piece (l.getD i Tok.none) = (l.getD i Tok.none).text := by unfold piece; rw [if_neg hk]
      rw [hp] at g5 g6
      have e3 := e3 _ g5
      simp -implicitDefEqProofs only [Zaa, Zab, Zac, Zad, Zae, Zaf, Zag, Zah, Zai, Zaj, Zak, Zal, Zam, Zan, Zao, Zaq, Zar, Zas, Zat, Zau, Zav, Zaw, Zax, Zay, Zaz, Zba, Zbb, Zbc, Zbd, Zbe, Zbf, Zbg, Zbh, Zbi, Zbj, Zbk, Zbl, Zbm, Zbn, Zbo, Zbp, Zbq, Zbr, Zbs, Zbt, Zbu, Zbv, Zbw, Zbx, Zby, Zbz, Zca, Zcb, Zcc, Zcd, Zce, Zcf, Zcg, evalT, Zch, Nat.reduceLT, Nat.reduceEqDiff, if_true, if_false, reduceIte, true_and, Zci, Zcj, map_ite', Zck, bind_ite', Zcl, Zcm, Zcn, Zco, Zcp, Zcq, Zcr, Zcs, Zct, Zcu, Zcv, Zcw, Zcx, Zcy, Zcz, Zda, Zdb, Zdc, Zdd, Zde, Zdf, Zdg, ofVal, ofCell, argT, List.getD_cons_zero, List.getD_cons_succ, List.getElem?_toArray, List.getElem?_cons_zero, List.getElem?_cons_succ, List.nil_append, List.cons_append, List.append_nil, resT, Zdh, Zdi, Nat.mul_one, Zdj, Zdk, Zdl, Zdm, Zdn, Zdo, Zdp, Zdq, Zdr, Zds, Zdt, setT, Zdu, Zdv, Zdw, Zdx, Zdy, List.append_eq, Zdz, Zea, Zeb, Zec, Zed, Zee, Zef, Zeg, Zeh, Nat.add_zero, Zei, Zej, Zek, Zel, Zem, Zen, Int.toNat_natCast, Bool.false_eq_true, Int.reduceEq, Int.reduceLT, Int.reduceLE, Int.reduceNeg, not_false_eq_true, and_self, Zeo, Zep, Int.natCast_one, Int.cast_ofNat_Int, not_true_eq_false, decide_true, decide_false, true_implies, false_implies, Int.toNat_zero, List.length_cons, List.length_nil, Nat.zero_add, mb, Nat.reduceBEq, Bool.false_and, Bool.and_false, Zeq, tys, stb, Zer, Zes, Zet, Zeu, Zev, Zew, Bool.or_false, Bool.false_or, Bool.true_and, Bool.or_true, Bool.true_or, Zex, Zey, t0, t1, t5, t6, t8, t9, c1, len_T hT, hx, fo520, fo521', load_hd, eq_false hk]
      refine r14 hs hT hlt g1 g2 g3 g4 g5 g6 hbl ?_ ?_ ?_ ?_ ?_ ?_
      · exact t0
      · exact t6
      · exact t8
      · exact t9
      · rfl
      intro T' b0 b1 b5 b6 b9 b10 b112
      have u0 := b0.trans t0
      have u1 := b1.trans t1
      have u5 := b5.trans t5
      have u6 := b6.trans t6
      have u9 := b9.trans t9
      have u10 : T' 10 = .str (l.getD i Tok.none).text := b10
      simp -implicitDefEqProofs only [Zaa, Zab, Zac, Zad, Zae, Zaf, Zag, Zah, Zai, Zaj, Zak, Zal, Zam, Zan, Zao, Zap, Zaq, Zar, Zas, Zat, Zau, Zav, Zaw, Zax, Zay, Zaz, Zba, Zbb, Zbc, Zbd, Zbe, Zbf, Zbg, Zbh, Zbi, Zbj, Zbk, Zbl, Zbm, Zbn, Zbo, Zbp, Zbq, Zbr, Zbs, Zbt, Zbu, Zbv, Zbw, Zbx, Zby, Zbz, Zca, Zcb, Zcc, Zcd, Zce, Zcf, Zcg, evalT, Zch, Nat.reduceLT, Nat.reduceEqDiff, if_true, if_false, reduceIte, true_and, Zci, Zcj, map_ite', Zck, bind_ite', Zcl, Zcm, Zcn, Zco, Zcp, Zcq, Zcr, Zcs, Zct, Zcu, Zcv, Zcw, Zcx, Zcy, Zcz, Zda, Zdb, Zdc, Zdd, Zde, Zdf, Zdg, ofVal, ofCell, argT, List.getD_cons_zero, List.getD_cons_succ, List.getElem?_toArray, List.getElem?_cons_zero, List.getElem?_cons_succ, List.nil_append, List.cons_append, List.append_nil, resT, Zdh, Zdi, Nat.mul_one, Zdj, Zdk, Zdl, Zdm, Zdn, Zdo, Zdp, Zdq, Zdr, Zds, Zdt, setT, Zdu, Zdv, Zdw, Zdx, Zdy, List.append_eq, Zdz, Zea, Zeb, Zec, Zed, Zee, Zef, Zeg, Zeh, Nat.add_zero, Zei, Zej, Zek, Zel, Zem, Zen, Int.toNat_natCast, Bool.false_eq_true, Int.reduceEq, Int.reduceLT, Int.reduceLE, Int.reduceNeg, not_false_eq_true, and_self, Zeo, Zep, Int.natCast_one, Int.cast_ofNat_Int, not_true_eq_false, decide_true, decide_false, true_implies, false_implies, Int.toNat_zero, List.length_cons, List.length_nil, Nat.zero_add, mb, Nat.reduceBEq, Bool.false_and, Bool.and_false, Zeq, tys, stb, Zer, Zes, Zet, Zeu, Zev, Zew, Bool.or_false, Bool.false_or, Bool.true_and, Bool.or_true, Bool.true_or, Zex, Zey, u0, u1, u5, u6, u9, u10, b112, e1, hx, fo523', load_hd, len_str, g4, e3]
      exact ⟨l.length - (i + 1), by omega, i + 1, e2, last', rfl, rfl, by omega, g3, g8, rfl⟩
  · have c1 : ¬ (i : Int) < (l.length : Int) := by omega
    have hil : i = l.length := by omega
    subst hil
    rw [List.drop_length] at hSc
    have hend : endW s [1] e = s.length := by
      cases hSc with
      | fin _ _ h => have := endW_le s [1] e he; omega
    simp -implicitDefEqProofs only [Zaa, Zab, Zac, Zad, Zae, Zaf, Zag, Zah, Zai, Zaj, Zak, Zal, Zam, Zan, Zao, Zap, Zaq, Zar, Zas, Zat, Zau, Zav, Zaw, Zax, Zay, Zaz, Zba, Zbb, Zbc, Zbd, Zbe, Zbf, Zbg, Zbh, Zbi, Zbj, Zbk, Zbl, Zbm, Zbn, Zbo, Zbp, Zbq, Zbr, Zbs, Zbt, Zbu, Zbv, Zbw, Zbx, Zby, Zbz, Zca, Zcb, Zcc, Zcd, Zce, Zcf, Zcg, evalT, Zch, Nat.reduceLT, Nat.reduceEqDiff, if_true, if_false, reduceIte, true_and, Zci, Zcj, map_ite', Zck, bind_ite', Zcl, Zcm, Zcn, Zco, Zcp, Zcq, Zcr, Zcs, Zct, Zcu, Zcv, Zcw, Zcx, Zcy, Zcz, Zda, Zdb, Zdc, Zdd, Zde, Zdf, Zdg, ofVal, ofCell, argT, List.getD_cons_zero, List.getD_cons_succ, List.getElem?_toArray, List.getElem?_cons_zero, List.getElem?_cons_succ, List.nil_append, List.cons_append, List.append_nil, resT, Zdh, Zdi, Nat.mul_one, Zdj, Zdk, Zdl, Zdm, Zdn, Zdo, Zdp, Zdq, Zdr, Zds, Zdt, setT, Zdu, Zdv, Zdw, Zdx, Zdy, List.append_eq, Zdz, Zea, Zeb, Zec, Zed, Zee, Zef, Zeg, Zeh, Nat.add_zero, Zei, Zej, Zek, Zel, Zem, Zen, Int.toNat_natCast, Bool.false_eq_true, Int.reduceEq, Int.reduceLT, Int.reduceLE, Int.reduceNeg, not_false_eq_true, and_self, Zeo, Zep, Int.natCast_one, Int.cast_ofNat_Int, not_true_eq_false, decide_true, decide_false, true_implies, false_implies, Int.toNat_zero, List.length_cons, List.length_nil, Nat.zero_add, mb, Nat.reduceBEq, Bool.false_and, Bool.and_false, Zeq, tys, stb, Zer, Zes, Zet, Zeu, Zev, Zew, Bool.or_false, Bool.false_or, Bool.true_and, Bool.or_true, Bool.true_or, Zex, Zey, t0, t1, t5, t6, t8, t9, c1, len_T hT]
    exact hout _ e t0 t1 t5 t6 t8 he hend
theorem blanks_found (s : List UInt8) (x : Int) : Go.Ab.Found env 14 [.str s, .int .i64 x] := by
  refine found_of_wp at14 rfl (by simp [Tryd.f14]) (by simp [Tryd.f14]) (G_start ?_)
  by_cases h1 : (900 : Int) < (s.length : Int)
  · simp -implicitDefEqProofs only [Tryd.f14, Zaa, Zab, Zac, Zad, Zae, Zaf, Zag, Zah, Zai, Zaj, Zak, Zal, Zam, Zan, Zao, Zap, Zaq, Zar, Zas, Zat, Zau, Zav, Zaw, Zax, Zay, Zaz, Zba, Zbb, Zbc, Zbd, Zbe, Zbf, Zbg, Zbh, Zbi, Zbj, Zbk, Zbl, Zbm, Zbn, Zbo, Zbp, Zbq, Zbr, Zbs, Zbt, Zbu, Zbv, Zbw, Zbx, Zby, Zbz, Zca, Zcb, Zcc, Zcd, Zce, Zcf, Zcg, evalT, Zch, Nat.reduceLT, Nat.reduceEqDiff, if_true, if_false, reduceIte, true_and, Zci, Zcj, map_ite', Zck, bind_ite', Zcl, Zcm, Zcn, Zco, Zcp, Zcq, Zcr, Zcs, Zct, Zcu, Zcv, Zcw, Zcx, Zcy, Zcz, Zda, Zdb, Zdc, Zdd, Zde, Zdf, Zdg, ofVal, ofCell, argT, List.getD_cons_zero, List.getD_cons_succ, List.getElem?_toArray, List.getElem?_cons_zero, List.getElem?_cons_succ, List.nil_append, List.cons_append, List.append_nil, resT, Zdh, Zdi, Nat.mul_one, Zdj, Zdk, Zdl, Zdm, Zdn, Zdo, Zdp, Zdq, Zdr, Zds, Zdt, setT, Zdu, Zdv, Zdw, Zdx, Zdy, List.append_eq, Zdz, Zea, Zeb, Zec, Zed, Zee, Zef, Zeg, Zeh, Nat.add_zero, Zei, Zej, Zek, Zel, Zem, Zen, Int.toNat_natCast, Bool.false_eq_true, Int.reduceEq, Int.reduceLT, Int.reduceLE, Int.reduceNeg, not_false_eq_true, and_self, Zeo, Zep, Int.natCast_one, Int.cast_ofNat_Int, not_true_eq_false, decide_true, decide_false, true_implies, false_implies, Int.toNat_zero, List.length_cons, List.length_nil, Nat.zero_add, mb, Nat.reduceBEq, Bool.false_and, Bool.and_false, Zeq, tys, stb, Zer, Zes, Zet, Zeu, Zev, Zew, Bool.or_false, Bool.false_or, Bool.true_and, Bool.or_true, Bool.true_or, Zex, Zey, h1, len_str, known_call]
    simp only [oneOr]
  have hA := split_call s (by omega)
  have q0 : ∀ a b : V, aload env [.cells [a, b] 47] 47 (.ptr 0 0) = some (.agg [a, b]) := fun a b => ld47 rfl
  rcases splitV_two s (by omega) with ⟨l, hS, hv⟩ | ⟨y, i, hx, hi, hv⟩
  case inr =>
    rw [hv] at hA
    have hx1 : ((y : Int) = 0) = False := eq_false hx
    simp -implicitDefEqProofs only [Tryd.f14, Zaa, Zab, Zac, Zad, Zae, Zaf, Zag, Zah, Zai, Zaj, Zak, Zal, Zam, Zan, Zao, Zap, Zaq, Zar, Zas, Zat, Zau, Zav, Zaw, Zax, Zay, Zaz, Zba, Zbb, Zbc, Zbd, Zbe, Zbf, Zbg, Zbh, Zbi, Zbj, Zbk, Zbl, Zbm, Zbn, Zbo, Zbp, Zbq, Zbr, Zbs, Zbt, Zbu, Zbv, Zbw, Zbx, Zby, Zbz, Zca, Zcb, Zcc, Zcd, Zce, Zcf, Zcg, evalT, Zch, Nat.reduceLT, Nat.reduceEqDiff, if_true, if_false, reduceIte, true_and, Zci, Zcj, map_ite', Zck, bind_ite', Zcl, Zcm, Zcn, Zco, Zcp, Zcq, Zcr, Zcs, Zct, Zcu, Zcv, Zcw, Zcx, Zcy, Zcz, Zda, Zdb, Zdc, Zdd, Zde, Zdf, Zdg, ofVal, ofCell, argT, List.getD_cons_zero, List.getD_cons_succ, List.getElem?_toArray, List.getElem?_cons_zero, List.getElem?_cons_succ, List.nil_append, List.cons_append, List.append_nil, resT, Zdh, Zdi, Nat.mul_one, Zdj, Zdk, Zdl, Zdm, Zdn, Zdo, Zdp, Zdq, Zdr, Zds, Zdt, setT, Zdu, Zdv, Zdw, Zdx, Zdy, List.append_eq, Zdz, Zea, Zeb, Zec, Zed, Zee, Zef, Zeg, Zeh, Nat.add_zero, Zei, Zej, Zek, Zel, Zem, Zen, Int.toNat_natCast, Bool.false_eq_true, Int.reduceEq, Int.reduceLT, Int.reduceLE, Int.reduceNeg, not_false_eq_true, and_self, Zeo, Zep, Int.natCast_one, Int.cast_ofNat_Int, not_true_eq_false, decide_true, decide_false, true_implies, false_implies, Int.toNat_zero, List.length_cons, List.length_nil, Nat.zero_add, mb, Nat.reduceBEq, Bool.false_and, Bool.and_false, Zeq, tys, stb, Zer, Zes, Zet, Zeu, Zev, Zew, Bool.or_false, Bool.false_or, Bool.true_and, Bool.or_true, Bool.true_or, Zex, Zey, storeList, List.take_zero, List.take_succ_cons, List.drop_zero, List.drop_succ_cons, List.drop_nil, List.all_cons, List.all_nil, List.set_cons_zero, List.set_cons_succ, cells_hsl, isCell_hsl, Nat.reduceAdd, Nat.reduceLeDiff, empty_mk, h1, len_str, known_call, hA, zv47, s47, Zeg, isCell_int, q0, build470, ne47, eq47, Bool.not_true, Bool.not_false, false_and, hx1]
    simp only [oneOr]
  rw [hv] at hA
  obtain ⟨hl1, hl2, hl3⟩ := sc_text hS
  have hT := toksV_is l
  generalize toksV l = v at *
  simp -implicitDefEqProofs only [Tryd.f14, Zaa, Zab, Zac, Zad, Zae, Zaf, Zag, Zah, Zai, Zaj, Zak, Zal, Zam, Zan, Zao, Zap, Zaq, Zar, Zas, Zat, Zau, Zav, Zaw, Zax, Zay, Zaz, Zba, Zbb, Zbc, Zbd, Zbe, Zbf, Zbg, Zbh, Zbi, Zbj, Zbk, Zbl, Zbm, Zbn, Zbo, Zbp, Zbq, Zbr, Zbs, Zbt, Zbu, Zbv, Zbw, Zbx, Zby, Zbz, Zca, Zcb, Zcc, Zcd, Zce, Zcf, Zcg, evalT, Zch, Nat.reduceLT, Nat.reduceEqDiff, if_true, if_false, reduceIte, true_and, Zci, Zcj, map_ite', Zck, bind_ite', Zcl, Zcm, Zcn, Zco, Zcp, Zcq, Zcr, Zcs, Zct, Zcu, Zcv, Zcw, Zcx, Zcy, Zcz, Zda, Zdb, Zdc, Zdd, Zde, Zdf, Zdg, ofVal, ofCell, argT, List.getD_cons_zero, List.getD_cons_succ, List.getElem?_toArray, List.getElem?_cons_zero, List.getElem?_cons_succ, List.nil_append, List.cons_append, List.append_nil, resT, Zdh, Zdi, Nat.mul_one, Zdj, Zdk, Zdl, Zdm, Zdn, Zdo, Zdp, Zdq, Zdr, Zds, Zdt, setT, Zdu, Zdv, Zdw, Zdx, Zdy, List.append_eq, Zdz, Zea, Zeb, Zec, Zed, Zee, Zef, Zeg, Zeh, Nat.add_zero, Zei, Zej, Zek, Zel, Zem, Zen, Int.toNat_natCast, Bool.false_eq_true, Int.reduceEq, Int.reduceLT, Int.reduceLE, Int.reduceNeg, not_false_eq_true, and_self, Zeo, Zep, Int.natCast_one, Int.cast_ofNat_Int, not_true_eq_false, decide_true, decide_false, true_implies, false_implies, Int.toNat_zero, List.length_cons, List.length_nil, Nat.zero_add, mb, Nat.reduceBEq, Bool.false_and, Bool.and_false, Zeq, tys, stb, Zer, Zes, Zet, Zeu, Zev, Zew, Bool.or_false, Bool.false_or, Bool.true_and, Bool.or_true, Bool.true_or, Zex, Zey, storeList, List.take_zero, List.take_succ_cons, List.drop_zero, List.drop_succ_cons, List.drop_nil, List.all_cons, List.all_nil, List.set_cons_zero, List.set_cons_succ, cells_hsl, isCell_hsl, Nat.reduceAdd, Nat.reduceLeDiff, empty_mk, h1, len_str, known_call, hA, zv47, s47, Zeg, isCell_int, q0, build470, ne47, eq47, Bool.not_true, Bool.not_false, false_and]
  refine blanks_loop s (by omega) x v l hS hT _ _ _ _ _ ?_ rfl rfl rfl rfl rfl rfl
  intro T e t0 t1 t5 t6 t8 he hend
  generalize [AObj.cells [V.int IntKind.i64 0, V.int IntKind.i64 0] 47] = L at *
  have hs1 := slice_lo s e he
  have hbl := blank_call (subS s e s.length) (by rw [subS_len _ _ _ (by omega)]; omega) (by rw [← hend]; exact blank_run s e he)
  by_cases hl0 : l.length = 0
  · have c2 : ((l.length : Int) = 0) = True := eq_true (by omega)
    simp -implicitDefEqProofs only [Zaa, Zab, Zac, Zad, Zae, Zaf, Zag, Zah, Zai, Zaj, Zak, Zal, Zam, Zan, Zao, Zap, Zaq, Zar, Zas, Zat, Zau, Zav, Zaw, Zax, Zay, Zaz, Zba, Zbb, Zbc, Zbd, Zbe, Zbf, Zbg, Zbh, Zbi, Zbj, Zbk, Zbl, Zbm, Zbn, Zbo, Zbp, Zbq, Zbr, Zbs, Zbt, Zbu, Zbv, Zbw, Zbx, Zby, Zbz, Zca, Zcb, Zcc, Zcd, Zce, Zcf, Zcg, evalT, Zch, Nat.reduceLT, Nat.reduceEqDiff, if_true, if_false, reduceIte, true_and, Zci, Zcj, map_ite', Zck, bind_ite', Zcl, Zcm, Zcn, Zco, Zcp, Zcq, Zcr, Zcs, Zct, Zcu, Zcv, Zcw, Zcx, Zcy, Zcz, Zda, Zdb, Zdc, Zdd, Zde, Zdf, Zdg, ofVal, ofCell, argT, List.getD_cons_zero, List.getD_cons_succ, List.getElem?_toArray, List.getElem?_cons_zero, List.getElem?_cons_succ, List.nil_append, List.cons_append, List.append_nil, resT, Zdh, Zdi, Nat.mul_one, Zdj, Zdk, Zdl, Zdm, Zdn, Zdo, Zdp, Zdq, Zdr, Zds, Zdt, setT, Zdu, Zdv, Zdw, Zdx, Zdy, List.append_eq, Zdz, Zea, Zeb, Zec, Zed, Zee, Zef, Zeg, Zeh, Nat.add_zero, Zei, Zej, Zek, Zel, Zem, Zen, Int.toNat_natCast, Bool.false_eq_true, Int.reduceEq, Int.reduceLT, Int.reduceLE, Int.reduceNeg, not_false_eq_true, and_self, Zeo, Zep, Int.natCast_one, Int.cast_ofNat_Int, not_true_eq_false, decide_true, decide_false, true_implies, false_implies, Int.toNat_zero, List.length_cons, List.length_nil, Nat.zero_add, mb, Nat.reduceBEq, Bool.false_and, Bool.and_false, Zeq, tys, stb, Zer, Zes, Zet, Zeu, Zev, Zew, Bool.or_false, Bool.false_or, Bool.true_and, Bool.or_true, Bool.true_or, Zex, Zey, t0, t1, t5, t6, t8, c2, len_T hT, opT_slice, optO_none, optO_some, hs1, hbl]
    simp only [oneOr]
  · have c2 : ((l.length : Int) = 0) = False := eq_false (by omega)
    obtain ⟨k, hk, hP⟩ := pick_call x l.length (by omega) (by omega)
    have hx := idx_T hT hk
    have hmem : l.getD k Tok.none ∈ l := by simp [List.getD, hk]
    have hpos := sc_pos hS (by omega) _ hmem
    obtain ⟨p, hp⟩ : ∃ p : Nat, (l.getD k Tok.none).pos = (p : Int) := ⟨(l.getD k Tok.none).pos.toNat, by omega⟩
    rw [hp] at hpos hx
    have hpl : p ≤ s.length := by omega
    obtain ⟨l', hS', hc⟩ := blank_lo s p hpl 0 (-1) l hS (by omega) ⟨_, hmem, hp⟩ (.inl rfl)
    have hlen := insB_len s p hpl
    have hB := split_call (insB s p) (by omega)
    rw [splitV_ok _ (by omega) l' hS'] at hB
    unfold insB at hB
    have hAl := alike_call v (toksV l') l l' hT (toksV_is l') hc (by omega)
    have hs2 := slice_lo s p hpl
    have hs3 := slice_hi s p hpl
    have n1 := subS_len s 0 p hpl
    have n2 := subS_len s p s.length (Nat.le_refl _)
    have lim1 : (subS s 0 p).length + 1 ≤ lim := by simp only [lim]; omega
    have lim2 : (subS s 0 p).length + 1 + (subS s p s.length).length ≤ lim := by simp only [lim]; omega
    have lim3 : (subS s 0 p).length + 1 + (subS s p s.length).length + 1 ≤ lim := by simp only [lim]; omega
    have qe : ∀ a b : V, aload env (L ++ [.cells [a, b] 47]) 47 (.ptr L.length 0) = some (.agg [a, b]) := fun a b => ld47 (heap_end _ _)
    simp -implicitDefEqProofs only [Zaa, Zab, Zac, Zad, Zae, Zaf, Zag, Zah, Zai, Zaj, Zak, Zal, Zam, Zan, Zao, Zap, Zaq, Zar, Zas, Zat, Zau, Zav, Zaw, Zax, Zay, Zaz, Zba, Zbb, Zbc, Zbd, Zbe, Zbf, Zbg, Zbh, Zbi, Zbj, Zbk, Zbl, Zbm, Zbn, Zbo, Zbp, Zbq, Zbr, Zbs, Zbt, Zbu, Zbv, Zbw, Zbx, Zby, Zbz, Zca, Zcb, Zcc, Zcd, Zce, Zcf, Zcg, evalT, Zch, Nat.reduceLT, Nat.reduceEqDiff, if_true, if_false, reduceIte, true_and, Zci, Zcj, map_ite', Zck, bind_ite', Zcl, Zcm, Zcn, Zco, Zcp, Zcq, Zcr, Zcs, Zct, Zcu, Zcv, Zcw, Zcx, Zcy, Zcz, Zda, Zdb, Zdc, Zdd, Zde, Zdf, Zdg, ofVal, ofCell, argT, List.getD_cons_zero, List.getD_cons_succ, List.getElem?_toArray, List.getElem?_cons_zero, List.getElem?_cons_succ, List.nil_append, List.cons_append, List.append_nil, resT, Zdh, Zdi, Nat.mul_one, Zdj, Zdk, Zdl, Zdm, Zdn, Zdo, Zdp, Zdq, Zdr, Zds, Zdt, setT, Zdu, Zdv, Zdw, Zdx, Zdy, List.append_eq, Zdz, Zea, Zeb, Zec, Zed, Zee, Zef, Zeg, Zeh, Nat.add_zero, Zei, Zej, Zek, Zel, Zem, Zen, Int.toNat_natCast, Bool.false_eq_true, Int.reduceEq, Int.reduceLT, Int.reduceLE, Int.reduceNeg, not_false_eq_true, and_self, Zeo, Zep, Int.natCast_one, Int.cast_ofNat_Int, not_true_eq_false, decide_true, decide_false, true_implies, false_implies, Int.toNat_zero, List.length_cons, List.length_nil, Nat.zero_add, mb, Nat.reduceBEq, Bool.false_and, Bool.and_false, Zeq, tys, stb, Zer, Zes, Zet, Zeu, Zev, Zew, Bool.or_false, Bool.false_or, Bool.true_and, Bool.or_true, Bool.true_or, Zex, Zey, storeList, List.take_zero, List.take_succ_cons, List.drop_zero, List.drop_succ_cons, List.drop_nil, List.all_cons, List.all_nil, List.set_cons_zero, List.set_cons_succ, cells_hsl, isCell_hsl, Nat.reduceAdd, Nat.reduceLeDiff, t0, t1, t5, t6, t8, c2, len_T hT, opT_slice, optO_none, optO_some, hs1, hs2, hs3, hbl, hP, hx, fo523', load_hd, vBin_sadd, List.length_append, lim1, lim2, lim3, hB, hAl, zv47, s47, heap_end, set_end, isCell_int, Zeg, qe, build470, eq47]
    exact ⟨by kernel_rfl, by simp only [oneOr]⟩
theorem blanks_foundt {u w : V} (h : Tyd Tryd.prog 4 9 [u]) (h2 : Tyd Tryd.prog 4 3 [w]) : Go.Ab.Found env 14 [u, w] := by
  obtain ⟨s, e, _⟩ := tyd_str h (by kernel_rfl)
  obtain ⟨n, e2, _⟩ := tyd_int h2 u3
  simp only [List.cons.injEq, and_true] at e e2
  subst e e2
  exact blanks_found s n
end Go.Proofs.YtbikmhpobflfeaaDoor
