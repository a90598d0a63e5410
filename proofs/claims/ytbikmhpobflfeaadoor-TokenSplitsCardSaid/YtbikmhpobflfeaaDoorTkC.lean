/- Proved here: the reference's scanner. Conditions: those of each theorem; no statement of the seat is proved in this text. -/
import Derived.Test.YtbikmhpobflfeaaDoorTkB
namespace Go.Proofs.YtbikmhpobflfeaaDoor
open Go.Ab
set_option maxRecDepth 100000
set_option linter.unusedSimpArgs false
set_option linter.unusedVariables false
/-! ### the reference's scanner -/
theorem at100 : env.P.funcs[100]? = some Tryd.f100 := by kernel_rfl
theorem at101 : env.P.funcs[101]? = some Tryd.f101 := by kernel_rfl
theorem at103 : env.P.funcs[103]? = some Tryd.f103 := by kernel_rfl
theorem at104 : env.P.funcs[104]? = some Tryd.f104 := by kernel_rfl
theorem small_call (c : UInt8) (σ : S) : callFn env (ev env) 100 [.int .u8 c.toNat] σ = some (.bool (decide (97 ≤ c.toNat ∧ c.toNat ≤ 122)), σ) := by
  refine callFn_pure rfl rfl rfl at100 rfl (by simp [Tryd.f100]) (by simp [Tryd.f100]) (G_start ?_) σ
  by_cases h1 : 97 ≤ c.toNat
  · have g1 : (97 : Int) ≤ (c.toNat : Int) := by omega
    by_cases h2 : c.toNat ≤ 122
    · have g2 : (c.toNat : Int) ≤ 122 := by omega
      simp -implicitDefEqProofs only [Tryd.f100, Zaa, Zab, Zac, Zad, Zae, Zaf, Zag, Zah, Zai, Zaj, Zak, Zal, Zam, Zan, Zao, Zap, Zaq, Zar, Zas, Zat, Zau, Zav, Zaw, Zax, Zay, Zaz, Zba, Zbb, Zbc, Zbd, Zbe, Zbf, Zbg, Zbh, Zbi, Zbj, Zbk, Zbl, Zbm, Zbn, Zbo, Zbp, Zbq, Zbr, Zbs, Zbt, Zbu, Zbv, Zbw, Zbx, Zby, Zbz, Zca, Zcb, Zcc, Zcd, Zce, Zcf, Zcg, evalT, Zch, Nat.reduceLT, Nat.reduceEqDiff, if_true, if_false, reduceIte, true_and, Zci, Zcj, map_ite', Zck, bind_ite', Zcl, Zcm, Zcn, Zco, Zcp, Zcq, Zcr, Zcs, Zct, Zcu, Zcv, Zcw, Zcx, Zcy, Zcz, Zda, Zdb, Zdc, Zdd, Zde, Zdf, Zdg, ofVal, ofCell, argT, List.getD_cons_zero, List.getD_cons_succ, List.getElem?_toArray, List.getElem?_cons_zero, List.getElem?_cons_succ, List.nil_append, List.cons_append, List.append_nil, resT, Zdh, Zdi, Nat.mul_one, Zdj, Zdk, Zdl, Zdm, Zdn, Zdo, Zdp, Zdq, Zdr, Zds, Zdt, setT, Zdu, Zdv, Zdw, Zdx, Zdy, List.append_eq, Zdz, Zea, Zeb, Zec, Zed, Zee, Zef, Zeg, Zeh, Nat.add_zero, Zei, Zej, Zek, Zel, Zem, Zen, Int.toNat_natCast, Bool.false_eq_true, Int.reduceEq, Int.reduceLT, Int.reduceLE, Int.reduceNeg, not_false_eq_true, and_self, Zeo, Zep, Int.natCast_one, Int.cast_ofNat_Int, not_true_eq_false, decide_true, decide_false, true_implies, false_implies, Int.toNat_zero, List.length_cons, List.length_nil, Nat.zero_add, mb, Nat.reduceBEq, Bool.false_and, Bool.and_false, Zeq, tys, stb, Zer, Zes, Zet, Zeu, Zev, Zew, Bool.or_false, Bool.false_or, Bool.true_and, Bool.or_true, Bool.true_or, Zex, Zey, g1, g2]
      simp [oneOr, sealDepth, sealV_bool, h1, h2]
    · have g2 : ¬ (c.toNat : Int) ≤ 122 := by omega
      simp -implicitDefEqProofs only [Tryd.f100, Zaa, Zab, Zac, Zad, Zae, Zaf, Zag, Zah, Zai, Zaj, Zak, Zal, Zam, Zan, Zao, Zap, Zaq, Zar, Zas, Zat, Zau, Zav, Zaw, Zax, Zay, Zaz, Zba, Zbb, Zbc, Zbd, Zbe, Zbf, Zbg, Zbh, Zbi, Zbj, Zbk, Zbl, Zbm, Zbn, Zbo, Zbp, Zbq, Zbr, Zbs, Zbt, Zbu, Zbv, Zbw, Zbx, Zby, Zbz, Zca, Zcb, Zcc, Zcd, Zce, Zcf, Zcg, evalT, Zch, Nat.reduceLT, Nat.reduceEqDiff, if_true, if_false, reduceIte, true_and, Zci, Zcj, map_ite', Zck, bind_ite', Zcl, Zcm, Zcn, Zco, Zcp, Zcq, Zcr, Zcs, Zct, Zcu, Zcv, Zcw, Zcx, Zcy, Zcz, Zda, Zdb, Zdc, Zdd, Zde, Zdf, Zdg, ofVal, ofCell, argT, List.getD_cons_zero, List.getD_cons_succ, List.getElem?_toArray, List.getElem?_cons_zero, List.getElem?_cons_succ, List.nil_append, List.cons_append, List.append_nil, resT, Zdh, Zdi, Nat.mul_one, Zdj, Zdk, Zdl, Zdm, Zdn, Zdo, Zdp, Zdq, Zdr, Zds, Zdt, setT, Zdu, Zdv, Zdw, Zdx, Zdy, List.append_eq, Zdz, Zea, Zeb, Zec, Zed, Zee, Zef, Zeg, Zeh, Nat.add_zero, Zei, Zej, Zek, Zel, Zem, Zen, Int.toNat_natCast, Bool.false_eq_true, Int.reduceEq, Int.reduceLT, Int.reduceLE, Int.reduceNeg, not_false_eq_true, and_self, Zeo, Zep, Int.natCast_one, Int.cast_ofNat_Int, not_true_eq_false, decide_true, decide_false, true_implies, false_implies, Int.toNat_zero, List.length_cons, List.length_nil, Nat.zero_add, mb, Nat.reduceBEq, Bool.false_and, Bool.and_false, Zeq, tys, stb, Zer, Zes, Zet, Zeu, Zev, Zew, Bool.or_false, Bool.false_or, Bool.true_and, Bool.or_true, Bool.true_or, Zex, Zey, g1, g2]
      simp [oneOr, sealDepth, sealV_bool, h1, h2]
  · have g1 : ¬ (97 : Int) ≤ (c.toNat : Int) := by omega
    simp -implicitDefEqProofs only [Tryd.f100, Zaa, Zab, Zac, Zad, Zae, Zaf, Zag, Zah, Zai, Zaj, Zak, Zal, Zam, Zan, Zao, Zap, Zaq, Zar, Zas, Zat, Zau, Zav, Zaw, Zax, Zay, Zaz, Zba, Zbb, Zbc, Zbd, Zbe, Zbf, Zbg, Zbh, Zbi, Zbj, Zbk, Zbl, Zbm, Zbn, Zbo, Zbp, Zbq, Zbr, Zbs, Zbt, Zbu, Zbv, Zbw, Zbx, Zby, Zbz, Zca, Zcb, Zcc, Zcd, Zce, Zcf, Zcg, evalT, Zch, Nat.reduceLT, Nat.reduceEqDiff, if_true, if_false, reduceIte, true_and, Zci, Zcj, map_ite', Zck, bind_ite', Zcl, Zcm, Zcn, Zco, Zcp, Zcq, Zcr, Zcs, Zct, Zcu, Zcv, Zcw, Zcx, Zcy, Zcz, Zda, Zdb, Zdc, Zdd, Zde, Zdf, Zdg, ofVal, ofCell, argT, List.getD_cons_zero, List.getD_cons_succ, List.getElem?_toArray, List.getElem?_cons_zero, List.getElem?_cons_succ, List.nil_append, List.cons_append, List.append_nil, resT, Zdh, Zdi, Nat.mul_one, Zdj, Zdk, Zdl, Zdm, Zdn, Zdo, Zdp, Zdq, Zdr, Zds, Zdt, setT, Zdu, Zdv, Zdw, Zdx, Zdy, List.append_eq, Zdz, Zea, Zeb, Zec, Zed, Zee, Zef, Zeg, Zeh, Nat.add_zero, Zei, Zej, Zek, Zel, Zem, Zen, Int.toNat_natCast, Bool.false_eq_true, Int.reduceEq, Int.reduceLT, Int.reduceLE, Int.reduceNeg, not_false_eq_true, and_self, Zeo, Zep, Int.natCast_one, Int.cast_ofNat_Int, not_true_eq_false, decide_true, decide_false, true_implies, false_implies, Int.toNat_zero, List.length_cons, List.length_nil, Nat.zero_add, mb, Nat.reduceBEq, Bool.false_and, Bool.and_false, Zeq, tys, stb, Zer, Zes, Zet, Zeu, Zev, Zew, Bool.or_false, Bool.false_or, Bool.true_and, Bool.or_true, Bool.true_or, Zex, Zey, g1]
    simp [oneOr, sealDepth, sealV_bool, h1]
theorem digit_call (c : UInt8) (σ : S) : callFn env (ev env) 103 [.int .u8 c.toNat] σ = some (.bool (decide (48 ≤ c.toNat ∧ c.toNat ≤ 57)), σ) := by
  refine callFn_pure rfl rfl rfl at103 rfl (by simp [Tryd.f103]) (by simp [Tryd.f103]) (G_start ?_) σ
  by_cases h1 : 48 ≤ c.toNat
  · have g1 : (48 : Int) ≤ (c.toNat : Int) := by omega
    by_cases h2 : c.toNat ≤ 57
    · have g2 : (c.toNat : Int) ≤ 57 := by omega
      simp -implicitDefEqProofs only [Tryd.f103, Zaa, Zab, Zac, Zad, Zae, Zaf, Zag, Zah, Zai, Zaj, Zak, Zal, Zam, Zan, Zao, Zap, Zaq, Zar, Zas, Zat, Zau, Zav, Zaw, Zax, Zay, Zaz, Zba, Zbb, Zbc, Zbd, Zbe, Zbf, Zbg, Zbh, Zbi, Zbj, Zbk, Zbl, Zbm, Zbn, Zbo, Zbp, Zbq, Zbr, Zbs, Zbt, Zbu, Zbv, Zbw, Zbx, Zby, Zbz, Zca, Zcb, Zcc, Zcd, Zce, Zcf, Zcg, evalT, Zch, Nat.reduceLT, Nat.reduceEqDiff, if_true, if_false, reduceIte, true_and, Zci, Zcj, map_ite', Zck, bind_ite', Zcl, Zcm, Zcn, Zco, Zcp, Zcq, Zcr, Zcs, Zct, Zcu, Zcv, Zcw, Zcx, Zcy, Zcz, Zda, Zdb, Zdc, Zdd, Zde, Zdf, Zdg, ofVal, ofCell, argT, List.getD_cons_zero, List.getD_cons_succ, List.getElem?_toArray, List.getElem?_cons_zero, List.getElem?_cons_succ, List.nil_append, List.cons_append, List.append_nil, resT, Zdh, Zdi, Nat.mul_one, Zdj, Zdk, Zdl, Zdm, Zdn, Zdo, Zdp, Zdq, Zdr, Zds, Zdt, setT, Zdu, Zdv, Zdw, Zdx, Zdy, List.append_eq, Zdz, Zea, Zeb, Zec, Zed, Zee, Zef, Zeg, Zeh, Nat.add_zero, Zei, Zej, Zek, Zel, Zem, Zen, Int.toNat_natCast, Bool.false_eq_true, Int.reduceEq, Int.reduceLT, Int.reduceLE, Int.reduceNeg, not_false_eq_true, and_self, Zeo, Zep, Int.natCast_one, Int.cast_ofNat_Int, not_true_eq_false, decide_true, decide_false, true_implies, false_implies, Int.toNat_zero, List.length_cons, List.length_nil, Nat.zero_add, mb, Nat.reduceBEq, Bool.false_and, Bool.and_false, Zeq, tys, stb, Zer, Zes, Zet, Zeu, Zev, Zew, Bool.or_false, Bool.false_or, Bool.true_and, Bool.or_true, Bool.true_or, Zex, Zey, g1, g2]
      simp [oneOr, sealDepth, sealV_bool, h1, h2]
    · have g2 : ¬ (c.toNat : Int) ≤ 57 := by omega
      simp -implicitDefEqProofs only [Tryd.f103, Zaa, Zab, Zac, Zad, Zae, Zaf, Zag, Zah, Zai, Zaj, Zak, Zal, Zam, Zan, Zao, Zap, Zaq, Zar, Zas, Zat, Zau, Zav, Zaw, Zax, Zay, Zaz, Zba, Zbb, Zbc, Zbd, Zbe, Zbf, Zbg, Zbh, Zbi, Zbj, Zbk, Zbl, Zbm, Zbn, Zbo, Zbp, Zbq, Zbr, Zbs, Zbt, Zbu, Zbv, Zbw, Zbx, Zby, Zbz, Zca, Zcb, Zcc, Zcd, Zce, Zcf, Zcg, evalT, Zch, Nat.reduceLT, Nat.reduceEqDiff, if_true, if_false, reduceIte, true_and, Zci, Zcj, map_ite', Zck, bind_ite', Zcl, Zcm, Zcn, Zco, Zcp, Zcq, Zcr, Zcs, Zct, Zcu, Zcv, Zcw, Zcx, Zcy, Zcz, Zda, Zdb, Zdc, Zdd, Zde, Zdf, Zdg, ofVal, ofCell, argT, List.getD_cons_zero, List.getD_cons_succ, List.getElem?_toArray, List.getElem?_cons_zero, List.getElem?_cons_succ, List.nil_append, List.cons_append, List.append_nil, resT, Zdh, Zdi, Nat.mul_one, Zdj, Zdk, Zdl, Zdm, Zdn, Zdo, Zdp, Zdq, Zdr, Zds, Zdt, setT, Zdu, Zdv, Zdw, Zdx, Zdy, List.append_eq, Zdz, Zea, Zeb, Zec, Zed, Zee, Zef, Zeg, Zeh, Nat.add_zero, Zei, Zej, Zek, Zel, Zem, Zen, Int.toNat_natCast, Bool.false_eq_true, Int.reduceEq, Int.reduceLT, Int.reduceLE, Int.reduceNeg, not_false_eq_true, and_self, Zeo, Zep, Int.natCast_one, Int.cast_ofNat_Int, not_true_eq_false, decide_true, decide_false, true_implies, false_implies, Int.toNat_zero, List.length_cons, List.length_nil, Nat.zero_add, mb, Nat.reduceBEq, Bool.false_and, Bool.and_false, Zeq, tys, stb, Zer, Zes, Zet, Zeu, Zev, Zew, Bool.or_false, Bool.false_or, Bool.true_and, Bool.or_true, Bool.true_or, Zex, Zey, g1, g2]
      simp [oneOr, sealDepth, sealV_bool, h1, h2]
  · have g1 : ¬ (48 : Int) ≤ (c.toNat : Int) := by omega
    simp -implicitDefEqProofs only [Tryd.f103, Zaa, Zab, Zac, Zad, Zae, Zaf, Zag, Zah, Zai, Zaj, Zak, Zal, Zam, Zan, Zao, Zap, Zaq, Zar, Zas, Zat, Zau, Zav, Zaw, Zax, Zay, Zaz, Zba, Zbb, Zbc, Zbd, Zbe, Zbf, Zbg, Zbh, Zbi, Zbj, Zbk, Zbl, Zbm, Zbn, Zbo, Zbp, Zbq, Zbr, Zbs, Zbt, Zbu, Zbv, Zbw, Zbx, Zby, Zbz, Zca, Zcb, Zcc, Zcd, Zce, Zcf, Zcg, evalT, Zch, Nat.reduceLT, Nat.reduceEqDiff, if_true, if_false, reduceIte, true_and, Zci, Zcj, map_ite', Zck, bind_ite', Zcl, Zcm, Zcn, Zco, Zcp, Zcq, Zcr, Zcs, Zct, Zcu, Zcv, Zcw, Zcx, Zcy, Zcz, Zda, Zdb, Zdc, Zdd, Zde, Zdf, Zdg, ofVal, ofCell, argT, List.getD_cons_zero, List.getD_cons_succ, List.getElem?_toArray, List.getElem?_cons_zero, List.getElem?_cons_succ, List.nil_append, List.cons_append, List.append_nil, resT, Zdh, Zdi, Nat.mul_one, Zdj, Zdk, Zdl, Zdm, Zdn, Zdo, Zdp, Zdq, Zdr, Zds, Zdt, setT, Zdu, Zdv, Zdw, Zdx, Zdy, List.append_eq, Zdz, Zea, Zeb, Zec, Zed, Zee, Zef, Zeg, Zeh, Nat.add_zero, Zei, Zej, Zek, Zel, Zem, Zen, Int.toNat_natCast, Bool.false_eq_true, Int.reduceEq, Int.reduceLT, Int.reduceLE, Int.reduceNeg, not_false_eq_true, and_self, Zeo, Zep, Int.natCast_one, Int.cast_ofNat_Int, not_true_eq_false, decide_true, decide_false, true_implies, false_implies, Int.toNat_zero, List.length_cons, List.length_nil, Nat.zero_add, mb, Nat.reduceBEq, Bool.false_and, Bool.and_false, Zeq, tys, stb, Zer, Zes, Zet, Zeu, Zev, Zew, Bool.or_false, Bool.false_or, Bool.true_and, Bool.or_true, Bool.true_or, Zex, Zey, g1]
    simp [oneOr, sealDepth, sealV_bool, h1]
theorem cls_word (c : Nat) : clsN c ∈ ([2, 3, 4] : List Int) ↔ ((97 ≤ c ∧ c ≤ 122) ∨ (48 ≤ c ∧ c ≤ 57) ∨ c = 95) := by
  unfold clsN
  by_cases h1 : 97 ≤ c ∧ c ≤ 122
  · simp [h1]
  by_cases h2 : 48 ≤ c ∧ c ≤ 57
  · simp [h1, h2]
  by_cases h3 : c = 32
  · subst h3; simp
  by_cases h4 : c = 95
  · subst h4; simp
  by_cases h5 : c = 39
  · subst h5; simp
  simp [h1, h2, h3, h4, h5]
theorem cls_digit (c : Nat) : clsN c ∈ ([3] : List Int) ↔ (48 ≤ c ∧ c ≤ 57) := by
  unfold clsN
  by_cases h1 : 97 ≤ c ∧ c ≤ 122
  · simp [h1]; omega
  by_cases h2 : 48 ≤ c ∧ c ≤ 57
  · simp [h1, h2]
  by_cases h3 : c = 32
  · subst h3; simp
  by_cases h4 : c = 95
  · subst h4; simp
  by_cases h5 : c = 39
  · subst h5; simp
  simp [h1, h2, h3, h4, h5]
theorem number_end (s : List UInt8) (hl : s.length ≤ 2 ^ 30) (i0 : Nat) (h0 : i0 ≤ s.length) (σ : S) : callFn env (ev env) 104 [.str s, .int .i64 (i0 : Nat)] σ = some (.int .i64 (endW s [3] i0 : Nat), σ) := by
  refine callFn_pure rfl rfl rfl at104 rfl (by simp [Tryd.f104]) (by simp [Tryd.f104]) (G_start ?_) σ
  simp -implicitDefEqProofs only [Tryd.f104, Zaa, Zab, Zac, Zad, Zae, Zaf, Zag, Zah, Zai, Zaj, Zak, Zal, Zam, Zan, Zao, Zap, Zaq, Zar, Zas, Zat, Zau, Zav, Zaw, Zax, Zay, Zaz, Zba, Zbb, Zbc, Zbd, Zbe, Zbf, Zbg, Zbh, Zbi, Zbj, Zbk, Zbl, Zbm, Zbn, Zbo, Zbp, Zbq, Zbr, Zbs, Zbt, Zbu, Zbv, Zbw, Zbx, Zby, Zbz, Zca, Zcb, Zcc, Zcd, Zce, Zcf, Zcg, evalT, Zch, Nat.reduceLT, Nat.reduceEqDiff, if_true, if_false, reduceIte, true_and, Zci, Zcj, map_ite', Zck, bind_ite', Zcl, Zcm, Zcn, Zco, Zcp, Zcq, Zcr, Zcs, Zct, Zcu, Zcv, Zcw, Zcx, Zcy, Zcz, Zda, Zdb, Zdc, Zdd, Zde, Zdf, Zdg, ofVal, ofCell, argT, List.getD_cons_zero, List.getD_cons_succ, List.getElem?_toArray, List.getElem?_cons_zero, List.getElem?_cons_succ, List.nil_append, List.cons_append, List.append_nil, resT, Zdh, Zdi, Nat.mul_one, Zdj, Zdk, Zdl, Zdm, Zdn, Zdo, Zdp, Zdq, Zdr, Zds, Zdt, setT, Zdu, Zdv, Zdw, Zdx, Zdy, List.append_eq, Zdz, Zea, Zeb, Zec, Zed, Zee, Zef, Zeg, Zeh, Nat.add_zero, Zei, Zej, Zek, Zel, Zem, Zen, Int.toNat_natCast, Bool.false_eq_true, Int.reduceEq, Int.reduceLT, Int.reduceLE, Int.reduceNeg, not_false_eq_true, and_self, Zeo, Zep, Int.natCast_one, Int.cast_ofNat_Int, not_true_eq_false, decide_true, decide_false, true_implies, false_implies, Int.toNat_zero, List.length_cons, List.length_nil, Nat.zero_add, mb, Nat.reduceBEq, Bool.false_and, Bool.and_false, Zeq, tys, stb, Zer, Zes, Zet, Zeu, Zev, Zew, Bool.or_false, Bool.false_or, Bool.true_and, Bool.or_true, Bool.true_or, Zex, Zey]
  refine loop_rule (fun m T D σ => D = [] ∧ T 0 = .str s ∧ ∃ i : Nat, T 1 = .int .i64 i ∧ i ≤ s.length ∧ m = s.length - i ∧ runW s [3] (s.length - i) i = endW s [3] i0) ?_ (s.length - i0) _ _ _ ?_
  rotate_left
  · exact ⟨rfl, rfl, i0, rfl, h0, rfl, rfl⟩
  rintro m T D σ ⟨rfl, t0, i, t1, hi, rfl, he⟩
  refine G_start ?_
  generalize endW s [3] i0 = e at *
  by_cases hlt : i < s.length
  · have c1 : (i : Int) < (s.length : Int) := by omega
    have c2 : (0 : Int) ≤ (i : Int) ∧ (i : Int) < (s.length : Int) := by omega
    have e1 : IntKind.i64.wrap ((i : Int) + 1) = ((i + 1 : Nat) : Int) := by rw [wrap_i64 (by omega) (by omega)]; omega
    obtain ⟨q, hq⟩ : ∃ q, s.length - i = q + 1 := ⟨s.length - i - 1, by omega⟩
    have hq2 : q = s.length - (i + 1) := by omega
    have hstep : runW s [3] (s.length - i) i = if clsN (s.getD i 0).toNat ∈ ([3] : List Int) then runW s [3] q (i + 1) else i := by rw [hq]; rfl
    rw [hstep] at he
    have hdc := digit_call (s.getD i 0)
    by_cases hn : clsN (s.getD i 0).toNat ∈ ([3] : List Int)
    · rw [if_pos hn, hq2] at he
      have hn2 := (cls_digit _).1 hn
      rw [decide_eq_true hn2] at hdc
      simp -implicitDefEqProofs only [Zaa, Zab, Zac, Zad, Zae, Zaf, Zag, Zah, Zai, Zaj, Zak, Zal, Zam, Zan, Zao, Zap, Zaq, Zar, Zas, Zat, Zau, Zav, Zaw, Zax, Zay, Zaz, Zba, Zbb, Zbc, Zbd, Zbe, Zbf, Zbg, Zbh, Zbi, Zbj, Zbk, Zbl, Zbm, Zbn, Zbo, Zbp, Zbq, Zbr, Zbs, Zbt, Zbu, Zbv, Zbw, Zbx, Zby, Zbz, Zca, Zcb, Zcc, Zcd, Zce, Zcf, Zcg, evalT, Zch, Nat.reduceLT, Nat.reduceEqDiff, if_true, if_false, reduceIte, true_and, Zci, Zcj, map_ite', Zck, bind_ite', Zcl, Zcm, Zcn, Zco, Zcp, Zcq, Zcr, Zcs, Zct, Zcu, Zcv, Zcw, Zcx, Zcy, Zcz, Zda, Zdb, Zdc, Zdd, Zde, Zdf, Zdg, ofVal, ofCell, argT, List.getD_cons_zero, List.getD_cons_succ, List.getElem?_toArray, List.getElem?_cons_zero, List.getElem?_cons_succ, List.nil_append, List.cons_append, List.append_nil, resT, Zdh, Zdi, Nat.mul_one, Zdj, Zdk, Zdl, Zdm, Zdn, Zdo, Zdp, Zdq, Zdr, Zds, Zdt, setT, Zdu, Zdv, Zdw, Zdx, Zdy, List.append_eq, Zdz, Zea, Zeb, Zec, Zed, Zee, Zef, Zeg, Zeh, Nat.add_zero, Zei, Zej, Zek, Zel, Zem, Zen, Int.toNat_natCast, Bool.false_eq_true, Int.reduceEq, Int.reduceLT, Int.reduceLE, Int.reduceNeg, not_false_eq_true, and_self, Zeo, Zep, Int.natCast_one, Int.cast_ofNat_Int, not_true_eq_false, decide_true, decide_false, true_implies, false_implies, Int.toNat_zero, List.length_cons, List.length_nil, Nat.zero_add, mb, Nat.reduceBEq, Bool.false_and, Bool.and_false, Zeq, tys, stb, Zer, Zes, Zet, Zeu, Zev, Zew, Bool.or_false, Bool.false_or, Bool.true_and, Bool.or_true, Bool.true_or, Zex, Zey, t0, t1, c1, c2, e1, len_str, opT_index, indexO_str u9, Int.toNat_natCast, hdc]
      exact ⟨s.length - (i + 1), by omega, i + 1, rfl, by omega, rfl, he⟩
    · rw [if_neg hn] at he
      subst he
      have hn2 : ¬ (48 ≤ (s.getD i 0).toNat ∧ (s.getD i 0).toNat ≤ 57) := fun h => hn ((cls_digit _).2 h)
      rw [decide_eq_false hn2] at hdc
      simp -implicitDefEqProofs only [Zaa, Zab, Zac, Zad, Zae, Zaf, Zag, Zah, Zai, Zaj, Zak, Zal, Zam, Zan, Zao, Zap, Zaq, Zar, Zas, Zat, Zau, Zav, Zaw, Zax, Zay, Zaz, Zba, Zbb, Zbc, Zbd, Zbe, Zbf, Zbg, Zbh, Zbi, Zbj, Zbk, Zbl, Zbm, Zbn, Zbo, Zbp, Zbq, Zbr, Zbs, Zbt, Zbu, Zbv, Zbw, Zbx, Zby, Zbz, Zca, Zcb, Zcc, Zcd, Zce, Zcf, Zcg, evalT, Zch, Nat.reduceLT, Nat.reduceEqDiff, if_true, if_false, reduceIte, true_and, Zci, Zcj, map_ite', Zck, bind_ite', Zcl, Zcm, Zcn, Zco, Zcp, Zcq, Zcr, Zcs, Zct, Zcu, Zcv, Zcw, Zcx, Zcy, Zcz, Zda, Zdb, Zdc, Zdd, Zde, Zdf, Zdg, ofVal, ofCell, argT, List.getD_cons_zero, List.getD_cons_succ, List.getElem?_toArray, List.getElem?_cons_zero, List.getElem?_cons_succ, List.nil_append, List.cons_append, List.append_nil, resT, Zdh, Zdi, Nat.mul_one, Zdj, Zdk, Zdl, Zdm, Zdn, Zdo, Zdp, Zdq, Zdr, Zds, Zdt, setT, Zdu, Zdv, Zdw, Zdx, Zdy, List.append_eq, Zdz, Zea, Zeb, Zec, Zed, Zee, Zef, Zeg, Zeh, Nat.add_zero, Zei, Zej, Zek, Zel, Zem, Zen, Int.toNat_natCast, Bool.false_eq_true, Int.reduceEq, Int.reduceLT, Int.reduceLE, Int.reduceNeg, not_false_eq_true, and_self, Zeo, Zep, Int.natCast_one, Int.cast_ofNat_Int, not_true_eq_false, decide_true, decide_false, true_implies, false_implies, Int.toNat_zero, List.length_cons, List.length_nil, Nat.zero_add, mb, Nat.reduceBEq, Bool.false_and, Bool.and_false, Zeq, tys, stb, Zer, Zes, Zet, Zeu, Zev, Zew, Bool.or_false, Bool.false_or, Bool.true_and, Bool.or_true, Bool.true_or, Zex, Zey, t0, t1, c1, c2, e1, len_str, opT_index, indexO_str u9, Int.toNat_natCast, hdc]
      simp [oneOr, sealDepth, sealV_int]
  · have hi2 : i = s.length := by omega
    subst hi2
    have c1 : ¬ (s.length : Int) < (s.length : Int) := by omega
    rw [Nat.sub_self] at he
    simp only [runW] at he
    subst he
    simp -implicitDefEqProofs only [Zaa, Zab, Zac, Zad, Zae, Zaf, Zag, Zah, Zai, Zaj, Zak, Zal, Zam, Zan, Zao, Zap, Zaq, Zar, Zas, Zat, Zau, Zav, Zaw, Zax, Zay, Zaz, Zba, Zbb, Zbc, Zbd, Zbe, Zbf, Zbg, Zbh, Zbi, Zbj, Zbk, Zbl, Zbm, Zbn, Zbo, Zbp, Zbq, Zbr, Zbs, Zbt, Zbu, Zbv, Zbw, Zbx, Zby, Zbz, Zca, Zcb, Zcc, Zcd, Zce, Zcf, Zcg, evalT, Zch, Nat.reduceLT, Nat.reduceEqDiff, if_true, if_false, reduceIte, true_and, Zci, Zcj, map_ite', Zck, bind_ite', Zcl, Zcm, Zcn, Zco, Zcp, Zcq, Zcr, Zcs, Zct, Zcu, Zcv, Zcw, Zcx, Zcy, Zcz, Zda, Zdb, Zdc, Zdd, Zde, Zdf, Zdg, ofVal, ofCell, argT, List.getD_cons_zero, List.getD_cons_succ, List.getElem?_toArray, List.getElem?_cons_zero, List.getElem?_cons_succ, List.nil_append, List.cons_append, List.append_nil, resT, Zdh, Zdi, Nat.mul_one, Zdj, Zdk, Zdl, Zdm, Zdn, Zdo, Zdp, Zdq, Zdr, Zds, Zdt, setT, Zdu, Zdv, Zdw, Zdx, Zdy, List.append_eq, Zdz, Zea, Zeb, Zec, Zed, Zee, Zef, Zeg, Zeh, Nat.add_zero, Zei, Zej, Zek, Zel, Zem, Zen, Int.toNat_natCast, Bool.false_eq_true, Int.reduceEq, Int.reduceLT, Int.reduceLE, Int.reduceNeg, not_false_eq_true, and_self, Zeo, Zep, Int.natCast_one, Int.cast_ofNat_Int, not_true_eq_false, decide_true, decide_false, true_implies, false_implies, Int.toNat_zero, List.length_cons, List.length_nil, Nat.zero_add, mb, Nat.reduceBEq, Bool.false_and, Bool.and_false, Zeq, tys, stb, Zer, Zes, Zet, Zeu, Zev, Zew, Bool.or_false, Bool.false_or, Bool.true_and, Bool.or_true, Bool.true_or, Zex, Zey, t0, t1, c1, len_str]
    simp [oneOr, sealDepth, sealV_int]
theorem word_end (s : List UInt8) (hl : s.length ≤ 2 ^ 30) (i0 : Nat) (h0 : i0 ≤ s.length) (σ : S) : callFn env (ev env) 101 [.str s, .int .i64 (i0 : Nat)] σ = some (.int .i64 (endW s [2, 3, 4] i0 : Nat), σ) := by
  refine callFn_pure rfl rfl rfl at101 rfl (by simp [Tryd.f101]) (by simp [Tryd.f101]) (G_start ?_) σ
  simp -implicitDefEqProofs only [Tryd.f101, Zaa, Zab, Zac, Zad, Zae, Zaf, Zag, Zah, Zai, Zaj, Zak, Zal, Zam, Zan, Zao, Zap, Zaq, Zar, Zas, Zat, Zau, Zav, Zaw, Zax, Zay, Zaz, Zba, Zbb, Zbc, Zbd, Zbe, Zbf, Zbg, Zbh, Zbi, Zbj, Zbk, Zbl, Zbm, Zbn, Zbo, Zbp, Zbq, Zbr, Zbs, Zbt, Zbu, Zbv, Zbw, Zbx, Zby, Zbz, Zca, Zcb, Zcc, Zcd, Zce, Zcf, Zcg, evalT, Zch, Nat.reduceLT, Nat.reduceEqDiff, if_true, if_false, reduceIte, true_and, Zci, Zcj, map_ite', Zck, bind_ite', Zcl, Zcm, Zcn, Zco, Zcp, Zcq, Zcr, Zcs, Zct, Zcu, Zcv, Zcw, Zcx, Zcy, Zcz, Zda, Zdb, Zdc, Zdd, Zde, Zdf, Zdg, ofVal, ofCell, argT, List.getD_cons_zero, List.getD_cons_succ, List.getElem?_toArray, List.getElem?_cons_zero, List.getElem?_cons_succ, List.nil_append, List.cons_append, List.append_nil, resT, Zdh, Zdi, Nat.mul_one, Zdj, Zdk, Zdl, Zdm, Zdn, Zdo, Zdp, Zdq, Zdr, Zds, Zdt, setT, Zdu, Zdv, Zdw, Zdx, Zdy, List.append_eq, Zdz, Zea, Zeb, Zec, Zed, Zee, Zef, Zeg, Zeh, Nat.add_zero, Zei, Zej, Zek, Zel, Zem, Zen, Int.toNat_natCast, Bool.false_eq_true, Int.reduceEq, Int.reduceLT, Int.reduceLE, Int.reduceNeg, not_false_eq_true, and_self, Zeo, Zep, Int.natCast_one, Int.cast_ofNat_Int, not_true_eq_false, decide_true, decide_false, true_implies, false_implies, Int.toNat_zero, List.length_cons, List.length_nil, Nat.zero_add, mb, Nat.reduceBEq, Bool.false_and, Bool.and_false, Zeq, tys, stb, Zer, Zes, Zet, Zeu, Zev, Zew, Bool.or_false, Bool.false_or, Bool.true_and, Bool.or_true, Bool.true_or, Zex, Zey]
  refine loop_rule (fun m T D σ => D = [] ∧ T 0 = .str s ∧ ∃ i : Nat, T 1 = .int .i64 i ∧ i ≤ s.length ∧ m = s.length - i ∧ runW s [2, 3, 4] (s.length - i) i = endW s [2, 3, 4] i0) ?_ (s.length - i0) _ _ _ ?_
  rotate_left
  · exact ⟨rfl, rfl, i0, rfl, h0, rfl, rfl⟩
  rintro m T D σ ⟨rfl, t0, i, t1, hi, rfl, he⟩
  refine G_start ?_
  generalize endW s [2, 3, 4] i0 = e at *
  by_cases hlt : i < s.length
  · have c1 : (i : Int) < (s.length : Int) := by omega
    have c2 : (0 : Int) ≤ (i : Int) ∧ (i : Int) < (s.length : Int) := by omega
    have e1 : IntKind.i64.wrap ((i : Int) + 1) = ((i + 1 : Nat) : Int) := by rw [wrap_i64 (by omega) (by omega)]; omega
    obtain ⟨q, hq⟩ : ∃ q, s.length - i = q + 1 := ⟨s.length - i - 1, by omega⟩
    have hq2 : q = s.length - (i + 1) := by omega
    have hstep : runW s [2, 3, 4] (s.length - i) i = if clsN (s.getD i 0).toNat ∈ ([2, 3, 4] : List Int) then runW s [2, 3, 4] q (i + 1) else i := by rw [hq]; rfl
    rw [hstep] at he
    have hdc := digit_call (s.getD i 0)
    have hsm := small_call (s.getD i 0)
    have hw := cls_word (s.getD i 0).toNat
    generalize hc : s.getD i 0 = c at *
    by_cases hn : clsN c.toNat ∈ ([2, 3, 4] : List Int)
    · rw [if_pos hn, hq2] at he
      by_cases n1 : 97 ≤ c.toNat ∧ c.toNat ≤ 122
      · rw [decide_eq_true n1] at hsm
        simp -implicitDefEqProofs only [Zaa, Zab, Zac, Zad, Zae, Zaf, Zag, Zah, Zai, Zaj, Zak, Zal, Zam, Zan, Zao, Zap, Zaq, Zar, Zas, Zat, Zau, Zav, Zaw, Zax, Zay, Zaz, Zba, Zbb, Zbc, Zbd, Zbe, Zbf, Zbg, Zbh, Zbi, Zbj, Zbk, Zbl, Zbm, Zbn, Zbo, Zbp, Zbq, Zbr, Zbs, Zbt, Zbu, Zbv, Zbw, Zbx, Zby, Zbz, Zca, Zcb, Zcc, Zcd, Zce, Zcf, Zcg, evalT, Zch, Nat.reduceLT, Nat.reduceEqDiff, if_true, if_false, reduceIte, true_and, Zci, Zcj, map_ite', Zck, bind_ite', Zcl, Zcm, Zcn, Zco, Zcp, Zcq, Zcr, Zcs, Zct, Zcu, Zcv, Zcw, Zcx, Zcy, Zcz, Zda, Zdb, Zdc, Zdd, Zde, Zdf, Zdg, ofVal, ofCell, argT, List.getD_cons_zero, List.getD_cons_succ, List.getElem?_toArray, List.getElem?_cons_zero, List.getElem?_cons_succ, List.nil_append, List.cons_append, List.append_nil, resT, Zdh, Zdi, Nat.mul_one, Zdj, Zdk, Zdl, Zdm, Zdn, Zdo, Zdp, Zdq, Zdr, Zds, Zdt, setT, Zdu, Zdv, Zdw, Zdx, Zdy, List.append_eq, Zdz, Zea, Zeb, Zec, Zed, Zee, Zef, Zeg, Zeh, Nat.add_zero, Zei, Zej, Zek, Zel, Zem, Zen, Int.toNat_natCast, Bool.false_eq_true, Int.reduceEq, Int.reduceLT, Int.reduceLE, Int.reduceNeg, not_false_eq_true, and_self, Zeo, Zep, Int.natCast_one, Int.cast_ofNat_Int, not_true_eq_false, decide_true, decide_false, true_implies, false_implies, Int.toNat_zero, List.length_cons, List.length_nil, Nat.zero_add, mb, Nat.reduceBEq, Bool.false_and, Bool.and_false, Zeq, tys, stb, Zer, Zes, Zet, Zeu, Zev, Zew, Bool.or_false, Bool.false_or, Bool.true_and, Bool.or_true, Bool.true_or, Zex, Zey, t0, t1, c1, c2, e1, len_str, opT_index, indexO_str u9, Int.toNat_natCast, hc, hdc, hsm]
        exact ⟨s.length - (i + 1), by omega, i + 1, rfl, by omega, rfl, he⟩
      · rw [decide_eq_false n1] at hsm
        by_cases n2 : 48 ≤ c.toNat ∧ c.toNat ≤ 57
        · rw [decide_eq_true n2] at hdc
          simp -implicitDefEqProofs only [Zaa, Zab, Zac, Zad, Zae, Zaf, Zag, Zah, Zai, Zaj, Zak, Zal, Zam, Zan, Zao, Zap, Zaq, Zar, Zas, Zat, Zau, Zav, Zaw, Zax, Zay, Zaz, Zba, Zbb, Zbc, Zbd, Zbe, Zbf, Zbg, Zbh, Zbi, Zbj, Zbk, Zbl, Zbm, Zbn, Zbo, Zbp, Zbq, Zbr, Zbs, Zbt, Zbu, Zbv, Zbw, Zbx, Zby, Zbz, Zca, Zcb, Zcc, Zcd, Zce, Zcf, Zcg, evalT, Zch, Nat.reduceLT, Nat.reduceEqDiff, if_true, if_false, reduceIte, true_and, Zci, Zcj, map_ite', Zck, bind_ite', Zcl, Zcm, Zcn, Zco, Zcp, Zcq, Zcr, Zcs, Zct, Zcu, Zcv, Zcw, Zcx, Zcy, Zcz, Zda, Zdb, Zdc, Zdd, Zde, Zdf, Zdg, ofVal, ofCell, argT, List.getD_cons_zero, List.getD_cons_succ, List.getElem?_toArray, List.getElem?_cons_zero, List.getElem?_cons_succ, List.nil_append, List.cons_append, List.append_nil, resT, Zdh, Zdi, Nat.mul_one, Zdj, Zdk, Zdl, Zdm, Zdn, Zdo, Zdp, Zdq, Zdr, Zds, Zdt, setT, Zdu, Zdv, Zdw, Zdx, Zdy, List.append_eq, Zdz, Zea, Zeb, Zec, Zed, Zee, Zef, Zeg, Zeh, Nat.add_zero, Zei, Zej, Zek, Zel, Zem, Zen, Int.toNat_natCast, Bool.false_eq_true, Int.reduceEq, Int.reduceLT, Int.reduceLE, Int.reduceNeg, not_false_eq_true, and_self, Zeo, Zep, Int.natCast_one, Int.cast_ofNat_Int, not_true_eq_false, decide_true, decide_false, true_implies, false_implies, Int.toNat_zero, List.length_cons, List.length_nil, Nat.zero_add, mb, Nat.reduceBEq, Bool.false_and, Bool.and_false, Zeq, tys, stb, Zer, Zes, Zet, Zeu, Zev, Zew, Bool.or_false, Bool.false_or, Bool.true_and, Bool.or_true, Bool.true_or, Zex, Zey, t0, t1, c1, c2, e1, len_str, opT_index, indexO_str u9, Int.toNat_natCast, hc, hdc, hsm]
          exact ⟨s.length - (i + 1), by omega, i + 1, rfl, by omega, rfl, he⟩
        · rw [decide_eq_false n2] at hdc
          have n3 : ((c.toNat : Int) = 95) = True := eq_true (by have := hw.1 hn; omega)
          simp -implicitDefEqProofs only [Zaa, Zab, Zac, Zad, Zae, Zaf, Zag, Zah, Zai, Zaj, Zak, Zal, Zam, Zan, Zao, Zap, Zaq, Zar, Zas, Zat, Zau, Zav, Zaw, Zax, Zay, Zaz, Zba, Zbb, Zbc, Zbd, Zbe, Zbf, Zbg, Zbh, Zbi, Zbj, Zbk, Zbl, Zbm, Zbn, Zbo, Zbp, Zbq, Zbr, Zbs, Zbt, Zbu, Zbv, Zbw, Zbx, Zby, Zbz, Zca, Zcb, Zcc, Zcd, Zce, Zcf, Zcg, evalT, Zch, Nat.reduceLT, Nat.reduceEqDiff, if_true, if_false, reduceIte, true_and, Zci, Zcj, map_ite', Zck, bind_ite', Zcl, Zcm, Zcn, Zco, Zcp, Zcq, Zcr, Zcs, Zct, Zcu, Zcv, Zcw, Zcx, Zcy, Zcz, Zda, Zdb, Zdc, Zdd, Zde, Zdf, Zdg, ofVal, ofCell, argT, List.getD_cons_zero, List.getD_cons_succ, List.getElem?_toArray, List.getElem?_cons_zero, List.getElem?_cons_succ, List.nil_append, List.cons_append, List.append_nil, resT, Zdh, Zdi, Nat.mul_one, Zdj, Zdk, Zdl, Zdm, Zdn, Zdo, Zdp, Zdq, Zdr, Zds, Zdt, setT, Zdu, Zdv, Zdw, Zdx, Zdy, List.append_eq, Zdz, Zea, Zeb, Zec, Zed, Zee, Zef, Zeg, Zeh, Nat.add_zero, Zei, Zej, Zek, Zel, Zem, Zen, Int.toNat_natCast, Bool.false_eq_true, Int.reduceEq, Int.reduceLT, Int.reduceLE, Int.reduceNeg, not_false_eq_true, and_self, Zeo, Zep, Int.natCast_one, Int.cast_ofNat_Int, not_true_eq_false, decide_true, decide_false, true_implies, false_implies, Int.toNat_zero, List.length_cons, List.length_nil, Nat.zero_add, mb, Nat.reduceBEq, Bool.false_and, Bool.and_false, Zeq, tys, stb, Zer, Zes, Zet, Zeu, Zev, Zew, Bool.or_false, Bool.false_or, Bool.true_and, Bool.or_true, Bool.true_or, Zex, Zey, t0, t1, c1, c2, e1, len_str, opT_index, indexO_str u9, Int.toNat_natCast, hc, hdc, hsm, n3]
          exact ⟨s.length - (i + 1), by omega, i + 1, rfl, by omega, rfl, he⟩
    · rw [if_neg hn] at he
      subst he
      have hk : ¬ ((97 ≤ c.toNat ∧ c.toNat ≤ 122) ∨ (48 ≤ c.toNat ∧ c.toNat ≤ 57) ∨ c.toNat = 95) := fun h => hn (hw.2 h)
      have n1 : ¬ (97 ≤ c.toNat ∧ c.toNat ≤ 122) := fun h => hk (.inl h)
      have n2 : ¬ (48 ≤ c.toNat ∧ c.toNat ≤ 57) := fun h => hk (.inr (.inl h))
      have n3 : ((c.toNat : Int) = 95) = False := eq_false (by omega)
      rw [decide_eq_false n1] at hsm
      rw [decide_eq_false n2] at hdc
      simp -implicitDefEqProofs only [Zaa, Zab, Zac, Zad, Zae, Zaf, Zag, Zah, Zai, Zaj, Zak, Zal, Zam, Zan, Zao, Zap, Zaq, Zar, Zas, Zat, Zau, Zav, Zaw, Zax, Zay, Zaz, Zba, Zbb, Zbc, Zbd, Zbe, Zbf, Zbg, Zbh, Zbi, Zbj, Zbk, Zbl, Zbm, Zbn, Zbo, Zbp, Zbq, Zbr, Zbs, Zbt, Zbu, Zbv, Zbw, Zbx, Zby, Zbz, Zca, Zcb, Zcc, Zcd, Zce, Zcf, Zcg, evalT, Zch, Nat.reduceLT, Nat.reduceEqDiff, if_true, if_false, reduceIte, true_and, Zci, Zcj, map_ite', Zck, bind_ite', Zcl, Zcm, Zcn, Zco, Zcp, Zcq, Zcr, Zcs, Zct, Zcu, Zcv, Zcw, Zcx, Zcy, Zcz, Zda, Zdb, Zdc, Zdd, Zde, Zdf, Zdg, ofVal, ofCell, argT, List.getD_cons_zero, List.getD_cons_succ, List.getElem?_toArray, List.getElem?_cons_zero, List.getElem?_cons_succ, List.nil_append, List.cons_append, List.append_nil, resT, Zdh, Zdi, Nat.mul_one, Zdj, Zdk, Zdl, Zdm, Zdn, Zdo, Zdp, Zdq, Zdr, Zds, Zdt, setT, Zdu, Zdv, Zdw, Zdx, Zdy, List.append_eq, Zdz, Zea, Zeb, Zec, Zed, Zee, Zef, Zeg, Zeh, Nat.add_zero, Zei, Zej, Zek, Zel, Zem, Zen, Int.toNat_natCast, Bool.false_eq_true, Int.reduceEq, Int.reduceLT, Int.reduceLE, Int.reduceNeg, not_false_eq_true, and_self, Zeo, Zep, Int.natCast_one, Int.cast_ofNat_Int, not_true_eq_false, decide_true, decide_false, true_implies, false_implies, Int.toNat_zero, List.length_cons, List.length_nil, Nat.zero_add, mb, Nat.reduceBEq, Bool.false_and, Bool.and_false, Zeq, tys, stb, Zer, Zes, Zet, Zeu, Zev, Zew, Bool.or_false, Bool.false_or, Bool.true_and, Bool.or_true, Bool.true_or, Zex, Zey, t0, t1, c1, c2, e1, len_str, opT_index, indexO_str u9, Int.toNat_natCast, hc, hdc, hsm, n3]
      simp [oneOr, sealDepth, sealV_int]
  · have hi2 : i = s.length := by omega
    subst hi2
    have c1 : ¬ (s.length : Int) < (s.length : Int) := by omega
    rw [Nat.sub_self] at he
    simp only [runW] at he
    subst he
    simp -implicitDefEqProofs only [Zaa, Zab, Zac, Zad, Zae, Zaf, Zag, Zah, Zai, Zaj, Zak, Zal, Zam, Zan, Zao, Zap, Zaq, Zar, Zas, Zat, Zau, Zav, Zaw, Zax, Zay, Zaz, Zba, Zbb, Zbc, Zbd, Zbe, Zbf, Zbg, Zbh, Zbi, Zbj, Zbk, Zbl, Zbm, Zbn, Zbo, Zbp, Zbq, Zbr, Zbs, Zbt, Zbu, Zbv, Zbw, Zbx, Zby, Zbz, Zca, Zcb, Zcc, Zcd, Zce, Zcf, Zcg, evalT, Zch, Nat.reduceLT, Nat.reduceEqDiff, if_true, if_false, reduceIte, true_and, Zci, Zcj, map_ite', Zck, bind_ite', Zcl, Zcm, Zcn, Zco, Zcp, Zcq, Zcr, Zcs, Zct, Zcu, Zcv, Zcw, Zcx, Zcy, Zcz, Zda, Zdb, Zdc, Zdd, Zde, Zdf, Zdg, ofVal, ofCell, argT, List.getD_cons_zero, List.getD_cons_succ, List.getElem?_toArray, List.getElem?_cons_zero, List.getElem?_cons_succ, List.nil_append, List.cons_append, List.append_nil, resT, Zdh, Zdi, Nat.mul_one, Zdj, Zdk, Zdl, Zdm, Zdn, Zdo, Zdp, Zdq, Zdr, Zds, Zdt, setT, Zdu, Zdv, Zdw, Zdx, Zdy, List.append_eq, Zdz, Zea, Zeb, Zec, Zed, Zee, Zef, Zeg, Zeh, Nat.add_zero, Zei, Zej, Zek, Zel, Zem, Zen, Int.toNat_natCast, Bool.false_eq_true, Int.reduceEq, Int.reduceLT, Int.reduceLE, Int.reduceNeg, not_false_eq_true, and_self, Zeo, Zep, Int.natCast_one, Int.cast_ofNat_Int, not_true_eq_false, decide_true, decide_false, true_implies, false_implies, Int.toNat_zero, List.length_cons, List.length_nil, Nat.zero_add, mb, Nat.reduceBEq, Bool.false_and, Bool.and_false, Zeq, tys, stb, Zer, Zes, Zet, Zeu, Zev, Zew, Bool.or_false, Bool.false_or, Bool.true_and, Bool.or_true, Bool.true_or, Zex, Zey, t0, t1, c1, len_str]
    simp [oneOr, sealDepth, sealV_int]

end Go.Proofs.YtbikmhpobflfeaaDoor
namespace Go.Proofs.YtbikmhpobflfeaaDoor
open Go.Ab
set_option maxRecDepth 100000
set_option linter.unusedSimpArgs false
set_option linter.unusedVariables false
theorem at102 : env.P.funcs[102]? = some Tryd.f102 := by kernel_rfl
theorem at105 : env.P.funcs[105]? = some Tryd.f105 := by kernel_rfl
theorem refres_call0 (σ : S) : callFn env (ev env) 19 [] σ = some (.row resV' 35 .unk, σ) := row_of_run rfl rfl rfl (k := 200) (by rw [← runQ_eq]; kernel_rfl) σ
theorem refres_call2 (σ : S) : callFn env (ev env) 19 [] σ = some (.row (N.wordsW.map V.str) N.wordsW.length .unk, σ) := by rw [refres_call0, wordsW_row, N.words_len]
theorem reserved_call (s : List UInt8) (σ : S) : callFn env (ev env) 102 [.str s] σ = some (.bool (decide (s ∈ N.wordsW)), σ) := by
  refine callFn_pure rfl rfl rfl at102 rfl (by simp [Tryd.f102]) (by simp [Tryd.f102]) (G_start ?_) σ
  simp -implicitDefEqProofs only [Tryd.f102, Zaa, Zab, Zac, Zad, Zae, Zaf, Zag, Zah, Zai, Zaj, Zak, Zal, Zam, Zan, Zao, Zap, Zaq, Zar, Zas, Zat, Zau, Zav, Zaw, Zax, Zay, Zaz, Zba, Zbb, Zbc, Zbd, Zbe, Zbf, Zbg, Zbh, Zbi, Zbj, Zbk, Zbl, Zbm, Zbn, Zbo, Zbp, Zbq, Zbr, Zbs, Zbt, Zbu, Zbv, Zbw, Zbx, Zby, Zbz, Zca, Zcb, Zcc, Zcd, Zce, Zcf, Zcg, evalT, Zch, Nat.reduceLT, Nat.reduceEqDiff, if_true, if_false, reduceIte, true_and, Zci, Zcj, map_ite', Zck, bind_ite', Zcl, Zcm, Zcn, Zco, Zcp, Zcq, Zcr, Zcs, Zct, Zcu, Zcv, Zcw, Zcx, Zcy, Zcz, Zda, Zdb, Zdc, Zdd, Zde, Zdf, Zdg, ofVal, ofCell, argT, List.getD_cons_zero, List.getD_cons_succ, List.getElem?_toArray, List.getElem?_cons_zero, List.getElem?_cons_succ, List.nil_append, List.cons_append, List.append_nil, resT, Zdh, Zdi, Nat.mul_one, Zdj, Zdk, Zdl, Zdm, Zdn, Zdo, Zdp, Zdq, Zdr, Zds, Zdt, setT, Zdu, Zdv, Zdw, Zdx, Zdy, List.append_eq, Zdz, Zea, Zeb, Zec, Zed, Zee, Zef, Zeg, Zeh, Nat.add_zero, Zei, Zej, Zek, Zel, Zem, Zen, Int.toNat_natCast, Bool.false_eq_true, Int.reduceEq, Int.reduceLT, Int.reduceLE, Int.reduceNeg, not_false_eq_true, and_self, Zeo, Zep, Int.natCast_one, Int.cast_ofNat_Int, not_true_eq_false, decide_true, decide_false, true_implies, false_implies, Int.toNat_zero, List.length_cons, List.length_nil, Nat.zero_add, mb, Nat.reduceBEq, Bool.false_and, Bool.and_false, Zeq, tys, stb, Zer, Zes, Zet, Zeu, Zev, Zew, Bool.or_false, Bool.false_or, Bool.true_and, Bool.or_true, Bool.true_or, Zex, Zey, empty_mk, refres_call2]
  have h35 := N.words_len
  generalize N.wordsW = ws at *
  refine loop_rule (fun m T D σ => D = [] ∧ T 0 = .str s ∧ T 3 = .row (ws.map V.str) ws.length .unk ∧ ∃ j : Nat, T 4 = .int .i64 j ∧ j ≤ ws.length ∧ m = ws.length - j ∧ (s ∈ ws ↔ s ∈ ws.drop j)) ?_ (ws.length - 0) _ _ _ ?_
  rotate_left
  · exact ⟨rfl, rfl, rfl, 0, rfl, Nat.zero_le _, rfl, by rw [List.drop_zero]⟩
  rintro m T D σ ⟨rfl, t0, t3, j, t4, hj, rfl, hm⟩
  refine G_start ?_
  by_cases hlt : j < ws.length
  · have c1 : (j : Int) < (ws.length : Int) := by omega
    have c3 : (0 : Int) ≤ (j : Int) ∧ (j : Int) < (ws.length : Int) := by omega
    have e1 : IntKind.i64.wrap ((j : Int) + 1) = ((j + 1 : Nat) : Int) := by rw [wrap_i64 (by omega) (by omega)]; omega
    have hd := drop_mem hlt s
    by_cases hn : ws.getD j [] = s
    · have hin : s ∈ ws := hm.2 (hd.2 (.inl hn))
      simp -implicitDefEqProofs only [Zaa, Zab, Zac, Zad, Zae, Zaf, Zag, Zah, Zai, Zaj, Zak, Zal, Zam, Zan, Zao, Zap, Zaq, Zar, Zas, Zat, Zau, Zav, Zaw, Zax, Zay, Zaz, Zba, Zbb, Zbc, Zbd, Zbe, Zbf, Zbg, Zbh, Zbi, Zbj, Zbk, Zbl, Zbm, Zbn, Zbo, Zbp, Zbq, Zbr, Zbs, Zbt, Zbu, Zbv, Zbw, Zbx, Zby, Zbz, Zca, Zcb, Zcc, Zcd, Zce, Zcf, Zcg, evalT, Zch, Nat.reduceLT, Nat.reduceEqDiff, if_true, if_false, reduceIte, true_and, Zci, Zcj, map_ite', Zck, bind_ite', Zcl, Zcm, Zcn, Zco, Zcp, Zcq, Zcr, Zcs, Zct, Zcu, Zcv, Zcw, Zcx, Zcy, Zcz, Zda, Zdb, Zdc, Zdd, Zde, Zdf, Zdg, ofVal, ofCell, argT, List.getD_cons_zero, List.getD_cons_succ, List.getElem?_toArray, List.getElem?_cons_zero, List.getElem?_cons_succ, List.nil_append, List.cons_append, List.append_nil, resT, Zdh, Zdi, Nat.mul_one, Zdj, Zdk, Zdl, Zdm, Zdn, Zdo, Zdp, Zdq, Zdr, Zds, Zdt, setT, Zdu, Zdv, Zdw, Zdx, Zdy, List.append_eq, Zdz, Zea, Zeb, Zec, Zed, Zee, Zef, Zeg, Zeh, Nat.add_zero, Zei, Zej, Zek, Zel, Zem, Zen, Int.toNat_natCast, Bool.false_eq_true, Int.reduceEq, Int.reduceLT, Int.reduceLE, Int.reduceNeg, not_false_eq_true, and_self, Zeo, Zep, Int.natCast_one, Int.cast_ofNat_Int, not_true_eq_false, decide_true, decide_false, true_implies, false_implies, Int.toNat_zero, List.length_cons, List.length_nil, Nat.zero_add, mb, Nat.reduceBEq, Bool.false_and, Bool.and_false, Zeq, tys, stb, Zer, Zes, Zet, Zeu, Zev, Zew, Bool.or_false, Bool.false_or, Bool.true_and, Bool.or_true, Bool.true_or, Zex, Zey, t0, t3, t4, c1, c3, hlt, e1, strs_get, vBin_seql, hn]
      simp [oneOr, sealDepth, sealV_bool, hin]
    · have hm2 : s ∈ ws ↔ s ∈ ws.drop (j + 1) := hm.trans (hd.trans ⟨fun h => h.resolve_left hn, .inr⟩)
      simp -implicitDefEqProofs only [Zaa, Zab, Zac, Zad, Zae, Zaf, Zag, Zah, Zai, Zaj, Zak, Zal, Zam, Zan, Zao, Zap, Zaq, Zar, Zas, Zat, Zau, Zav, Zaw, Zax, Zay, Zaz, Zba, Zbb, Zbc, Zbd, Zbe, Zbf, Zbg, Zbh, Zbi, Zbj, Zbk, Zbl, Zbm, Zbn, Zbo, Zbp, Zbq, Zbr, Zbs, Zbt, Zbu, Zbv, Zbw, Zbx, Zby, Zbz, Zca, Zcb, Zcc, Zcd, Zce, Zcf, Zcg, evalT, Zch, Nat.reduceLT, Nat.reduceEqDiff, if_true, if_false, reduceIte, true_and, Zci, Zcj, map_ite', Zck, bind_ite', Zcl, Zcm, Zcn, Zco, Zcp, Zcq, Zcr, Zcs, Zct, Zcu, Zcv, Zcw, Zcx, Zcy, Zcz, Zda, Zdb, Zdc, Zdd, Zde, Zdf, Zdg, ofVal, ofCell, argT, List.getD_cons_zero, List.getD_cons_succ, List.getElem?_toArray, List.getElem?_cons_zero, List.getElem?_cons_succ, List.nil_append, List.cons_append, List.append_nil, resT, Zdh, Zdi, Nat.mul_one, Zdj, Zdk, Zdl, Zdm, Zdn, Zdo, Zdp, Zdq, Zdr, Zds, Zdt, setT, Zdu, Zdv, Zdw, Zdx, Zdy, List.append_eq, Zdz, Zea, Zeb, Zec, Zed, Zee, Zef, Zeg, Zeh, Nat.add_zero, Zei, Zej, Zek, Zel, Zem, Zen, Int.toNat_natCast, Bool.false_eq_true, Int.reduceEq, Int.reduceLT, Int.reduceLE, Int.reduceNeg, not_false_eq_true, and_self, Zeo, Zep, Int.natCast_one, Int.cast_ofNat_Int, not_true_eq_false, decide_true, decide_false, true_implies, false_implies, Int.toNat_zero, List.length_cons, List.length_nil, Nat.zero_add, mb, Nat.reduceBEq, Bool.false_and, Bool.and_false, Zeq, tys, stb, Zer, Zes, Zet, Zeu, Zev, Zew, Bool.or_false, Bool.false_or, Bool.true_and, Bool.or_true, Bool.true_or, Zex, Zey, t0, t3, t4, c1, c3, hlt, e1, strs_get, vBin_seql, hn]
      exact ⟨ws.length - (j + 1), by omega, j + 1, rfl, by omega, rfl, hm2⟩
  · have hj2 : j = ws.length := by omega
    subst hj2
    have hni : s ∉ ws := by
      rw [hm, List.drop_of_length_le (Nat.le_refl _)]; exact List.not_mem_nil
    have c1 : ¬ (ws.length : Int) < (ws.length : Int) := by omega
    simp -implicitDefEqProofs only [Zaa, Zab, Zac, Zad, Zae, Zaf, Zag, Zah, Zai, Zaj, Zak, Zal, Zam, Zan, Zao, Zap, Zaq, Zar, Zas, Zat, Zau, Zav, Zaw, Zax, Zay, Zaz, Zba, Zbb, Zbc, Zbd, Zbe, Zbf, Zbg, Zbh, Zbi, Zbj, Zbk, Zbl, Zbm, Zbn, Zbo, Zbp, Zbq, Zbr, Zbs, Zbt, Zbu, Zbv, Zbw, Zbx, Zby, Zbz, Zca, Zcb, Zcc, Zcd, Zce, Zcf, Zcg, evalT, Zch, Nat.reduceLT, Nat.reduceEqDiff, if_true, if_false, reduceIte, true_and, Zci, Zcj, map_ite', Zck, bind_ite', Zcl, Zcm, Zcn, Zco, Zcp, Zcq, Zcr, Zcs, Zct, Zcu, Zcv, Zcw, Zcx, Zcy, Zcz, Zda, Zdb, Zdc, Zdd, Zde, Zdf, Zdg, ofVal, ofCell, argT, List.getD_cons_zero, List.getD_cons_succ, List.getElem?_toArray, List.getElem?_cons_zero, List.getElem?_cons_succ, List.nil_append, List.cons_append, List.append_nil, resT, Zdh, Zdi, Nat.mul_one, Zdj, Zdk, Zdl, Zdm, Zdn, Zdo, Zdp, Zdq, Zdr, Zds, Zdt, setT, Zdu, Zdv, Zdw, Zdx, Zdy, List.append_eq, Zdz, Zea, Zeb, Zec, Zed, Zee, Zef, Zeg, Zeh, Nat.add_zero, Zei, Zej, Zek, Zel, Zem, Zen, Int.toNat_natCast, Bool.false_eq_true, Int.reduceEq, Int.reduceLT, Int.reduceLE, Int.reduceNeg, not_false_eq_true, and_self, Zeo, Zep, Int.natCast_one, Int.cast_ofNat_Int, not_true_eq_false, decide_true, decide_false, true_implies, false_implies, Int.toNat_zero, List.length_cons, List.length_nil, Nat.zero_add, mb, Nat.reduceBEq, Bool.false_and, Bool.and_false, Zeq, tys, stb, Zer, Zes, Zet, Zeu, Zev, Zew, Bool.or_false, Bool.false_or, Bool.true_and, Bool.or_true, Bool.true_or, Zex, Zey, t0, t3, t4, c1]
    simp [oneOr, sealDepth, sealV_bool, hni]
/-- the reference's value of some digits -/
def valW (s : List UInt8) : Nat → Nat → Nat → Nat
  | 0, _, v => v
  | m + 1, i, v => if v ≤ 1000000000 then valW s m (i + 1) (v * 10 + ((s.getD i 0).toNat - 48)) else v
theorem valW_spec (s : List UInt8) : ∀ m i, i + m = s.length → (valW s m i (decV 0 (s.take i)) = decV 0 s ∨ (1000000000 < valW s m i (decV 0 (s.take i)) ∧ 1000000000 < decV 0 s))
  | 0, i, h => .inl (by simp only [valW]; rw [List.take_of_length_le (by omega)])
  | m + 1, i, h => by
    simp only [valW]
    by_cases hv : decV 0 (s.take i) ≤ 1000000000
    · rw [if_pos hv, ← decV_step (by omega)]
      exact valW_spec s m (i + 1) (by omega)
    · rw [if_neg hv]
      have := decV_take s i
      exact .inr (by omega)
def valueN (s : List UInt8) : Nat := valW s s.length 0 0
theorem value_spec (s : List UInt8) : valueN s = decV 0 s ∨ (1000000000 < valueN s ∧ 1000000000 < decV 0 s) := by
  have := valW_spec s s.length 0 (by omega)
  rw [List.take_zero] at this
  exact this
theorem value_call (s : List UInt8) (hd : ∀ i, i < s.length → IsDg (s.getD i 0)) (hl : s.length ≤ 2 ^ 30) (σ : S) : callFn env (ev env) 105 [.str s] σ = some (.int .i64 (valueN s : Nat), σ) := by
  refine callFn_pure rfl rfl rfl at105 rfl (by simp [Tryd.f105]) (by simp [Tryd.f105]) (G_start ?_) σ
  simp -implicitDefEqProofs only [Tryd.f105, Zaa, Zab, Zac, Zad, Zae, Zaf, Zag, Zah, Zai, Zaj, Zak, Zal, Zam, Zan, Zao, Zap, Zaq, Zar, Zas, Zat, Zau, Zav, Zaw, Zax, Zay, Zaz, Zba, Zbb, Zbc, Zbd, Zbe, Zbf, Zbg, Zbh, Zbi, Zbj, Zbk, Zbl, Zbm, Zbn, Zbo, Zbp, Zbq, Zbr, Zbs, Zbt, Zbu, Zbv, Zbw, Zbx, Zby, Zbz, Zca, Zcb, Zcc, Zcd, Zce, Zcf, Zcg, evalT, Zch, Nat.reduceLT, Nat.reduceEqDiff, if_true, if_false, reduceIte, true_and, Zci, Zcj, map_ite', Zck, bind_ite', Zcl, Zcm, Zcn, Zco, Zcp, Zcq, Zcr, Zcs, Zct, Zcu, Zcv, Zcw, Zcx, Zcy, Zcz, Zda, Zdb, Zdc, Zdd, Zde, Zdf, Zdg, ofVal, ofCell, argT, List.getD_cons_zero, List.getD_cons_succ, List.getElem?_toArray, List.getElem?_cons_zero, List.getElem?_cons_succ, List.nil_append, List.cons_append, List.append_nil, resT, Zdh, Zdi, Nat.mul_one, Zdj, Zdk, Zdl, Zdm, Zdn, Zdo, Zdp, Zdq, Zdr, Zds, Zdt, setT, Zdu, Zdv, Zdw, Zdx, Zdy, List.append_eq, Zdz, Zea, Zeb, Zec, Zed, Zee, Zef, Zeg, Zeh, Nat.add_zero, Zei, Zej, Zek, Zel, Zem, Zen, Int.toNat_natCast, Bool.false_eq_true, Int.reduceEq, Int.reduceLT, Int.reduceLE, Int.reduceNeg, not_false_eq_true, and_self, Zeo, Zep, Int.natCast_one, Int.cast_ofNat_Int, not_true_eq_false, decide_true, decide_false, true_implies, false_implies, Int.toNat_zero, List.length_cons, List.length_nil, Nat.zero_add, mb, Nat.reduceBEq, Bool.false_and, Bool.and_false, Zeq, tys, stb, Zer, Zes, Zet, Zeu, Zev, Zew, Bool.or_false, Bool.false_or, Bool.true_and, Bool.or_true, Bool.true_or, Zex, Zey]
  refine loop_rule (fun m T D σ => D = [] ∧ T 0 = .str s ∧ ∃ (i v : Nat), T 4 = .int .i64 i ∧ T 3 = .int .i64 v ∧ i ≤ s.length ∧ m = s.length - i ∧ v ≤ 20000000000 ∧ valW s (s.length - i) i v = valueN s) ?_ (s.length - 0) _ _ _ ?_
  rotate_left
  · exact ⟨rfl, rfl, 0, 0, rfl, rfl, Nat.zero_le _, rfl, by omega, rfl⟩
  rintro m T D σ ⟨rfl, t0, i, v, t4, t3, hi, rfl, hv, he⟩
  refine G_start ?_
  generalize valueN s = r at *
  by_cases hlt : i < s.length
  · have c1 : (i : Int) < (s.length : Int) := by omega
    have c2 : (0 : Int) ≤ (i : Int) ∧ (i : Int) < (s.length : Int) := by omega
    have e1 : IntKind.i64.wrap ((i : Int) + 1) = ((i + 1 : Nat) : Int) := by rw [wrap_i64 (by omega) (by omega)]; omega
    obtain ⟨q, hq⟩ : ∃ q, s.length - i = q + 1 := ⟨s.length - i - 1, by omega⟩
    have hq2 : q = s.length - (i + 1) := by omega
    have hstep : valW s (s.length - i) i v = if v ≤ 1000000000 then valW s q (i + 1) (v * 10 + ((s.getD i 0).toNat - 48)) else v := by rw [hq]; rfl
    rw [hstep] at he
    obtain ⟨d1, d2⟩ := hd i hlt
    generalize hc : s.getD i 0 = c at *
    by_cases hn : v ≤ 1000000000
    · rw [if_pos hn, hq2] at he
      have g1 : (v : Int) ≤ 1000000000 := by omega
      have k4 : IntKind.u8.wrap ((c.toNat : Int) - 48) = ((c.toNat - 48 : Nat) : Int) := by rw [wrap_u8 (by omega) (by omega)]; omega
      have k6 : IntKind.i64.wrap (10 * (v : Int)) = ((v * 10 : Nat) : Int) := by rw [wrap_i64 (by omega) (by omega)]; omega
      have k7 : IntKind.i64.wrap ((c.toNat - 48 : Nat) : Int) = ((c.toNat - 48 : Nat) : Int) := wrap_i64 (by omega) (by omega)
      have k8 : IntKind.i64.wrap (((v * 10 : Nat) : Int) + ((c.toNat - 48 : Nat) : Int)) = ((v * 10 + (c.toNat - 48) : Nat) : Int) := by rw [wrap_i64 (by omega) (by omega)]; omega
      simp -implicitDefEqProofs only [Zaa, Zab, Zac, Zad, Zae, Zaf, Zag, Zah, Zai, Zaj, Zak, Zal, Zam, Zan, Zao, Zap, Zaq, Zar, Zas, Zat, Zau, Zav, Zaw, Zax, Zay, Zaz, Zba, Zbb, Zbc, Zbd, Zbe, Zbf, Zbg, Zbh, Zbi, Zbj, Zbk, Zbl, Zbm, Zbn, Zbo, Zbp, Zbq, Zbr, Zbs, Zbt, Zbu, Zbv, Zbw, Zbx, Zby, Zbz, Zca, Zcb, Zcc, Zcd, Zce, Zcf, Zcg, evalT, Zch, Nat.reduceLT, Nat.reduceEqDiff, if_true, if_false, reduceIte, true_and, Zci, Zcj, map_ite', Zck, bind_ite', Zcl, Zcm, Zcn, Zco, Zcp, Zcq, Zcr, Zcs, Zct, Zcu, Zcv, Zcw, Zcx, Zcy, Zcz, Zda, Zdb, Zdc, Zdd, Zde, Zdf, Zdg, ofVal, ofCell, argT, List.getD_cons_zero, List.getD_cons_succ, List.getElem?_toArray, List.getElem?_cons_zero, List.getElem?_cons_succ, List.nil_append, List.cons_append, List.append_nil, resT, Zdh, Zdi, Nat.mul_one, Zdj, Zdk, Zdl, Zdm, Zdn, Zdo, Zdp, Zdq, Zdr, Zds, Zdt, setT, Zdu, Zdv, Zdw, Zdx, Zdy, List.append_eq, Zdz, Zea, Zeb, Zec, Zed, Zee, Zef, Zeg, Zeh, Nat.add_zero, Zei, Zej, Zek, Zel, Zem, Zen, Int.toNat_natCast, Bool.false_eq_true, Int.reduceEq, Int.reduceLT, Int.reduceLE, Int.reduceNeg, not_false_eq_true, and_self, Zeo, Zep, Int.natCast_one, Int.cast_ofNat_Int, not_true_eq_false, decide_true, decide_false, true_implies, false_implies, Int.toNat_zero, List.length_cons, List.length_nil, Nat.zero_add, mb, Nat.reduceBEq, Bool.false_and, Bool.and_false, Zeq, tys, stb, Zer, Zes, Zet, Zeu, Zev, Zew, Bool.or_false, Bool.false_or, Bool.true_and, Bool.or_true, Bool.true_or, Zex, Zey, t0, t3, t4, c1, c2, e1, g1, len_str, opT_index, indexO_str u9, Int.toNat_natCast, hc, k4, k6, k7, k8, Zcf]
      exact ⟨s.length - (i + 1), by omega, i + 1, v * 10 + (c.toNat - 48), rfl, rfl, by omega, rfl, by omega, he⟩
    · rw [if_neg hn] at he
      subst he
      have g1 : ¬ (v : Int) ≤ 1000000000 := by omega
      simp -implicitDefEqProofs only [Zaa, Zab, Zac, Zad, Zae, Zaf, Zag, Zah, Zai, Zaj, Zak, Zal, Zam, Zan, Zao, Zap, Zaq, Zar, Zas, Zat, Zau, Zav, Zaw, Zax, Zay, Zaz, Zba, Zbb, Zbc, Zbd, Zbe, Zbf, Zbg, Zbh, Zbi, Zbj, Zbk, Zbl, Zbm, Zbn, Zbo, Zbp, Zbq, Zbr, Zbs, Zbt, Zbu, Zbv, Zbw, Zbx, Zby, Zbz, Zca, Zcb, Zcc, Zcd, Zce, Zcf, Zcg, evalT, Zch, Nat.reduceLT, Nat.reduceEqDiff, if_true, if_false, reduceIte, true_and, Zci, Zcj, map_ite', Zck, bind_ite', Zcl, Zcm, Zcn, Zco, Zcp, Zcq, Zcr, Zcs, Zct, Zcu, Zcv, Zcw, Zcx, Zcy, Zcz, Zda, Zdb, Zdc, Zdd, Zde, Zdf, Zdg, ofVal, ofCell, argT, List.getD_cons_zero, List.getD_cons_succ, List.getElem?_toArray, List.getElem?_cons_zero, List.getElem?_cons_succ, List.nil_append, List.cons_append, List.append_nil, resT, Zdh, Zdi, Nat.mul_one, Zdj, Zdk, Zdl, Zdm, Zdn, Zdo, Zdp, Zdq, Zdr, Zds, Zdt, setT, Zdu, Zdv, Zdw, Zdx, Zdy, List.append_eq, Zdz, Zea, Zeb, Zec, Zed, Zee, Zef, Zeg, Zeh, Nat.add_zero, Zei, Zej, Zek, Zel, Zem, Zen, Int.toNat_natCast, Bool.false_eq_true, Int.reduceEq, Int.reduceLT, Int.reduceLE, Int.reduceNeg, not_false_eq_true, and_self, Zeo, Zep, Int.natCast_one, Int.cast_ofNat_Int, not_true_eq_false, decide_true, decide_false, true_implies, false_implies, Int.toNat_zero, List.length_cons, List.length_nil, Nat.zero_add, mb, Nat.reduceBEq, Bool.false_and, Bool.and_false, Zeq, tys, stb, Zer, Zes, Zet, Zeu, Zev, Zew, Bool.or_false, Bool.false_or, Bool.true_and, Bool.or_true, Bool.true_or, Zex, Zey, t0, t3, t4, c1, c2, e1, g1, len_str]
      simp [oneOr, sealDepth, sealV_int]
  · have hi2 : i = s.length := by omega
    subst hi2
    have c1 : ¬ (s.length : Int) < (s.length : Int) := by omega
    rw [Nat.sub_self] at he
    simp only [valW] at he
    subst he
    simp -implicitDefEqProofs only [Zaa, Zab, Zac, Zad, Zae, Zaf, Zag, Zah, Zai, Zaj, Zak, Zal, Zam, Zan, Zao, Zap, Zaq, Zar, Zas, Zat, Zau, Zav, Zaw, Zax, Zay, Zaz, Zba, Zbb, Zbc, Zbd, Zbe, Zbf, Zbg, Zbh, Zbi, Zbj, Zbk, Zbl, Zbm, Zbn, Zbo, Zbp, Zbq, Zbr, Zbs, Zbt, Zbu, Zbv, Zbw, Zbx, Zby, Zbz, Zca, Zcb, Zcc, Zcd, Zce, Zcf, Zcg, evalT, Zch, Nat.reduceLT, Nat.reduceEqDiff, if_true, if_false, reduceIte, true_and, Zci, Zcj, map_ite', Zck, bind_ite', Zcl, Zcm, Zcn, Zco, Zcp, Zcq, Zcr, Zcs, Zct, Zcu, Zcv, Zcw, Zcx, Zcy, Zcz, Zda, Zdb, Zdc, Zdd, Zde, Zdf, Zdg, ofVal, ofCell, argT, List.getD_cons_zero, List.getD_cons_succ, List.getElem?_toArray, List.getElem?_cons_zero, List.getElem?_cons_succ, List.nil_append, List.cons_append, List.append_nil, resT, Zdh, Zdi, Nat.mul_one, Zdj, Zdk, Zdl, Zdm, Zdn, Zdo, Zdp, Zdq, Zdr, Zds, Zdt, setT, Zdu, Zdv, Zdw, Zdx, Zdy, List.append_eq, Zdz, Zea, Zeb, Zec, Zed, Zee, Zef, Zeg, Zeh, Nat.add_zero, Zei, Zej, Zek, Zel, Zem, Zen, Int.toNat_natCast, Bool.false_eq_true, Int.reduceEq, Int.reduceLT, Int.reduceLE, Int.reduceNeg, not_false_eq_true, and_self, Zeo, Zep, Int.natCast_one, Int.cast_ofNat_Int, not_true_eq_false, decide_true, decide_false, true_implies, false_implies, Int.toNat_zero, List.length_cons, List.length_nil, Nat.zero_add, mb, Nat.reduceBEq, Bool.false_and, Bool.and_false, Zeq, tys, stb, Zer, Zes, Zet, Zeu, Zev, Zew, Bool.or_false, Bool.false_or, Bool.true_and, Bool.or_true, Bool.true_or, Zex, Zey, t0, t3, t4, c1, len_str]
    simp [oneOr, sealDepth, sealV_int]

end Go.Proofs.YtbikmhpobflfeaaDoor
namespace Go.Proofs.YtbikmhpobflfeaaDoor
open Go.Ab
set_option maxRecDepth 100000
set_option linter.unusedSimpArgs false
set_option linter.unusedVariables false
theorem at106 : env.P.funcs[106]? = some Tryd.f106 := by kernel_rfl
def stepB (s : List UInt8) (i : Nat) (cur w : List UInt8) : List UInt8 := if cur.length < w.length ∧ i + w.length ≤ s.length ∧ subS s i (i + w.length) = w then w else cur
def bestL (s : List UInt8) (i : Nat) : List (List UInt8) → List UInt8 → List UInt8
  | [], cur => cur
  | w :: ws, cur => bestL s i ws (stepB s i cur w)
theorem signs_short : ∀ w ∈ signsW, 1 ≤ w.length ∧ w.length ≤ 2 := by
  have h : (signsW.all fun w => Nat.ble 1 w.length && Nat.ble w.length 2) = true := by kernel_rfl
  intro w hw
  have := List.all_eq_true.1 h w hw
  simp only [Bool.and_eq_true, Nat.ble_eq] at this
  exact this
theorem best_inv (s : List UInt8) (i : Nat) : ∀ (ws : List (List UInt8)) (cur : List UInt8), (cur = [] ∨ (i + cur.length ≤ s.length ∧ subS s i (i + cur.length) = cur ∧ cur ∈ signsW)) → (∀ w ∈ ws, w ∈ signsW) →
    (bestL s i ws cur = [] ∨ (i + (bestL s i ws cur).length ≤ s.length ∧ subS s i (i + (bestL s i ws cur).length) = bestL s i ws cur ∧ bestL s i ws cur ∈ signsW)) ∧ cur.length ≤ (bestL s i ws cur).length ∧
    ∀ w ∈ ws, i + w.length ≤ s.length → subS s i (i + w.length) = w → w.length ≤ (bestL s i ws cur).length
  | [], cur, h, _ => ⟨h, Nat.le_refl _, fun w hw => by simp at hw⟩
  | w :: ws, cur, h, hw => by
    simp only [bestL]
    by_cases hc : cur.length < w.length ∧ i + w.length ≤ s.length ∧ subS s i (i + w.length) = w
    · have hs : stepB s i cur w = w := if_pos hc
      rw [hs]
      obtain ⟨a, b, c⟩ := best_inv s i ws w (.inr ⟨hc.2.1, hc.2.2, hw w (by simp)⟩) fun x hx => hw x (by simp [hx])
      refine ⟨a, by omega, fun x hx h1 h2 => ?_⟩
      rcases List.mem_cons.1 hx with rfl | hx
      · exact b
      · exact c x hx h1 h2
    · have hs : stepB s i cur w = cur := if_neg hc
      rw [hs]
      obtain ⟨a, b, c⟩ := best_inv s i ws cur h fun x hx => hw x (by simp [hx])
      refine ⟨a, b, fun x hx h1 h2 => ?_⟩
      rcases List.mem_cons.1 hx with rfl | hx
      · have : ¬ cur.length < x.length := fun h3 => hc ⟨h3, h1, h2⟩
        omega
      · exact c x hx h1 h2
theorem best_sign (s : List UInt8) (i : Nat) : bestL s i signsW [] = (sgW s i 2).1 ∧ ((sgW s i 2).2 = true ↔ (sgW s i 2).1 ≠ []) := by
  obtain ⟨a, _, c⟩ := best_inv s i signsW [] (.inl rfl) fun _ h => h
  generalize bestL s i signsW [] = r at *
  simp only [sgW, Nat.zero_add, Nat.reduceAdd]
  by_cases h2 : i + 2 ≤ s.length ∧ subS s i (i + 2) ∈ signsW
  · rw [if_pos h2]
    have hl := subS_len s i (i + 2) h2.1
    have hl2 : (subS s i (i + 2)).length = 2 := by omega
    have := c _ h2.2 (by omega) (by rw [hl2])
    rcases a with rfl | ⟨a1, a2, a3⟩
    · rw [hl2] at this; simp at this
    · have h4 := (signs_short r a3).2
      have h5 : r.length = 2 := by omega
      rw [h5] at a2
      refine ⟨a2.symm, by simp only; refine ⟨fun _ h => ?_, fun _ => trivial⟩; rw [h] at hl2; simp at hl2⟩
  · rw [if_neg h2]
    by_cases h1 : i + 1 ≤ s.length ∧ subS s i (i + 1) ∈ signsW
    · rw [if_pos h1]
      have hl := subS_len s i (i + 1) h1.1
      have hl1 : (subS s i (i + 1)).length = 1 := by omega
      have := c _ h1.2 (by omega) (by rw [hl1])
      rcases a with rfl | ⟨a1, a2, a3⟩
      · rw [hl1] at this; simp at this
      · have h4 := (signs_short r a3).2
        have h5 : r.length = 1 := by
          rcases Nat.lt_or_ge r.length 2 with h | h
          · omega
          · have : r.length = 2 := by omega
            rw [this] at a1 a2
            rw [← a2] at a3
            exact absurd ⟨a1, a3⟩ h2
        rw [h5] at a2
        refine ⟨a2.symm, by simp only; refine ⟨fun _ h => ?_, fun _ => trivial⟩; rw [h] at hl1; simp at hl1⟩
    · rw [if_neg h1]
      refine ⟨?_, by simp⟩
      rcases a with rfl | ⟨a1, a2, a3⟩
      · rfl
      · have h4 := signs_short r a3
        have h5 : r.length = 1 ∨ r.length = 2 := by omega
        rcases h5 with h5 | h5
        · rw [h5] at a1 a2; rw [← a2] at a3; exact absurd ⟨a1, a3⟩ h1
        · rw [h5] at a1 a2; rw [← a2] at a3; exact absurd ⟨a1, a3⟩ h2

theorem refsign_call (s : List UInt8) (hl : s.length ≤ 2 ^ 30) (i : Nat) (hi : i ≤ s.length) (σ : S) : callFn env (ev env) 106 [.str s, .int .i64 (i : Nat)] σ = some (.str (sgW s i 2).1, σ) := by
  rw [← (best_sign s i).1]
  refine callFn_pure rfl rfl rfl at106 rfl (by simp [Tryd.f106]) (by simp [Tryd.f106]) (G_start ?_) σ
  simp -implicitDefEqProofs only [Tryd.f106, Zaa, Zab, Zac, Zad, Zae, Zaf, Zag, Zah, Zai, Zaj, Zak, Zal, Zam, Zan, Zao, Zap, Zaq, Zar, Zas, Zat, Zau, Zav, Zaw, Zax, Zay, Zaz, Zba, Zbb, Zbc, Zbd, Zbe, Zbf, Zbg, Zbh, Zbi, Zbj, Zbk, Zbl, Zbm, Zbn, Zbo, Zbp, Zbq, Zbr, Zbs, Zbt, Zbu, Zbv, Zbw, Zbx, Zby, Zbz, Zca, Zcb, Zcc, Zcd, Zce, Zcf, Zcg, evalT, Zch, Nat.reduceLT, Nat.reduceEqDiff, if_true, if_false, reduceIte, true_and, Zci, Zcj, map_ite', Zck, bind_ite', Zcl, Zcm, Zcn, Zco, Zcp, Zcq, Zcr, Zcs, Zct, Zcu, Zcv, Zcw, Zcx, Zcy, Zcz, Zda, Zdb, Zdc, Zdd, Zde, Zdf, Zdg, ofVal, ofCell, argT, List.getD_cons_zero, List.getD_cons_succ, List.getElem?_toArray, List.getElem?_cons_zero, List.getElem?_cons_succ, List.nil_append, List.cons_append, List.append_nil, resT, Zdh, Zdi, Nat.mul_one, Zdj, Zdk, Zdl, Zdm, Zdn, Zdo, Zdp, Zdq, Zdr, Zds, Zdt, setT, Zdu, Zdv, Zdw, Zdx, Zdy, List.append_eq, Zdz, Zea, Zeb, Zec, Zed, Zee, Zef, Zeg, Zeh, Nat.add_zero, Zei, Zej, Zek, Zel, Zem, Zen, Int.toNat_natCast, Bool.false_eq_true, Int.reduceEq, Int.reduceLT, Int.reduceLE, Int.reduceNeg, not_false_eq_true, and_self, Zeo, Zep, Int.natCast_one, Int.cast_ofNat_Int, not_true_eq_false, decide_true, decide_false, true_implies, false_implies, Int.toNat_zero, List.length_cons, List.length_nil, Nat.zero_add, mb, Nat.reduceBEq, Bool.false_and, Bool.and_false, Zeq, tys, stb, Zer, Zes, Zet, Zeu, Zev, Zew, Bool.or_false, Bool.false_or, Bool.true_and, Bool.or_true, Bool.true_or, Zex, Zey, empty_mk, signsref_call]
  have h16 := signs16
  have hsh := signs_short
  generalize hfin : bestL s i signsW [] = fin
  refine loop_rule (fun m T D σ => D = [] ∧ T 0 = .str s ∧ T 1 = .int .i64 (i : Nat) ∧ T 6 = .row (signsW.map V.str) 16 .unk ∧ ∃ (j : Nat) (cur : List UInt8), T 7 = .int .i64 j ∧ T 5 = .str cur ∧ j ≤ 16 ∧ m = 16 - j ∧ bestL s i (signsW.drop j) cur = fin) ?_ (16 - 0) _ _ _ ?_
  rotate_left
  · exact ⟨rfl, rfl, rfl, rfl, 0, [], rfl, rfl, Nat.zero_le _, rfl, by rw [List.drop_zero]; exact hfin⟩
  clear hfin
  rintro m T D σ ⟨rfl, t0, t1, t6, j, cur, t7, t5, hj, rfl, hm⟩
  refine G_start ?_
  generalize signsW = ws at *
  by_cases hlt : j < 16
  · have c1 : (j : Int) < 16 := by omega
    have c1' : (j : Int) < ((16 : Nat) : Int) := by omega
    have c3 : (0 : Int) ≤ (j : Int) ∧ (j : Int) < ((16 : Nat) : Int) := by omega
    have c4 : j < ws.length := by omega
    have e1 : IntKind.i64.wrap ((j : Int) + 1) = ((j + 1 : Nat) : Int) := by rw [wrap_i64 (by omega) (by omega)]; omega
    have hstep : bestL s i (ws.drop j) cur = bestL s i (ws.drop (j + 1)) (stepB s i cur (ws.getD j [])) := by
      rw [List.drop_eq_getElem_cons c4]; simp [bestL, List.getD, c4]
    rw [hstep] at hm
    have hw := hsh (ws.getD j []) (by simp [List.getD, c4])
    generalize hx : ws.getD j [] = w at *
    have e2 : IntKind.i64.wrap ((i : Int) + (w.length : Int)) = ((i + w.length : Nat) : Int) := by rw [wrap_i64 (by omega) (by omega)]; omega
    by_cases h1 : cur.length < w.length
    · have g1 : (cur.length : Int) < (w.length : Int) := by omega
      by_cases h2 : i + w.length ≤ s.length
      · have g2 : ((i + w.length : Nat) : Int) ≤ (s.length : Int) := by omega
        have hsl := slice_s s i (i + w.length) (Nat.le_add_right _ _) h2
        by_cases h3 : subS s i (i + w.length) = w
        · have hs : stepB s i cur w = w := if_pos ⟨h1, h2, h3⟩
          rw [hs] at hm
          simp -implicitDefEqProofs only [Zaa, Zab, Zac, Zad, Zae, Zaf, Zag, Zah, Zai, Zaj, Zak, Zal, Zam, Zan, Zao, Zap, Zaq, Zar, Zas, Zat, Zau, Zav, Zaw, Zax, Zay, Zaz, Zba, Zbb, Zbc, Zbd, Zbe, Zbf, Zbg, Zbh, Zbi, Zbj, Zbk, Zbl, Zbm, Zbn, Zbo, Zbp, Zbq, Zbr, Zbs, Zbt, Zbu, Zbv, Zbw, Zbx, Zby, Zbz, Zca, Zcb, Zcc, Zcd, Zce, Zcf, Zcg, evalT, Zch, Nat.reduceLT, Nat.reduceEqDiff, if_true, if_false, reduceIte, true_and, Zci, Zcj, map_ite', Zck, bind_ite', Zcl, Zcm, Zcn, Zco, Zcp, Zcq, Zcr, Zcs, Zct, Zcu, Zcv, Zcw, Zcx, Zcy, Zcz, Zda, Zdb, Zdc, Zdd, Zde, Zdf, Zdg, ofVal, ofCell, argT, List.getD_cons_zero, List.getD_cons_succ, List.getElem?_toArray, List.getElem?_cons_zero, List.getElem?_cons_succ, List.nil_append, List.cons_append, List.append_nil, resT, Zdh, Zdi, Nat.mul_one, Zdj, Zdk, Zdl, Zdm, Zdn, Zdo, Zdp, Zdq, Zdr, Zds, Zdt, setT, Zdu, Zdv, Zdw, Zdx, Zdy, List.append_eq, Zdz, Zea, Zeb, Zec, Zed, Zee, Zef, Zeg, Zeh, Nat.add_zero, Zei, Zej, Zek, Zel, Zem, Zen, Int.toNat_natCast, Bool.false_eq_true, Int.reduceEq, Int.reduceLT, Int.reduceLE, Int.reduceNeg, not_false_eq_true, and_self, Zeo, Zep, Int.natCast_one, Int.cast_ofNat_Int, not_true_eq_false, decide_true, decide_false, true_implies, false_implies, Int.toNat_zero, List.length_cons, List.length_nil, Nat.zero_add, mb, Nat.reduceBEq, Bool.false_and, Bool.and_false, Zeq, tys, stb, Zer, Zes, Zet, Zeu, Zev, Zew, Bool.or_false, Bool.false_or, Bool.true_and, Bool.or_true, Bool.true_or, Zex, Zey, t0, t1, t5, t6, t7, c1, c1', c3, c4, e1, e2, g1, g2, len_str, strs_get, hx, opT_slice, optO_none, optO_some, hsl, h3, vBin_seql]
          exact ⟨by kernel_rfl, 16 - (j + 1), by omega, j + 1, w, rfl, rfl, by omega, rfl, hm⟩
        · have hs : stepB s i cur w = cur := if_neg fun h => h3 h.2.2
          rw [hs] at hm
          simp -implicitDefEqProofs only [Zaa, Zab, Zac, Zad, Zae, Zaf, Zag, Zah, Zai, Zaj, Zak, Zal, Zam, Zan, Zao, Zap, Zaq, Zar, Zas, Zat, Zau, Zav, Zaw, Zax, Zay, Zaz, Zba, Zbb, Zbc, Zbd, Zbe, Zbf, Zbg, Zbh, Zbi, Zbj, Zbk, Zbl, Zbm, Zbn, Zbo, Zbp, Zbq, Zbr, Zbs, Zbt, Zbu, Zbv, Zbw, Zbx, Zby, Zbz, Zca, Zcb, Zcc, Zcd, Zce, Zcf, Zcg, evalT, Zch, Nat.reduceLT, Nat.reduceEqDiff, if_true, if_false, reduceIte, true_and, Zci, Zcj, map_ite', Zck, bind_ite', Zcl, Zcm, Zcn, Zco, Zcp, Zcq, Zcr, Zcs, Zct, Zcu, Zcv, Zcw, Zcx, Zcy, Zcz, Zda, Zdb, Zdc, Zdd, Zde, Zdf, Zdg, ofVal, ofCell, argT, List.getD_cons_zero, List.getD_cons_succ, List.getElem?_toArray, List.getElem?_cons_zero, List.getElem?_cons_succ, List.nil_append, List.cons_append, List.append_nil, resT, Zdh, Zdi, Nat.mul_one, Zdj, Zdk, Zdl, Zdm, Zdn, Zdo, Zdp, Zdq, Zdr, Zds, Zdt, setT, Zdu, Zdv, Zdw, Zdx, Zdy, List.append_eq, Zdz, Zea, Zeb, Zec, Zed, Zee, Zef, Zeg, Zeh, Nat.add_zero, Zei, Zej, Zek, Zel, Zem, Zen, Int.toNat_natCast, Bool.false_eq_true, Int.reduceEq, Int.reduceLT, Int.reduceLE, Int.reduceNeg, not_false_eq_true, and_self, Zeo, Zep, Int.natCast_one, Int.cast_ofNat_Int, not_true_eq_false, decide_true, decide_false, true_implies, false_implies, Int.toNat_zero, List.length_cons, List.length_nil, Nat.zero_add, mb, Nat.reduceBEq, Bool.false_and, Bool.and_false, Zeq, tys, stb, Zer, Zes, Zet, Zeu, Zev, Zew, Bool.or_false, Bool.false_or, Bool.true_and, Bool.or_true, Bool.true_or, Zex, Zey, t0, t1, t5, t6, t7, c1, c1', c3, c4, e1, e2, g1, g2, len_str, strs_get, hx, opT_slice, optO_none, optO_some, hsl, h3, vBin_seql]
          exact ⟨by kernel_rfl, 16 - (j + 1), by omega, j + 1, cur, rfl, rfl, by omega, rfl, hm⟩
      · have g2 : ¬ ((i + w.length : Nat) : Int) ≤ (s.length : Int) := by omega
        have hs : stepB s i cur w = cur := if_neg fun h => h2 h.2.1
        rw [hs] at hm
        simp -implicitDefEqProofs only [Zaa, Zab, Zac, Zad, Zae, Zaf, Zag, Zah, Zai, Zaj, Zak, Zal, Zam, Zan, Zao, Zap, Zaq, Zar, Zas, Zat, Zau, Zav, Zaw, Zax, Zay, Zaz, Zba, Zbb, Zbc, Zbd, Zbe, Zbf, Zbg, Zbh, Zbi, Zbj, Zbk, Zbl, Zbm, Zbn, Zbo, Zbp, Zbq, Zbr, Zbs, Zbt, Zbu, Zbv, Zbw, Zbx, Zby, Zbz, Zca, Zcb, Zcc, Zcd, Zce, Zcf, Zcg, evalT, Zch, Nat.reduceLT, Nat.reduceEqDiff, if_true, if_false, reduceIte, true_and, Zci, Zcj, map_ite', Zck, bind_ite', Zcl, Zcm, Zcn, Zco, Zcp, Zcq, Zcr, Zcs, Zct, Zcu, Zcv, Zcw, Zcx, Zcy, Zcz, Zda, Zdb, Zdc, Zdd, Zde, Zdf, Zdg, ofVal, ofCell, argT, List.getD_cons_zero, List.getD_cons_succ, List.getElem?_toArray, List.getElem?_cons_zero, List.getElem?_cons_succ, List.nil_append, List.cons_append, List.append_nil, resT, Zdh, Zdi, Nat.mul_one, Zdj, Zdk, Zdl, Zdm, Zdn, Zdo, Zdp, Zdq, Zdr, Zds, Zdt, setT, Zdu, Zdv, Zdw, Zdx, Zdy, List.append_eq, Zdz, Zea, Zeb, Zec, Zed, Zee, Zef, Zeg, Zeh, Nat.add_zero, Zei, Zej, Zek, Zel, Zem, Zen, Int.toNat_natCast, Bool.false_eq_true, Int.reduceEq, Int.reduceLT, Int.reduceLE, Int.reduceNeg, not_false_eq_true, and_self, Zeo, Zep, Int.natCast_one, Int.cast_ofNat_Int, not_true_eq_false, decide_true, decide_false, true_implies, false_implies, Int.toNat_zero, List.length_cons, List.length_nil, Nat.zero_add, mb, Nat.reduceBEq, Bool.false_and, Bool.and_false, Zeq, tys, stb, Zer, Zes, Zet, Zeu, Zev, Zew, Bool.or_false, Bool.false_or, Bool.true_and, Bool.or_true, Bool.true_or, Zex, Zey, t0, t1, t5, t6, t7, c1, c1', c3, c4, e1, e2, g1, g2, len_str, strs_get, hx, opT_slice, optO_none, optO_some, vBin_seql]
        exact ⟨by kernel_rfl, 16 - (j + 1), by omega, j + 1, cur, rfl, rfl, by omega, rfl, hm⟩
    · have g1 : ¬ (cur.length : Int) < (w.length : Int) := by omega
      have hs : stepB s i cur w = cur := if_neg fun h => h1 h.1
      rw [hs] at hm
      simp -implicitDefEqProofs only [Zaa, Zab, Zac, Zad, Zae, Zaf, Zag, Zah, Zai, Zaj, Zak, Zal, Zam, Zan, Zao, Zap, Zaq, Zar, Zas, Zat, Zau, Zav, Zaw, Zax, Zay, Zaz, Zba, Zbb, Zbc, Zbd, Zbe, Zbf, Zbg, Zbh, Zbi, Zbj, Zbk, Zbl, Zbm, Zbn, Zbo, Zbp, Zbq, Zbr, Zbs, Zbt, Zbu, Zbv, Zbw, Zbx, Zby, Zbz, Zca, Zcb, Zcc, Zcd, Zce, Zcf, Zcg, evalT, Zch, Nat.reduceLT, Nat.reduceEqDiff, if_true, if_false, reduceIte, true_and, Zci, Zcj, map_ite', Zck, bind_ite', Zcl, Zcm, Zcn, Zco, Zcp, Zcq, Zcr, Zcs, Zct, Zcu, Zcv, Zcw, Zcx, Zcy, Zcz, Zda, Zdb, Zdc, Zdd, Zde, Zdf, Zdg, ofVal, ofCell, argT, List.getD_cons_zero, List.getD_cons_succ, List.getElem?_toArray, List.getElem?_cons_zero, List.getElem?_cons_succ, List.nil_append, List.cons_append, List.append_nil, resT, Zdh, Zdi, Nat.mul_one, Zdj, Zdk, Zdl, Zdm, Zdn, Zdo, Zdp, Zdq, Zdr, Zds, Zdt, setT, Zdu, Zdv, Zdw, Zdx, Zdy, List.append_eq, Zdz, Zea, Zeb, Zec, Zed, Zee, Zef, Zeg, Zeh, Nat.add_zero, Zei, Zej, Zek, Zel, Zem, Zen, Int.toNat_natCast, Bool.false_eq_true, Int.reduceEq, Int.reduceLT, Int.reduceLE, Int.reduceNeg, not_false_eq_true, and_self, Zeo, Zep, Int.natCast_one, Int.cast_ofNat_Int, not_true_eq_false, decide_true, decide_false, true_implies, false_implies, Int.toNat_zero, List.length_cons, List.length_nil, Nat.zero_add, mb, Nat.reduceBEq, Bool.false_and, Bool.and_false, Zeq, tys, stb, Zer, Zes, Zet, Zeu, Zev, Zew, Bool.or_false, Bool.false_or, Bool.true_and, Bool.or_true, Bool.true_or, Zex, Zey, t0, t1, t5, t6, t7, c1, c1', c3, c4, e1, e2, g1, len_str, strs_get, hx, opT_slice, optO_none, optO_some, vBin_seql]
      exact ⟨by kernel_rfl, 16 - (j + 1), by omega, j + 1, cur, rfl, rfl, by omega, rfl, hm⟩
  · have hj2 : j = 16 := by omega
    subst hj2
    rw [List.drop_of_length_le (by omega)] at hm
    simp only [bestL] at hm
    subst hm
    have c1 : ¬ ((16 : Nat) : Int) < 16 := by omega
    have c1' : ¬ ((16 : Nat) : Int) < ((16 : Nat) : Int) := by omega
    simp -implicitDefEqProofs only [Zaa, Zab, Zac, Zad, Zae, Zaf, Zag, Zah, Zai, Zaj, Zak, Zal, Zam, Zan, Zao, Zap, Zaq, Zar, Zas, Zat, Zau, Zav, Zaw, Zax, Zay, Zaz, Zba, Zbb, Zbc, Zbd, Zbe, Zbf, Zbg, Zbh, Zbi, Zbj, Zbk, Zbl, Zbm, Zbn, Zbo, Zbp, Zbq, Zbr, Zbs, Zbt, Zbu, Zbv, Zbw, Zbx, Zby, Zbz, Zca, Zcb, Zcc, Zcd, Zce, Zcf, Zcg, evalT, Zch, Nat.reduceLT, Nat.reduceEqDiff, if_true, if_false, reduceIte, true_and, Zci, Zcj, map_ite', Zck, bind_ite', Zcl, Zcm, Zcn, Zco, Zcp, Zcq, Zcr, Zcs, Zct, Zcu, Zcv, Zcw, Zcx, Zcy, Zcz, Zda, Zdb, Zdc, Zdd, Zde, Zdf, Zdg, ofVal, ofCell, argT, List.getD_cons_zero, List.getD_cons_succ, List.getElem?_toArray, List.getElem?_cons_zero, List.getElem?_cons_succ, List.nil_append, List.cons_append, List.append_nil, resT, Zdh, Zdi, Nat.mul_one, Zdj, Zdk, Zdl, Zdm, Zdn, Zdo, Zdp, Zdq, Zdr, Zds, Zdt, setT, Zdu, Zdv, Zdw, Zdx, Zdy, List.append_eq, Zdz, Zea, Zeb, Zec, Zed, Zee, Zef, Zeg, Zeh, Nat.add_zero, Zei, Zej, Zek, Zel, Zem, Zen, Int.toNat_natCast, Bool.false_eq_true, Int.reduceEq, Int.reduceLT, Int.reduceLE, Int.reduceNeg, not_false_eq_true, and_self, Zeo, Zep, Int.natCast_one, Int.cast_ofNat_Int, not_true_eq_false, decide_true, decide_false, true_implies, false_implies, Int.toNat_zero, List.length_cons, List.length_nil, Nat.zero_add, mb, Nat.reduceBEq, Bool.false_and, Bool.and_false, Zeq, tys, stb, Zer, Zes, Zet, Zeu, Zev, Zew, Bool.or_false, Bool.false_or, Bool.true_and, Bool.or_true, Bool.true_or, Zex, Zey, t0, t1, t5, t6, t7, c1, c1']
    simp [oneOr, sealDepth, sealV_str]

end Go.Proofs.YtbikmhpobflfeaaDoor
namespace Go.Proofs.YtbikmhpobflfeaaDoor
open Go.Ab
set_option maxRecDepth 100000
set_option linter.unusedSimpArgs false
set_option linter.unusedVariables false
theorem at75 : env.P.funcs[75]? = some Tryd.f75 := by kernel_rfl
def X75 (s : List UInt8) (i : Nat) (t : Tok) (e : Nat) (x : Int) : Prop := ∀ σ, callFn env (ev env) 75 [.str s, .int .i64 (i : Nat)] σ = some (.tup [.agg [.int .i64 t.kind, .str t.text, .int .i64 t.n, .int .i64 t.pos], .int .i64 (e : Nat), .int .i64 x], σ)
theorem ld52_0 (a b c d : V) (o : AObj) : aload env [.cells [a, b, c, d] 52, o] 52 (.ptr 0 0) = some (.agg [a, b, c, d]) := by kernel_rfl
theorem ld52_1 (a b c d : V) (o : AObj) : aload env [o, .cells [a, b, c, d] 52] 52 (.ptr 1 0) = some (.agg [a, b, c, d]) := by kernel_rfl
theorem cellsStr (x : List UInt8) : (V.str x).cells = [.str x] := rfl
theorem fo521 : fldOff env 52 1 = some 1 := by kernel_rfl
theorem fo522 : fldOff env 52 2 = some 2 := by kernel_rfl
theorem cls2 (c : Nat) : clsN c = 2 ↔ (97 ≤ c ∧ c ≤ 122) := by
  unfold clsN
  by_cases h1 : 97 ≤ c ∧ c ≤ 122
  · simp [h1]
  by_cases h2 : 48 ≤ c ∧ c ≤ 57
  · simp [h1, h2]
  by_cases h3 : c = 32
  · subst h3; simp
  by_cases h4 : c = 95
  · subst h4; simp
  by_cases h5 : c = 39
  · subst h5; simp
  simp [h1, h2, h3, h4, h5]
theorem cls3 (c : Nat) : clsN c = 3 ↔ (48 ≤ c ∧ c ≤ 57) := by
  have := cls_digit c
  rw [← this]; simp
theorem cls5 (c : Nat) : clsN c = 5 ↔ c = 39 := by
  unfold clsN
  by_cases h1 : 97 ≤ c ∧ c ≤ 122
  · simp [h1]; omega
  by_cases h2 : 48 ≤ c ∧ c ≤ 57
  · simp [h1, h2]; omega
  by_cases h3 : c = 32
  · subst h3; simp
  by_cases h4 : c = 95
  · subst h4; simp
  by_cases h5 : c = 39
  · subst h5; simp
  simp [h1, h2, h3, h4, h5]
theorem rt_l2 (s : List UInt8) (hl : s.length ≤ 2 ^ 30) (i : Nat) (hi : i < s.length) (hc : clsN (s.getD i 0).toNat = 2) (x : List UInt8) (e : Nat) (hx : x = subS s i e) (he : e = endW s [2, 3, 4] i) (h2 : 20 < e - i) : X75 s i ⟨0, x, 0, i⟩ (e) (19) := by
  intro σ
  have c2 : (0 : Int) ≤ (i : Int) ∧ (i : Int) < (s.length : Int) := by omega
  have hsm := small_call (s.getD i 0)
  have hdg := digit_call (s.getD i 0)
  rw [decide_eq_true ((cls2 _).1 hc)] at hsm
  have hb := endW_le s [2, 3, 4] i (by omega)
  rw [← he] at hb
  have hsl := slice_s s i e hb.1 hb.2
  have hlen := subS_len s i e hb.2
  have hwe := word_end s hl i (by omega)
  rw [← he] at hwe
  rw [← hx] at hsl hlen
  have h3 : (20 : Int) < (x.length : Int) := by omega
  refine callFn_pure rfl rfl rfl at75 rfl (by simp [Tryd.f75]) (by simp [Tryd.f75]) (G_start ?_) σ
  simp -implicitDefEqProofs only [Tryd.f75, Zaa, Zab, Zac, Zad, Zae, Zaf, Zag, Zah, Zai, Zaj, Zak, Zal, Zam, Zan, Zao, Zap, Zaq, Zar, Zas, Zat, Zau, Zav, Zaw, Zax, Zay, Zaz, Zba, Zbb, Zbc, Zbd, Zbe, Zbf, Zbg, Zbh, Zbi, Zbj, Zbk, Zbl, Zbm, Zbn, Zbo, Zbp, Zbq, Zbr, Zbs, Zbt, Zbu, Zbv, Zbw, Zbx, Zby, Zbz, Zca, Zcb, Zcc, Zcd, Zce, Zcf, Zcg, evalT, Zch, Nat.reduceLT, Nat.reduceEqDiff, if_true, if_false, reduceIte, true_and, Zci, Zcj, map_ite', Zck, bind_ite', Zcl, Zcm, Zcn, Zco, Zcp, Zcq, Zcr, Zcs, Zct, Zcu, Zcv, Zcw, Zcx, Zcy, Zcz, Zda, Zdb, Zdc, Zdd, Zde, Zdf, Zdg, ofVal, ofCell, argT, List.getD_cons_zero, List.getD_cons_succ, List.getElem?_toArray, List.getElem?_cons_zero, List.getElem?_cons_succ, List.nil_append, List.cons_append, List.append_nil, resT, Zdh, Zdi, Nat.mul_one, Zdj, Zdk, Zdl, Zdm, Zdn, Zdo, Zdp, Zdq, Zdr, Zds, Zdt, setT, Zdu, Zdv, Zdw, Zdx, Zdy, List.append_eq, Zdz, Zea, Zeb, Zec, Zed, Zee, Zef, Zeg, Zeh, Nat.add_zero, Zei, Zej, Zek, Zel, Zem, Zen, Int.toNat_natCast, Bool.false_eq_true, Int.reduceEq, Int.reduceLT, Int.reduceLE, Int.reduceNeg, not_false_eq_true, and_self, Zeo, Zep, Int.natCast_one, Int.cast_ofNat_Int, not_true_eq_false, decide_true, decide_false, true_implies, false_implies, Int.toNat_zero, List.length_cons, List.length_nil, Nat.zero_add, mb, Nat.reduceBEq, Bool.false_and, Bool.and_false, Zeq, tys, stb, Zer, Zes, Zet, Zeu, Zev, Zew, Bool.or_false, Bool.false_or, Bool.true_and, Bool.or_true, Bool.true_or, Zex, Zey, storeList, List.take_zero, List.take_succ_cons, List.drop_zero, List.drop_succ_cons, List.drop_nil, List.all_cons, List.all_nil, List.set_cons_zero, List.set_cons_succ, cells_hsl, isCell_hsl, Nat.reduceAdd, Nat.reduceLeDiff, empty_mk, zv52, build52p, c2, len_str, opT_index, indexO_str u9, Int.toNat_natCast, hsm, fo520, fo521, fo522, aload9, aload3, ld52_0, ld52_1, opT_slice, optO_none, optO_some, Zeg, cellsStr, isCell_int, isCell_str, hwe, hsl, h3]
  simp only [oneOr, sealDepth, sealV_tup, sealV_agg, mapM_seal_cons, mapM_seal_nil, sealV_int, sealV_str, Option.bind_some, Option.map_some]
theorem rt_l0 (s : List UInt8) (hl : s.length ≤ 2 ^ 30) (i : Nat) (hi : i < s.length) (hc : clsN (s.getD i 0).toNat = 2) (x : List UInt8) (e : Nat) (hx : x = subS s i e) (he : e = endW s [2, 3, 4] i) (h2 : ¬ 20 < e - i) (h1 : ¬ x ∈ N.wordsW) : X75 s i ⟨1, x, 0, i⟩ (e) (0) := by
  intro σ
  have c2 : (0 : Int) ≤ (i : Int) ∧ (i : Int) < (s.length : Int) := by omega
  have hsm := small_call (s.getD i 0)
  have hdg := digit_call (s.getD i 0)
  rw [decide_eq_true ((cls2 _).1 hc)] at hsm
  have hb := endW_le s [2, 3, 4] i (by omega)
  rw [← he] at hb
  have hsl := slice_s s i e hb.1 hb.2
  have hlen := subS_len s i e hb.2
  have hwe := word_end s hl i (by omega)
  rw [← he] at hwe
  rw [← hx] at hsl hlen
  have h3 : ¬ (20 : Int) < (x.length : Int) := by omega
  have hres := reserved_call x
  rw [decide_eq_false h1] at hres
  refine callFn_pure rfl rfl rfl at75 rfl (by simp [Tryd.f75]) (by simp [Tryd.f75]) (G_start ?_) σ
  simp -implicitDefEqProofs only [Tryd.f75, Zaa, Zab, Zac, Zad, Zae, Zaf, Zag, Zah, Zai, Zaj, Zak, Zal, Zam, Zan, Zao, Zap, Zaq, Zar, Zas, Zat, Zau, Zav, Zaw, Zax, Zay, Zaz, Zba, Zbb, Zbc, Zbd, Zbe, Zbf, Zbg, Zbh, Zbi, Zbj, Zbk, Zbl, Zbm, Zbn, Zbo, Zbp, Zbq, Zbr, Zbs, Zbt, Zbu, Zbv, Zbw, Zbx, Zby, Zbz, Zca, Zcb, Zcc, Zcd, Zce, Zcf, Zcg, evalT, Zch, Nat.reduceLT, Nat.reduceEqDiff, if_true, if_false, reduceIte, true_and, Zci, Zcj, map_ite', Zck, bind_ite', Zcl, Zcm, Zcn, Zco, Zcp, Zcq, Zcr, Zcs, Zct, Zcu, Zcv, Zcw, Zcx, Zcy, Zcz, Zda, Zdb, Zdc, Zdd, Zde, Zdf, Zdg, ofVal, ofCell, argT, List.getD_cons_zero, List.getD_cons_succ, List.getElem?_toArray, List.getElem?_cons_zero, List.getElem?_cons_succ, List.nil_append, List.cons_append, List.append_nil, resT, Zdh, Zdi, Nat.mul_one, Zdj, Zdk, Zdl, Zdm, Zdn, Zdo, Zdp, Zdq, Zdr, Zds, Zdt, setT, Zdu, Zdv, Zdw, Zdx, Zdy, List.append_eq, Zdz, Zea, Zeb, Zec, Zed, Zee, Zef, Zeg, Zeh, Nat.add_zero, Zei, Zej, Zek, Zel, Zem, Zen, Int.toNat_natCast, Bool.false_eq_true, Int.reduceEq, Int.reduceLT, Int.reduceLE, Int.reduceNeg, not_false_eq_true, and_self, Zeo, Zep, Int.natCast_one, Int.cast_ofNat_Int, not_true_eq_false, decide_true, decide_false, true_implies, false_implies, Int.toNat_zero, List.length_cons, List.length_nil, Nat.zero_add, mb, Nat.reduceBEq, Bool.false_and, Bool.and_false, Zeq, tys, stb, Zer, Zes, Zet, Zeu, Zev, Zew, Bool.or_false, Bool.false_or, Bool.true_and, Bool.or_true, Bool.true_or, Zex, Zey, storeList, List.take_zero, List.take_succ_cons, List.drop_zero, List.drop_succ_cons, List.drop_nil, List.all_cons, List.all_nil, List.set_cons_zero, List.set_cons_succ, cells_hsl, isCell_hsl, Nat.reduceAdd, Nat.reduceLeDiff, empty_mk, zv52, build52p, c2, len_str, opT_index, indexO_str u9, Int.toNat_natCast, hsm, fo520, fo521, fo522, aload9, aload3, ld52_0, ld52_1, opT_slice, optO_none, optO_some, Zeg, cellsStr, isCell_int, isCell_str, hwe, hsl, h3, hres]
  simp only [oneOr, sealDepth, sealV_tup, sealV_agg, mapM_seal_cons, mapM_seal_nil, sealV_int, sealV_str, Option.bind_some, Option.map_some]
theorem rt_l1 (s : List UInt8) (hl : s.length ≤ 2 ^ 30) (i : Nat) (hi : i < s.length) (hc : clsN (s.getD i 0).toNat = 2) (x : List UInt8) (e : Nat) (hx : x = subS s i e) (he : e = endW s [2, 3, 4] i) (h2 : ¬ 20 < e - i) (h1 : x ∈ N.wordsW) : X75 s i ⟨2, x, 0, i⟩ (e) (0) := by
  intro σ
  have c2 : (0 : Int) ≤ (i : Int) ∧ (i : Int) < (s.length : Int) := by omega
  have hsm := small_call (s.getD i 0)
  have hdg := digit_call (s.getD i 0)
  rw [decide_eq_true ((cls2 _).1 hc)] at hsm
  have hb := endW_le s [2, 3, 4] i (by omega)
  rw [← he] at hb
  have hsl := slice_s s i e hb.1 hb.2
  have hlen := subS_len s i e hb.2
  have hwe := word_end s hl i (by omega)
  rw [← he] at hwe
  rw [← hx] at hsl hlen
  have h3 : ¬ (20 : Int) < (x.length : Int) := by omega
  have hres := reserved_call x
  rw [decide_eq_true h1] at hres
  refine callFn_pure rfl rfl rfl at75 rfl (by simp [Tryd.f75]) (by simp [Tryd.f75]) (G_start ?_) σ
  simp -implicitDefEqProofs only [Tryd.f75, Zaa, Zab, Zac, Zad, Zae, Zaf, Zag, Zah, Zai, Zaj, Zak, Zal, Zam, Zan, Zao, Zap, Zaq, Zar, Zas, Zat, Zau, Zav, Zaw, Zax, Zay, Zaz, Zba, Zbb, Zbc, Zbd, Zbe, Zbf, Zbg, Zbh, Zbi, Zbj, Zbk, Zbl, Zbm, Zbn, Zbo, Zbp, Zbq, Zbr, Zbs, Zbt, Zbu, Zbv, Zbw, Zbx, Zby, Zbz, Zca, Zcb, Zcc, Zcd, Zce, Zcf, Zcg, evalT, Zch, Nat.reduceLT, Nat.reduceEqDiff, if_true, if_false, reduceIte, true_and, Zci, Zcj, map_ite', Zck, bind_ite', Zcl, Zcm, Zcn, Zco, Zcp, Zcq, Zcr, Zcs, Zct, Zcu, Zcv, Zcw, Zcx, Zcy, Zcz, Zda, Zdb, Zdc, Zdd, Zde, Zdf, Zdg, ofVal, ofCell, argT, List.getD_cons_zero, List.getD_cons_succ, List.getElem?_toArray, List.getElem?_cons_zero, List.getElem?_cons_succ, List.nil_append, List.cons_append, List.append_nil, resT, Zdh, Zdi, Nat.mul_one, Zdj, Zdk, Zdl, Zdm, Zdn, Zdo, Zdp, Zdq, Zdr, Zds, Zdt, setT, Zdu, Zdv, Zdw, Zdx, Zdy, List.append_eq, Zdz, Zea, Zeb, Zec, Zed, Zee, Zef, Zeg, Zeh, Nat.add_zero, Zei, Zej, Zek, Zel, Zem, Zen, Int.toNat_natCast, Bool.false_eq_true, Int.reduceEq, Int.reduceLT, Int.reduceLE, Int.reduceNeg, not_false_eq_true, and_self, Zeo, Zep, Int.natCast_one, Int.cast_ofNat_Int, not_true_eq_false, decide_true, decide_false, true_implies, false_implies, Int.toNat_zero, List.length_cons, List.length_nil, Nat.zero_add, mb, Nat.reduceBEq, Bool.false_and, Bool.and_false, Zeq, tys, stb, Zer, Zes, Zet, Zeu, Zev, Zew, Bool.or_false, Bool.false_or, Bool.true_and, Bool.or_true, Bool.true_or, Zex, Zey, storeList, List.take_zero, List.take_succ_cons, List.drop_zero, List.drop_succ_cons, List.drop_nil, List.all_cons, List.all_nil, List.set_cons_zero, List.set_cons_succ, cells_hsl, isCell_hsl, Nat.reduceAdd, Nat.reduceLeDiff, empty_mk, zv52, build52p, c2, len_str, opT_index, indexO_str u9, Int.toNat_natCast, hsm, fo520, fo521, fo522, aload9, aload3, ld52_0, ld52_1, opT_slice, optO_none, optO_some, Zeg, cellsStr, isCell_int, isCell_str, hwe, hsl, h3, hres]
  simp only [oneOr, sealDepth, sealV_tup, sealV_agg, mapM_seal_cons, mapM_seal_nil, sealV_int, sealV_str, Option.bind_some, Option.map_some]
theorem rt_q0 (s : List UInt8) (hl : s.length ≤ 2 ^ 30) (i : Nat) (hi : i < s.length) (hc : clsN (s.getD i 0).toNat = 5) (e : Nat) (he : e = endW s [2, 3, 4] (i + 1)) (h1 : ¬ N.IsName (subS s (i + 1) e)) : X75 s i ⟨4, subS s (i + 1) e, 0, i⟩ (e) (11) := by
  intro σ
  have c2 : (0 : Int) ≤ (i : Int) ∧ (i : Int) < (s.length : Int) := by omega
  have hsm := small_call (s.getD i 0)
  have hdg := digit_call (s.getD i 0)
  rw [decide_eq_false (fun h => by have := (cls2 _).2 h; rw [hc] at this; omega)] at hsm
  rw [decide_eq_false (fun h => by have := (cls3 _).2 h; rw [hc] at this; omega)] at hdg
  have g39 : (((s.getD i 0).toNat : Int) = 39) = True := eq_true (by have := (cls5 _).1 hc; omega)
  have hb := endW_le s [2, 3, 4] (i + 1) (by omega)
  rw [← he] at hb
  have hsl := slice_s s (i + 1) e hb.1 hb.2
  have hlen := subS_len s (i + 1) e hb.2
  have e1 : IntKind.i64.wrap ((i : Int) + 1) = ((i + 1 : Nat) : Int) := by rw [wrap_i64 (by omega) (by omega)]; omega
  have hwe := word_end s hl (i + 1) (by omega)
  rw [← he] at hwe
  have hnm := N.refname_call (subS s (i + 1) e) (by rw [hlen]; omega)
  generalize subS s (i + 1) e = x at *
  rw [decide_eq_false h1] at hnm
  refine callFn_pure rfl rfl rfl at75 rfl (by simp [Tryd.f75]) (by simp [Tryd.f75]) (G_start ?_) σ
  simp -implicitDefEqProofs only [Tryd.f75, Zaa, Zab, Zac, Zad, Zae, Zaf, Zag, Zah, Zai, Zaj, Zak, Zal, Zam, Zan, Zao, Zap, Zaq, Zar, Zas, Zat, Zau, Zav, Zaw, Zax, Zay, Zaz, Zba, Zbb, Zbc, Zbd, Zbe, Zbf, Zbg, Zbh, Zbi, Zbj, Zbk, Zbl, Zbm, Zbn, Zbo, Zbp, Zbq, Zbr, Zbs, Zbt, Zbu, Zbv, Zbw, Zbx, Zby, Zbz, Zca, Zcb, Zcc, Zcd, Zce, Zcf, Zcg, evalT, Zch, Nat.reduceLT, Nat.reduceEqDiff, if_true, if_false, reduceIte, true_and, Zci, Zcj, map_ite', Zck, bind_ite', Zcl, Zcm, Zcn, Zco, Zcp, Zcq, Zcr, Zcs, Zct, Zcu, Zcv, Zcw, Zcx, Zcy, Zcz, Zda, Zdb, Zdc, Zdd, Zde, Zdf, Zdg, ofVal, ofCell, argT, List.getD_cons_zero, List.getD_cons_succ, List.getElem?_toArray, List.getElem?_cons_zero, List.getElem?_cons_succ, List.nil_append, List.cons_append, List.append_nil, resT, Zdh, Zdi, Nat.mul_one, Zdj, Zdk, Zdl, Zdm, Zdn, Zdo, Zdp, Zdq, Zdr, Zds, Zdt, setT, Zdu, Zdv, Zdw, Zdx, Zdy, List.append_eq, Zdz, Zea, Zeb, Zec, Zed, Zee, Zef, Zeg, Zeh, Nat.add_zero, Zei, Zej, Zek, Zel, Zem, Zen, Int.toNat_natCast, Bool.false_eq_true, Int.reduceEq, Int.reduceLT, Int.reduceLE, Int.reduceNeg, not_false_eq_true, and_self, Zeo, Zep, Int.natCast_one, Int.cast_ofNat_Int, not_true_eq_false, decide_true, decide_false, true_implies, false_implies, Int.toNat_zero, List.length_cons, List.length_nil, Nat.zero_add, mb, Nat.reduceBEq, Bool.false_and, Bool.and_false, Zeq, tys, stb, Zer, Zes, Zet, Zeu, Zev, Zew, Bool.or_false, Bool.false_or, Bool.true_and, Bool.or_true, Bool.true_or, Zex, Zey, storeList, List.take_zero, List.take_succ_cons, List.drop_zero, List.drop_succ_cons, List.drop_nil, List.all_cons, List.all_nil, List.set_cons_zero, List.set_cons_succ, cells_hsl, isCell_hsl, Nat.reduceAdd, Nat.reduceLeDiff, empty_mk, zv52, build52p, c2, len_str, opT_index, indexO_str u9, Int.toNat_natCast, hsm, fo520, fo521, fo522, aload9, aload3, ld52_0, ld52_1, opT_slice, optO_none, optO_some, Zeg, cellsStr, isCell_int, isCell_str, hdg, g39, e1, hwe, hsl, hnm]
  refine ⟨by kernel_rfl, ?_⟩
  simp only [oneOr, sealDepth, sealV_tup, sealV_agg, mapM_seal_cons, mapM_seal_nil, sealV_int, sealV_str, Option.bind_some, Option.map_some]
theorem rt_q1 (s : List UInt8) (hl : s.length ≤ 2 ^ 30) (i : Nat) (hi : i < s.length) (hc : clsN (s.getD i 0).toNat = 5) (e : Nat) (he : e = endW s [2, 3, 4] (i + 1)) (h1 : N.IsName (subS s (i + 1) e)) (h2 : ¬ e < s.length) : X75 s i ⟨4, subS s (i + 1) e, 0, i⟩ (e) (11) := by
  intro σ
  have c2 : (0 : Int) ≤ (i : Int) ∧ (i : Int) < (s.length : Int) := by omega
  have hsm := small_call (s.getD i 0)
  have hdg := digit_call (s.getD i 0)
  rw [decide_eq_false (fun h => by have := (cls2 _).2 h; rw [hc] at this; omega)] at hsm
  rw [decide_eq_false (fun h => by have := (cls3 _).2 h; rw [hc] at this; omega)] at hdg
  have g39 : (((s.getD i 0).toNat : Int) = 39) = True := eq_true (by have := (cls5 _).1 hc; omega)
  have hb := endW_le s [2, 3, 4] (i + 1) (by omega)
  rw [← he] at hb
  have hsl := slice_s s (i + 1) e hb.1 hb.2
  have hlen := subS_len s (i + 1) e hb.2
  have e1 : IntKind.i64.wrap ((i : Int) + 1) = ((i + 1 : Nat) : Int) := by rw [wrap_i64 (by omega) (by omega)]; omega
  have hwe := word_end s hl (i + 1) (by omega)
  rw [← he] at hwe
  have hnm := N.refname_call (subS s (i + 1) e) (by rw [hlen]; omega)
  generalize subS s (i + 1) e = x at *
  rw [decide_eq_true h1] at hnm
  have g1 : (s.length : Int) ≤ (e : Int) := by omega
  refine callFn_pure rfl rfl rfl at75 rfl (by simp [Tryd.f75]) (by simp [Tryd.f75]) (G_start ?_) σ
  simp -implicitDefEqProofs only [Tryd.f75, Zaa, Zab, Zac, Zad, Zae, Zaf, Zag, Zah, Zai, Zaj, Zak, Zal, Zam, Zan, Zao, Zap, Zaq, Zar, Zas, Zat, Zau, Zav, Zaw, Zax, Zay, Zaz, Zba, Zbb, Zbc, Zbd, Zbe, Zbf, Zbg, Zbh, Zbi, Zbj, Zbk, Zbl, Zbm, Zbn, Zbo, Zbp, Zbq, Zbr, Zbs, Zbt, Zbu, Zbv, Zbw, Zbx, Zby, Zbz, Zca, Zcb, Zcc, Zcd, Zce, Zcf, Zcg, evalT, Zch, Nat.reduceLT, Nat.reduceEqDiff, if_true, if_false, reduceIte, true_and, Zci, Zcj, map_ite', Zck, bind_ite', Zcl, Zcm, Zcn, Zco, Zcp, Zcq, Zcr, Zcs, Zct, Zcu, Zcv, Zcw, Zcx, Zcy, Zcz, Zda, Zdb, Zdc, Zdd, Zde, Zdf, Zdg, ofVal, ofCell, argT, List.getD_cons_zero, List.getD_cons_succ, List.getElem?_toArray, List.getElem?_cons_zero, List.getElem?_cons_succ, List.nil_append, List.cons_append, List.append_nil, resT, Zdh, Zdi, Nat.mul_one, Zdj, Zdk, Zdl, Zdm, Zdn, Zdo, Zdp, Zdq, Zdr, Zds, Zdt, setT, Zdu, Zdv, Zdw, Zdx, Zdy, List.append_eq, Zdz, Zea, Zeb, Zec, Zed, Zee, Zef, Zeg, Zeh, Nat.add_zero, Zei, Zej, Zek, Zel, Zem, Zen, Int.toNat_natCast, Bool.false_eq_true, Int.reduceEq, Int.reduceLT, Int.reduceLE, Int.reduceNeg, not_false_eq_true, and_self, Zeo, Zep, Int.natCast_one, Int.cast_ofNat_Int, not_true_eq_false, decide_true, decide_false, true_implies, false_implies, Int.toNat_zero, List.length_cons, List.length_nil, Nat.zero_add, mb, Nat.reduceBEq, Bool.false_and, Bool.and_false, Zeq, tys, stb, Zer, Zes, Zet, Zeu, Zev, Zew, Bool.or_false, Bool.false_or, Bool.true_and, Bool.or_true, Bool.true_or, Zex, Zey, storeList, List.take_zero, List.take_succ_cons, List.drop_zero, List.drop_succ_cons, List.drop_nil, List.all_cons, List.all_nil, List.set_cons_zero, List.set_cons_succ, cells_hsl, isCell_hsl, Nat.reduceAdd, Nat.reduceLeDiff, empty_mk, zv52, build52p, c2, len_str, opT_index, indexO_str u9, Int.toNat_natCast, hsm, fo520, fo521, fo522, aload9, aload3, ld52_0, ld52_1, opT_slice, optO_none, optO_some, Zeg, cellsStr, isCell_int, isCell_str, hdg, g39, e1, hwe, hsl, hnm, g1]
  refine ⟨by kernel_rfl, ?_⟩
  simp only [oneOr, sealDepth, sealV_tup, sealV_agg, mapM_seal_cons, mapM_seal_nil, sealV_int, sealV_str, Option.bind_some, Option.map_some]
theorem rt_q2 (s : List UInt8) (hl : s.length ≤ 2 ^ 30) (i : Nat) (hi : i < s.length) (hc : clsN (s.getD i 0).toNat = 5) (e : Nat) (he : e = endW s [2, 3, 4] (i + 1)) (h1 : N.IsName (subS s (i + 1) e)) (h2 : e < s.length) (h3 : ¬ (s.getD e 0).toNat = 39) : X75 s i ⟨4, subS s (i + 1) e, 0, i⟩ (e) (11) := by
  intro σ
  have c2 : (0 : Int) ≤ (i : Int) ∧ (i : Int) < (s.length : Int) := by omega
  have hsm := small_call (s.getD i 0)
  have hdg := digit_call (s.getD i 0)
  rw [decide_eq_false (fun h => by have := (cls2 _).2 h; rw [hc] at this; omega)] at hsm
  rw [decide_eq_false (fun h => by have := (cls3 _).2 h; rw [hc] at this; omega)] at hdg
  have g39 : (((s.getD i 0).toNat : Int) = 39) = True := eq_true (by have := (cls5 _).1 hc; omega)
  have hb := endW_le s [2, 3, 4] (i + 1) (by omega)
  rw [← he] at hb
  have hsl := slice_s s (i + 1) e hb.1 hb.2
  have hlen := subS_len s (i + 1) e hb.2
  have e1 : IntKind.i64.wrap ((i : Int) + 1) = ((i + 1 : Nat) : Int) := by rw [wrap_i64 (by omega) (by omega)]; omega
  have hwe := word_end s hl (i + 1) (by omega)
  rw [← he] at hwe
  have hnm := N.refname_call (subS s (i + 1) e) (by rw [hlen]; omega)
  generalize subS s (i + 1) e = x at *
  rw [decide_eq_true h1] at hnm
  have g1 : ¬ (s.length : Int) ≤ (e : Int) := by omega
  have c3 : (0 : Int) ≤ (e : Int) ∧ (e : Int) < (s.length : Int) := by omega
  have g2 : (((s.getD e 0).toNat : Int) = 39) = False := eq_false (by omega)
  refine callFn_pure rfl rfl rfl at75 rfl (by simp [Tryd.f75]) (by simp [Tryd.f75]) (G_start ?_) σ
  simp -implicitDefEqProofs only [Tryd.f75, Zaa, Zab, Zac, Zad, Zae, Zaf, Zag, Zah, Zai, Zaj, Zak, Zal, Zam, Zan, Zao, Zap, Zaq, Zar, Zas, Zat, Zau, Zav, Zaw, Zax, Zay, Zaz, Zba, Zbb, Zbc, Zbd, Zbe, Zbf, Zbg, Zbh, Zbi, Zbj, Zbk, Zbl, Zbm, Zbn, Zbo, Zbp, Zbq, Zbr, Zbs, Zbt, Zbu, Zbv, Zbw, Zbx, Zby, Zbz, Zca, Zcb, Zcc, Zcd, Zce, Zcf, Zcg, evalT, Zch, Nat.reduceLT, Nat.reduceEqDiff, if_true, if_false, reduceIte, true_and, Zci, Zcj, map_ite', Zck, bind_ite', Zcl, Zcm, Zcn, Zco, Zcp, Zcq, Zcr, Zcs, Zct, Zcu, Zcv, Zcw, Zcx, Zcy, Zcz, Zda, Zdb, Zdc, Zdd, Zde, Zdf, Zdg, ofVal, ofCell, argT, List.getD_cons_zero, List.getD_cons_succ, List.getElem?_toArray, List.getElem?_cons_zero, List.getElem?_cons_succ, List.nil_append, List.cons_append, List.append_nil, resT, Zdh, Zdi, Nat.mul_one, Zdj, Zdk, Zdl, Zdm, Zdn, Zdo, Zdp, Zdq, Zdr, Zds, Zdt, setT, Zdu, Zdv, Zdw, Zdx, Zdy, List.append_eq, Zdz, Zea, Zeb, Zec, Zed, Zee, Zef, Zeg, Zeh, Nat.add_zero, Zei, Zej, Zek, Zel, Zem, Zen, Int.toNat_natCast, Bool.false_eq_true, Int.reduceEq, Int.reduceLT, Int.reduceLE, Int.reduceNeg, not_false_eq_true, and_self, Zeo, Zep, Int.natCast_one, Int.cast_ofNat_Int, not_true_eq_false, decide_true, decide_false, true_implies, false_implies, Int.toNat_zero, List.length_cons, List.length_nil, Nat.zero_add, mb, Nat.reduceBEq, Bool.false_and, Bool.and_false, Zeq, tys, stb, Zer, Zes, Zet, Zeu, Zev, Zew, Bool.or_false, Bool.false_or, Bool.true_and, Bool.or_true, Bool.true_or, Zex, Zey, storeList, List.take_zero, List.take_succ_cons, List.drop_zero, List.drop_succ_cons, List.drop_nil, List.all_cons, List.all_nil, List.set_cons_zero, List.set_cons_succ, cells_hsl, isCell_hsl, Nat.reduceAdd, Nat.reduceLeDiff, empty_mk, zv52, build52p, c2, len_str, opT_index, indexO_str u9, Int.toNat_natCast, hsm, fo520, fo521, fo522, aload9, aload3, ld52_0, ld52_1, opT_slice, optO_none, optO_some, Zeg, cellsStr, isCell_int, isCell_str, hdg, g39, e1, hwe, hsl, hnm, g1, c3, g2]
  refine ⟨by kernel_rfl, ?_⟩
  simp only [oneOr, sealDepth, sealV_tup, sealV_agg, mapM_seal_cons, mapM_seal_nil, sealV_int, sealV_str, Option.bind_some, Option.map_some]
theorem rt_q3 (s : List UInt8) (hl : s.length ≤ 2 ^ 30) (i : Nat) (hi : i < s.length) (hc : clsN (s.getD i 0).toNat = 5) (e : Nat) (he : e = endW s [2, 3, 4] (i + 1)) (h1 : N.IsName (subS s (i + 1) e)) (h2 : e < s.length) (h3 : (s.getD e 0).toNat = 39) : X75 s i ⟨4, subS s (i + 1) e, 0, i⟩ (e + 1) (0) := by
  intro σ
  have c2 : (0 : Int) ≤ (i : Int) ∧ (i : Int) < (s.length : Int) := by omega
  have hsm := small_call (s.getD i 0)
  have hdg := digit_call (s.getD i 0)
  rw [decide_eq_false (fun h => by have := (cls2 _).2 h; rw [hc] at this; omega)] at hsm
  rw [decide_eq_false (fun h => by have := (cls3 _).2 h; rw [hc] at this; omega)] at hdg
  have g39 : (((s.getD i 0).toNat : Int) = 39) = True := eq_true (by have := (cls5 _).1 hc; omega)
  have hb := endW_le s [2, 3, 4] (i + 1) (by omega)
  rw [← he] at hb
  have hsl := slice_s s (i + 1) e hb.1 hb.2
  have hlen := subS_len s (i + 1) e hb.2
  have e1 : IntKind.i64.wrap ((i : Int) + 1) = ((i + 1 : Nat) : Int) := by rw [wrap_i64 (by omega) (by omega)]; omega
  have hwe := word_end s hl (i + 1) (by omega)
  rw [← he] at hwe
  have hnm := N.refname_call (subS s (i + 1) e) (by rw [hlen]; omega)
  generalize subS s (i + 1) e = x at *
  rw [decide_eq_true h1] at hnm
  have g1 : ¬ (s.length : Int) ≤ (e : Int) := by omega
  have c3 : (0 : Int) ≤ (e : Int) ∧ (e : Int) < (s.length : Int) := by omega
  have g2 : (((s.getD e 0).toNat : Int) = 39) = True := eq_true (by omega)
  have e3 : IntKind.i64.wrap ((e : Int) + 1) = ((e + 1 : Nat) : Int) := by rw [wrap_i64 (by omega) (by omega)]; omega
  refine callFn_pure rfl rfl rfl at75 rfl (by simp [Tryd.f75]) (by simp [Tryd.f75]) (G_start ?_) σ
  simp -implicitDefEqProofs only [Tryd.f75, Zaa, Zab, Zac, Zad, Zae, Zaf, Zag, Zah, Zai, Zaj, Zak, Zal, Zam, Zan, Zao, Zap, Zaq, Zar, Zas, Zat, Zau, Zav, Zaw, Zax, Zay, Zaz, Zba, Zbb, Zbc, Zbd, Zbe, Zbf, Zbg, Zbh, Zbi, Zbj, Zbk, Zbl, Zbm, Zbn, Zbo, Zbp, Zbq, Zbr, Zbs, Zbt, Zbu, Zbv, Zbw, Zbx, Zby, Zbz, Zca, Zcb, Zcc, Zcd, Zce, Zcf, Zcg, evalT, Zch, Nat.reduceLT, Nat.reduceEqDiff, if_true, if_false, reduceIte, true_and, Zci, Zcj, map_ite', Zck, bind_ite', Zcl, Zcm, Zcn, Zco, Zcp, Zcq, Zcr, Zcs, Zct, Zcu, Zcv, Zcw, Zcx, Zcy, Zcz, Zda, Zdb, Zdc, Zdd, Zde, Zdf, Zdg, ofVal, ofCell, argT, List.getD_cons_zero, List.getD_cons_succ, List.getElem?_toArray, List.getElem?_cons_zero, List.getElem?_cons_succ, List.nil_append, List.cons_append, List.append_nil, resT, Zdh, Zdi, Nat.mul_one, Zdj, Zdk, Zdl, Zdm, Zdn, Zdo, Zdp, Zdq, Zdr, Zds, Zdt, setT, Zdu, Zdv, Zdw, Zdx, Zdy, List.append_eq, Zdz, Zea, Zeb, Zec, Zed, Zee, Zef, Zeg, Zeh, Nat.add_zero, Zei, Zej, Zek, Zel, Zem, Zen, Int.toNat_natCast, Bool.false_eq_true, Int.reduceEq, Int.reduceLT, Int.reduceLE, Int.reduceNeg, not_false_eq_true, and_self, Zeo, Zep, Int.natCast_one, Int.cast_ofNat_Int, not_true_eq_false, decide_true, decide_false, true_implies, false_implies, Int.toNat_zero, List.length_cons, List.length_nil, Nat.zero_add, mb, Nat.reduceBEq, Bool.false_and, Bool.and_false, Zeq, tys, stb, Zer, Zes, Zet, Zeu, Zev, Zew, Bool.or_false, Bool.false_or, Bool.true_and, Bool.or_true, Bool.true_or, Zex, Zey, storeList, List.take_zero, List.take_succ_cons, List.drop_zero, List.drop_succ_cons, List.drop_nil, List.all_cons, List.all_nil, List.set_cons_zero, List.set_cons_succ, cells_hsl, isCell_hsl, Nat.reduceAdd, Nat.reduceLeDiff, empty_mk, zv52, build52p, c2, len_str, opT_index, indexO_str u9, Int.toNat_natCast, hsm, fo520, fo521, fo522, aload9, aload3, ld52_0, ld52_1, opT_slice, optO_none, optO_some, Zeg, cellsStr, isCell_int, isCell_str, hdg, g39, e1, hwe, hsl, hnm, g1, c3, g2, e3]
  refine ⟨by kernel_rfl, ?_⟩
  simp only [oneOr, sealDepth, sealV_tup, sealV_agg, mapM_seal_cons, mapM_seal_nil, sealV_int, sealV_str, Option.bind_some, Option.map_some]
theorem rt_s0 (s : List UInt8) (hl : s.length ≤ 2 ^ 30) (i : Nat) (hi : i < s.length) (k2 : ¬ clsN (s.getD i 0).toNat = 2) (k3 : ¬ clsN (s.getD i 0).toNat = 3) (k5 : ¬ clsN (s.getD i 0).toNat = 5) (x : List UInt8) (hx : (sgW s i 2).1 = x) (h : x = []) : X75 s i ⟨5, [], 0, i⟩ (i) (11) := by
  intro σ
  have c2 : (0 : Int) ≤ (i : Int) ∧ (i : Int) < (s.length : Int) := by omega
  have hsm := small_call (s.getD i 0)
  have hdg := digit_call (s.getD i 0)
  rw [decide_eq_false (fun h => k2 ((cls2 _).2 h))] at hsm
  rw [decide_eq_false (fun h => k3 ((cls3 _).2 h))] at hdg
  have g39 : (((s.getD i 0).toNat : Int) = 39) = False := eq_false (fun h => k5 ((cls5 _).2 (by omega)))
  have hsg := refsign_call s hl i (by omega)
  have hlen := sgW_len s i 2
  rw [hx] at hsg hlen
  subst h
  refine callFn_pure rfl rfl rfl at75 rfl (by simp [Tryd.f75]) (by simp [Tryd.f75]) (G_start ?_) σ
  simp -implicitDefEqProofs only [Tryd.f75, Zaa, Zab, Zac, Zad, Zae, Zaf, Zag, Zah, Zai, Zaj, Zak, Zal, Zam, Zan, Zao, Zap, Zaq, Zar, Zas, Zat, Zau, Zav, Zaw, Zax, Zay, Zaz, Zba, Zbb, Zbc, Zbd, Zbe, Zbf, Zbg, Zbh, Zbi, Zbj, Zbk, Zbl, Zbm, Zbn, Zbo, Zbp, Zbq, Zbr, Zbs, Zbt, Zbu, Zbv, Zbw, Zbx, Zby, Zbz, Zca, Zcb, Zcc, Zcd, Zce, Zcf, Zcg, evalT, Zch, Nat.reduceLT, Nat.reduceEqDiff, if_true, if_false, reduceIte, true_and, Zci, Zcj, map_ite', Zck, bind_ite', Zcl, Zcm, Zcn, Zco, Zcp, Zcq, Zcr, Zcs, Zct, Zcu, Zcv, Zcw, Zcx, Zcy, Zcz, Zda, Zdb, Zdc, Zdd, Zde, Zdf, Zdg, ofVal, ofCell, argT, List.getD_cons_zero, List.getD_cons_succ, List.getElem?_toArray, List.getElem?_cons_zero, List.getElem?_cons_succ, List.nil_append, List.cons_append, List.append_nil, resT, Zdh, Zdi, Nat.mul_one, Zdj, Zdk, Zdl, Zdm, Zdn, Zdo, Zdp, Zdq, Zdr, Zds, Zdt, setT, Zdu, Zdv, Zdw, Zdx, Zdy, List.append_eq, Zdz, Zea, Zeb, Zec, Zed, Zee, Zef, Zeg, Zeh, Nat.add_zero, Zei, Zej, Zek, Zel, Zem, Zen, Int.toNat_natCast, Bool.false_eq_true, Int.reduceEq, Int.reduceLT, Int.reduceLE, Int.reduceNeg, not_false_eq_true, and_self, Zeo, Zep, Int.natCast_one, Int.cast_ofNat_Int, not_true_eq_false, decide_true, decide_false, true_implies, false_implies, Int.toNat_zero, List.length_cons, List.length_nil, Nat.zero_add, mb, Nat.reduceBEq, Bool.false_and, Bool.and_false, Zeq, tys, stb, Zer, Zes, Zet, Zeu, Zev, Zew, Bool.or_false, Bool.false_or, Bool.true_and, Bool.or_true, Bool.true_or, Zex, Zey, storeList, List.take_zero, List.take_succ_cons, List.drop_zero, List.drop_succ_cons, List.drop_nil, List.all_cons, List.all_nil, List.set_cons_zero, List.set_cons_succ, cells_hsl, isCell_hsl, Nat.reduceAdd, Nat.reduceLeDiff, empty_mk, zv52, build52p, c2, len_str, opT_index, indexO_str u9, Int.toNat_natCast, hsm, fo520, fo521, fo522, aload9, aload3, ld52_0, ld52_1, opT_slice, optO_none, optO_some, Zeg, cellsStr, isCell_int, isCell_str, hdg, g39, hsg, vBin_seql]
  simp only [oneOr, sealDepth, sealV_tup, sealV_agg, mapM_seal_cons, mapM_seal_nil, sealV_int, sealV_str, Option.bind_some, Option.map_some]
theorem rt_d0 (s : List UInt8) (hl : s.length ≤ 2 ^ 30) (i : Nat) (hi : i < s.length) (hc : clsN (s.getD i 0).toNat = 3) (e : Nat) (he : e = endW s [3] i) (h1 : (s.getD i 0).toNat = 48) (h2 : i + 1 < e) : X75 s i ⟨3, subS s i e, valueN (subS s i e), i⟩ (e) (11) := by
  intro σ
  have c2 : (0 : Int) ≤ (i : Int) ∧ (i : Int) < (s.length : Int) := by omega
  have hsm := small_call (s.getD i 0)
  have hdg := digit_call (s.getD i 0)
  rw [decide_eq_false (fun h => by have := (cls2 _).2 h; rw [hc] at this; omega)] at hsm
  rw [decide_eq_true ((cls3 _).1 hc)] at hdg
  have hb := endW_le s [3] i (by omega)
  have hb2 := endW_lt s [3] i hi (by rw [hc]; decide)
  have hdd := digits_dg s i (by omega)
  rw [← he] at hb hb2 hdd
  have hsl := slice_s s i e hb.1 hb.2
  have hlen := subS_len s i e hb.2
  have e1 : IntKind.i64.wrap ((i : Int) + 1) = ((i + 1 : Nat) : Int) := by rw [wrap_i64 (by omega) (by omega)]; omega
  have hne := number_end s hl i (by omega)
  rw [← he] at hne
  have hval := value_call (subS s i e) hdd (by omega)
  generalize subS s i e = x at *
  have g48 : (((s.getD i 0).toNat : Int) = 48) = True := eq_true (by omega)
  have gl : ((i + 1 : Nat) : Int) < (e : Int) := by omega
  refine callFn_pure rfl rfl rfl at75 rfl (by simp [Tryd.f75]) (by simp [Tryd.f75]) (G_start ?_) σ
  simp -implicitDefEqProofs only [Tryd.f75, Zaa, Zab, Zac, Zad, Zae, Zaf, Zag, Zah, Zai, Zaj, Zak, Zal, Zam, Zan, Zao, Zap, Zaq, Zar, Zas, Zat, Zau, Zav, Zaw, Zax, Zay, Zaz, Zba, Zbb, Zbc, Zbd, Zbe, Zbf, Zbg, Zbh, Zbi, Zbj, Zbk, Zbl, Zbm, Zbn, Zbo, Zbp, Zbq, Zbr, Zbs, Zbt, Zbu, Zbv, Zbw, Zbx, Zby, Zbz, Zca, Zcb, Zcc, Zcd, Zce, Zcf, Zcg, evalT, Zch, Nat.reduceLT, Nat.reduceEqDiff, if_true, if_false, reduceIte, true_and, Zci, Zcj, map_ite', Zck, bind_ite', Zcl, Zcm, Zcn, Zco, Zcp, Zcq, Zcr, Zcs, Zct, Zcu, Zcv, Zcw, Zcx, Zcy, Zcz, Zda, Zdb, Zdc, Zdd, Zde, Zdf, Zdg, ofVal, ofCell, argT, List.getD_cons_zero, List.getD_cons_succ, List.getElem?_toArray, List.getElem?_cons_zero, List.getElem?_cons_succ, List.nil_append, List.cons_append, List.append_nil, resT, Zdh, Zdi, Nat.mul_one, Zdj, Zdk, Zdl, Zdm, Zdn, Zdo, Zdp, Zdq, Zdr, Zds, Zdt, setT, Zdu, Zdv, Zdw, Zdx, Zdy, List.append_eq, Zdz, Zea, Zeb, Zec, Zed, Zee, Zef, Zeg, Zeh, Nat.add_zero, Zei, Zej, Zek, Zel, Zem, Zen, Int.toNat_natCast, Bool.false_eq_true, Int.reduceEq, Int.reduceLT, Int.reduceLE, Int.reduceNeg, not_false_eq_true, and_self, Zeo, Zep, Int.natCast_one, Int.cast_ofNat_Int, not_true_eq_false, decide_true, decide_false, true_implies, false_implies, Int.toNat_zero, List.length_cons, List.length_nil, Nat.zero_add, mb, Nat.reduceBEq, Bool.false_and, Bool.and_false, Zeq, tys, stb, Zer, Zes, Zet, Zeu, Zev, Zew, Bool.or_false, Bool.false_or, Bool.true_and, Bool.or_true, Bool.true_or, Zex, Zey, storeList, List.take_zero, List.take_succ_cons, List.drop_zero, List.drop_succ_cons, List.drop_nil, List.all_cons, List.all_nil, List.set_cons_zero, List.set_cons_succ, cells_hsl, isCell_hsl, Nat.reduceAdd, Nat.reduceLeDiff, empty_mk, zv52, build52p, c2, len_str, opT_index, indexO_str u9, Int.toNat_natCast, hsm, fo520, fo521, fo522, aload9, aload3, ld52_0, ld52_1, opT_slice, optO_none, optO_some, Zeg, cellsStr, isCell_int, isCell_str, hdg, hne, hsl, hval, e1, g48, gl]
  refine ⟨by kernel_rfl, ?_⟩
  simp only [oneOr, sealDepth, sealV_tup, sealV_agg, mapM_seal_cons, mapM_seal_nil, sealV_int, sealV_str, Option.bind_some, Option.map_some]
theorem rt_d0a (s : List UInt8) (hl : s.length ≤ 2 ^ 30) (i : Nat) (hi : i < s.length) (hc : clsN (s.getD i 0).toNat = 3) (e : Nat) (he : e = endW s [3] i) (h1 : ¬ (s.getD i 0).toNat = 48) (h3 : ¬ 1000000000 < valueN (subS s i e)) : X75 s i ⟨3, subS s i e, valueN (subS s i e), i⟩ (e) (0) := by
  intro σ
  have c2 : (0 : Int) ≤ (i : Int) ∧ (i : Int) < (s.length : Int) := by omega
  have hsm := small_call (s.getD i 0)
  have hdg := digit_call (s.getD i 0)
  rw [decide_eq_false (fun h => by have := (cls2 _).2 h; rw [hc] at this; omega)] at hsm
  rw [decide_eq_true ((cls3 _).1 hc)] at hdg
  have hb := endW_le s [3] i (by omega)
  have hb2 := endW_lt s [3] i hi (by rw [hc]; decide)
  have hdd := digits_dg s i (by omega)
  rw [← he] at hb hb2 hdd
  have hsl := slice_s s i e hb.1 hb.2
  have hlen := subS_len s i e hb.2
  have e1 : IntKind.i64.wrap ((i : Int) + 1) = ((i + 1 : Nat) : Int) := by rw [wrap_i64 (by omega) (by omega)]; omega
  have hne := number_end s hl i (by omega)
  rw [← he] at hne
  have hval := value_call (subS s i e) hdd (by omega)
  generalize subS s i e = x at *
  have g48 : (((s.getD i 0).toNat : Int) = 48) = False := eq_false (by omega)
  have gv : ¬ (1000000000 : Int) < (valueN x : Int) := by omega
  refine callFn_pure rfl rfl rfl at75 rfl (by simp [Tryd.f75]) (by simp [Tryd.f75]) (G_start ?_) σ
  simp -implicitDefEqProofs only [Tryd.f75, Zaa, Zab, Zac, Zad, Zae, Zaf, Zag, Zah, Zai, Zaj, Zak, Zal, Zam, Zan, Zao, Zap, Zaq, Zar, Zas, Zat, Zau, Zav, Zaw, Zax, Zay, Zaz, Zba, Zbb, Zbc, Zbd, Zbe, Zbf, Zbg, Zbh, Zbi, Zbj, Zbk, Zbl, Zbm, Zbn, Zbo, Zbp, Zbq, Zbr, Zbs, Zbt, Zbu, Zbv, Zbw, Zbx, Zby, Zbz, Zca, Zcb, Zcc, Zcd, Zce, Zcf, Zcg, evalT, Zch, Nat.reduceLT, Nat.reduceEqDiff, if_true, if_false, reduceIte, true_and, Zci, Zcj, map_ite', Zck, bind_ite', Zcl, Zcm, Zcn, Zco, Zcp, Zcq, Zcr, Zcs, Zct, Zcu, Zcv, Zcw, Zcx, Zcy, Zcz, Zda, Zdb, Zdc, Zdd, Zde, Zdf, Zdg, ofVal, ofCell, argT, List.getD_cons_zero, List.getD_cons_succ, List.getElem?_toArray, List.getElem?_cons_zero, List.getElem?_cons_succ, List.nil_append, List.cons_append, List.append_nil, resT, Zdh, Zdi, Nat.mul_one, Zdj, Zdk, Zdl, Zdm, Zdn, Zdo, Zdp, Zdq, Zdr, Zds, Zdt, setT, Zdu, Zdv, Zdw, Zdx, Zdy, List.append_eq, Zdz, Zea, Zeb, Zec, Zed, Zee, Zef, Zeg, Zeh, Nat.add_zero, Zei, Zej, Zek, Zel, Zem, Zen, Int.toNat_natCast, Bool.false_eq_true, Int.reduceEq, Int.reduceLT, Int.reduceLE, Int.reduceNeg, not_false_eq_true, and_self, Zeo, Zep, Int.natCast_one, Int.cast_ofNat_Int, not_true_eq_false, decide_true, decide_false, true_implies, false_implies, Int.toNat_zero, List.length_cons, List.length_nil, Nat.zero_add, mb, Nat.reduceBEq, Bool.false_and, Bool.and_false, Zeq, tys, stb, Zer, Zes, Zet, Zeu, Zev, Zew, Bool.or_false, Bool.false_or, Bool.true_and, Bool.or_true, Bool.true_or, Zex, Zey, storeList, List.take_zero, List.take_succ_cons, List.drop_zero, List.drop_succ_cons, List.drop_nil, List.all_cons, List.all_nil, List.set_cons_zero, List.set_cons_succ, cells_hsl, isCell_hsl, Nat.reduceAdd, Nat.reduceLeDiff, empty_mk, zv52, build52p, c2, len_str, opT_index, indexO_str u9, Int.toNat_natCast, hsm, fo520, fo521, fo522, aload9, aload3, ld52_0, ld52_1, opT_slice, optO_none, optO_some, Zeg, cellsStr, isCell_int, isCell_str, hdg, hne, hsl, hval, e1, g48, gv]
  refine ⟨by kernel_rfl, ?_⟩
  simp only [oneOr, sealDepth, sealV_tup, sealV_agg, mapM_seal_cons, mapM_seal_nil, sealV_int, sealV_str, Option.bind_some, Option.map_some]
theorem rt_d0b (s : List UInt8) (hl : s.length ≤ 2 ^ 30) (i : Nat) (hi : i < s.length) (hc : clsN (s.getD i 0).toNat = 3) (e : Nat) (he : e = endW s [3] i) (h1 : (s.getD i 0).toNat = 48) (h2 : ¬ i + 1 < e) (h3 : ¬ 1000000000 < valueN (subS s i e)) : X75 s i ⟨3, subS s i e, valueN (subS s i e), i⟩ (e) (0) := by
  intro σ
  have c2 : (0 : Int) ≤ (i : Int) ∧ (i : Int) < (s.length : Int) := by omega
  have hsm := small_call (s.getD i 0)
  have hdg := digit_call (s.getD i 0)
  rw [decide_eq_false (fun h => by have := (cls2 _).2 h; rw [hc] at this; omega)] at hsm
  rw [decide_eq_true ((cls3 _).1 hc)] at hdg
  have hb := endW_le s [3] i (by omega)
  have hb2 := endW_lt s [3] i hi (by rw [hc]; decide)
  have hdd := digits_dg s i (by omega)
  rw [← he] at hb hb2 hdd
  have hsl := slice_s s i e hb.1 hb.2
  have hlen := subS_len s i e hb.2
  have e1 : IntKind.i64.wrap ((i : Int) + 1) = ((i + 1 : Nat) : Int) := by rw [wrap_i64 (by omega) (by omega)]; omega
  have hne := number_end s hl i (by omega)
  rw [← he] at hne
  have hval := value_call (subS s i e) hdd (by omega)
  generalize subS s i e = x at *
  have g48 : (((s.getD i 0).toNat : Int) = 48) = True := eq_true (by omega)
  have gl : ¬ ((i + 1 : Nat) : Int) < (e : Int) := by omega
  have gv : ¬ (1000000000 : Int) < (valueN x : Int) := by omega
  refine callFn_pure rfl rfl rfl at75 rfl (by simp [Tryd.f75]) (by simp [Tryd.f75]) (G_start ?_) σ
  simp -implicitDefEqProofs only [Tryd.f75, Zaa, Zab, Zac, Zad, Zae, Zaf, Zag, Zah, Zai, Zaj, Zak, Zal, Zam, Zan, Zao, Zap, Zaq, Zar, Zas, Zat, Zau, Zav, Zaw, Zax, Zay, Zaz, Zba, Zbb, Zbc, Zbd, Zbe, Zbf, Zbg, Zbh, Zbi, Zbj, Zbk, Zbl, Zbm, Zbn, Zbo, Zbp, Zbq, Zbr, Zbs, Zbt, Zbu, Zbv, Zbw, Zbx, Zby, Zbz, Zca, Zcb, Zcc, Zcd, Zce, Zcf, Zcg, evalT, Zch, Nat.reduceLT, Nat.reduceEqDiff, if_true, if_false, reduceIte, true_and, Zci, Zcj, map_ite', Zck, bind_ite', Zcl, Zcm, Zcn, Zco, Zcp, Zcq, Zcr, Zcs, Zct, Zcu, Zcv, Zcw, Zcx, Zcy, Zcz, Zda, Zdb, Zdc, Zdd, Zde, Zdf, Zdg, ofVal, ofCell, argT, List.getD_cons_zero, List.getD_cons_succ, List.getElem?_toArray, List.getElem?_cons_zero, List.getElem?_cons_succ, List.nil_append, List.cons_append, List.append_nil, resT, Zdh, Zdi, Nat.mul_one, Zdj, Zdk, Zdl, Zdm, Zdn, Zdo, Zdp, Zdq, Zdr, Zds, Zdt, setT, Zdu, Zdv, Zdw, Zdx, Zdy, List.append_eq, Zdz, Zea, Zeb, Zec, Zed, Zee, Zef, Zeg, Zeh, Nat.add_zero, Zei, Zej, Zek, Zel, Zem, Zen, Int.toNat_natCast, Bool.false_eq_true, Int.reduceEq, Int.reduceLT, Int.reduceLE, Int.reduceNeg, not_false_eq_true, and_self, Zeo, Zep, Int.natCast_one, Int.cast_ofNat_Int, not_true_eq_false, decide_true, decide_false, true_implies, false_implies, Int.toNat_zero, List.length_cons, List.length_nil, Nat.zero_add, mb, Nat.reduceBEq, Bool.false_and, Bool.and_false, Zeq, tys, stb, Zer, Zes, Zet, Zeu, Zev, Zew, Bool.or_false, Bool.false_or, Bool.true_and, Bool.or_true, Bool.true_or, Zex, Zey, storeList, List.take_zero, List.take_succ_cons, List.drop_zero, List.drop_succ_cons, List.drop_nil, List.all_cons, List.all_nil, List.set_cons_zero, List.set_cons_succ, cells_hsl, isCell_hsl, Nat.reduceAdd, Nat.reduceLeDiff, empty_mk, zv52, build52p, c2, len_str, opT_index, indexO_str u9, Int.toNat_natCast, hsm, fo520, fo521, fo522, aload9, aload3, ld52_0, ld52_1, opT_slice, optO_none, optO_some, Zeg, cellsStr, isCell_int, isCell_str, hdg, hne, hsl, hval, e1, g48, gl, gv]
  refine ⟨by kernel_rfl, ?_⟩
  simp only [oneOr, sealDepth, sealV_tup, sealV_agg, mapM_seal_cons, mapM_seal_nil, sealV_int, sealV_str, Option.bind_some, Option.map_some]
theorem rt_d1a (s : List UInt8) (hl : s.length ≤ 2 ^ 30) (i : Nat) (hi : i < s.length) (hc : clsN (s.getD i 0).toNat = 3) (e : Nat) (he : e = endW s [3] i) (h1 : ¬ (s.getD i 0).toNat = 48) (h3 : 1000000000 < valueN (subS s i e)) : X75 s i ⟨3, subS s i e, valueN (subS s i e), i⟩ (e) (2) := by
  intro σ
  have c2 : (0 : Int) ≤ (i : Int) ∧ (i : Int) < (s.length : Int) := by omega
  have hsm := small_call (s.getD i 0)
  have hdg := digit_call (s.getD i 0)
  rw [decide_eq_false (fun h => by have := (cls2 _).2 h; rw [hc] at this; omega)] at hsm
  rw [decide_eq_true ((cls3 _).1 hc)] at hdg
  have hb := endW_le s [3] i (by omega)
  have hb2 := endW_lt s [3] i hi (by rw [hc]; decide)
  have hdd := digits_dg s i (by omega)
  rw [← he] at hb hb2 hdd
  have hsl := slice_s s i e hb.1 hb.2
  have hlen := subS_len s i e hb.2
  have e1 : IntKind.i64.wrap ((i : Int) + 1) = ((i + 1 : Nat) : Int) := by rw [wrap_i64 (by omega) (by omega)]; omega
  have hne := number_end s hl i (by omega)
  rw [← he] at hne
  have hval := value_call (subS s i e) hdd (by omega)
  generalize subS s i e = x at *
  have g48 : (((s.getD i 0).toNat : Int) = 48) = False := eq_false (by omega)
  have gv : (1000000000 : Int) < (valueN x : Int) := by omega
  refine callFn_pure rfl rfl rfl at75 rfl (by simp [Tryd.f75]) (by simp [Tryd.f75]) (G_start ?_) σ
  simp -implicitDefEqProofs only [Tryd.f75, Zaa, Zab, Zac, Zad, Zae, Zaf, Zag, Zah, Zai, Zaj, Zak, Zal, Zam, Zan, Zao, Zap, Zaq, Zar, Zas, Zat, Zau, Zav, Zaw, Zax, Zay, Zaz, Zba, Zbb, Zbc, Zbd, Zbe, Zbf, Zbg, Zbh, Zbi, Zbj, Zbk, Zbl, Zbm, Zbn, Zbo, Zbp, Zbq, Zbr, Zbs, Zbt, Zbu, Zbv, Zbw, Zbx, Zby, Zbz, Zca, Zcb, Zcc, Zcd, Zce, Zcf, Zcg, evalT, Zch, Nat.reduceLT, Nat.reduceEqDiff, if_true, if_false, reduceIte, true_and, Zci, Zcj, map_ite', Zck, bind_ite', Zcl, Zcm, Zcn, Zco, Zcp, Zcq, Zcr, Zcs, Zct, Zcu, Zcv, Zcw, Zcx, Zcy, Zcz, Zda, Zdb, Zdc, Zdd, Zde, Zdf, Zdg, ofVal, ofCell, argT, List.getD_cons_zero, List.getD_cons_succ, List.getElem?_toArray, List.getElem?_cons_zero, List.getElem?_cons_succ, List.nil_append, List.cons_append, List.append_nil, resT, Zdh, Zdi, Nat.mul_one, Zdj, Zdk, Zdl, Zdm, Zdn, Zdo, Zdp, Zdq, Zdr, Zds, Zdt, setT, Zdu, Zdv, Zdw, Zdx, Zdy, List.append_eq, Zdz, Zea, Zeb, Zec, Zed, Zee, Zef, Zeg, Zeh, Nat.add_zero, Zei, Zej, Zek, Zel, Zem, Zen, Int.toNat_natCast, Bool.false_eq_true, Int.reduceEq, Int.reduceLT, Int.reduceLE, Int.reduceNeg, not_false_eq_true, and_self, Zeo, Zep, Int.natCast_one, Int.cast_ofNat_Int, not_true_eq_false, decide_true, decide_false, true_implies, false_implies, Int.toNat_zero, List.length_cons, List.length_nil, Nat.zero_add, mb, Nat.reduceBEq, Bool.false_and, Bool.and_false, Zeq, tys, stb, Zer, Zes, Zet, Zeu, Zev, Zew, Bool.or_false, Bool.false_or, Bool.true_and, Bool.or_true, Bool.true_or, Zex, Zey, storeList, List.take_zero, List.take_succ_cons, List.drop_zero, List.drop_succ_cons, List.drop_nil, List.all_cons, List.all_nil, List.set_cons_zero, List.set_cons_succ, cells_hsl, isCell_hsl, Nat.reduceAdd, Nat.reduceLeDiff, empty_mk, zv52, build52p, c2, len_str, opT_index, indexO_str u9, Int.toNat_natCast, hsm, fo520, fo521, fo522, aload9, aload3, ld52_0, ld52_1, opT_slice, optO_none, optO_some, Zeg, cellsStr, isCell_int, isCell_str, hdg, hne, hsl, hval, e1, g48, gv]
  refine ⟨by kernel_rfl, ?_⟩
  simp only [oneOr, sealDepth, sealV_tup, sealV_agg, mapM_seal_cons, mapM_seal_nil, sealV_int, sealV_str, Option.bind_some, Option.map_some]
theorem rt_d1b (s : List UInt8) (hl : s.length ≤ 2 ^ 30) (i : Nat) (hi : i < s.length) (hc : clsN (s.getD i 0).toNat = 3) (e : Nat) (he : e = endW s [3] i) (h1 : (s.getD i 0).toNat = 48) (h2 : ¬ i + 1 < e) (h3 : 1000000000 < valueN (subS s i e)) : X75 s i ⟨3, subS s i e, valueN (subS s i e), i⟩ (e) (2) := by
  intro σ
  have c2 : (0 : Int) ≤ (i : Int) ∧ (i : Int) < (s.length : Int) := by omega
  have hsm := small_call (s.getD i 0)
  have hdg := digit_call (s.getD i 0)
  rw [decide_eq_false (fun h => by have := (cls2 _).2 h; rw [hc] at this; omega)] at hsm
  rw [decide_eq_true ((cls3 _).1 hc)] at hdg
  have hb := endW_le s [3] i (by omega)
  have hb2 := endW_lt s [3] i hi (by rw [hc]; decide)
  have hdd := digits_dg s i (by omega)
  rw [← he] at hb hb2 hdd
  have hsl := slice_s s i e hb.1 hb.2
  have hlen := subS_len s i e hb.2
  have e1 : IntKind.i64.wrap ((i : Int) + 1) = ((i + 1 : Nat) : Int) := by rw [wrap_i64 (by omega) (by omega)]; omega
  have hne := number_end s hl i (by omega)
  rw [← he] at hne
  have hval := value_call (subS s i e) hdd (by omega)
  generalize subS s i e = x at *
  have g48 : (((s.getD i 0).toNat : Int) = 48) = True := eq_true (by omega)
  have gl : ¬ ((i + 1 : Nat) : Int) < (e : Int) := by omega
  have gv : (1000000000 : Int) < (valueN x : Int) := by omega
  refine callFn_pure rfl rfl rfl at75 rfl (by simp [Tryd.f75]) (by simp [Tryd.f75]) (G_start ?_) σ
  simp -implicitDefEqProofs only [Tryd.f75, Zaa, Zab, Zac, Zad, Zae, Zaf, Zag, Zah, Zai, Zaj, Zak, Zal, Zam, Zan, Zao, Zap, Zaq, Zar, Zas, Zat, Zau, Zav, Zaw, Zax, Zay, Zaz, Zba, Zbb, Zbc, Zbd, Zbe, Zbf, Zbg, Zbh, Zbi, Zbj, Zbk, Zbl, Zbm, Zbn, Zbo, Zbp, Zbq, Zbr, Zbs, Zbt, Zbu, Zbv, Zbw, Zbx, Zby, Zbz, Zca, Zcb, Zcc, Zcd, Zce, Zcf, Zcg, evalT, Zch, Nat.reduceLT, Nat.reduceEqDiff, if_true, if_false, reduceIte, true_and, Zci, Zcj, map_ite', Zck, bind_ite', Zcl, Zcm, Zcn, Zco, Zcp, Zcq, Zcr, Zcs, Zct, Zcu, Zcv, Zcw, Zcx, Zcy, Zcz, Zda, Zdb, Zdc, Zdd, Zde, Zdf, Zdg, ofVal, ofCell, argT, List.getD_cons_zero, List.getD_cons_succ, List.getElem?_toArray, List.getElem?_cons_zero, List.getElem?_cons_succ, List.nil_append, List.cons_append, List.append_nil, resT, Zdh, Zdi, Nat.mul_one, Zdj, Zdk, Zdl, Zdm, Zdn, Zdo, Zdp, Zdq, Zdr, Zds, Zdt, setT, Zdu, Zdv, Zdw, Zdx, Zdy, List.append_eq, Zdz, Zea, Zeb, Zec, Zed, Zee, Zef, Zeg, Zeh, Nat.add_zero, Zei, Zej, Zek, Zel, Zem, Zen, Int.toNat_natCast, Bool.false_eq_true, Int.reduceEq, Int.reduceLT, Int.reduceLE, Int.reduceNeg, not_false_eq_true, and_self, Zeo, Zep, Int.natCast_one, Int.cast_ofNat_Int, not_true_eq_false, decide_true, decide_false, true_implies, false_implies, Int.toNat_zero, List.length_cons, List.length_nil, Nat.zero_add, mb, Nat.reduceBEq, Bool.false_and, Bool.and_false, Zeq, tys, stb, Zer, Zes, Zet, Zeu, Zev, Zew, Bool.or_false, Bool.false_or, Bool.true_and, Bool.or_true, Bool.true_or, Zex, Zey, storeList, List.take_zero, List.take_succ_cons, List.drop_zero, List.drop_succ_cons, List.drop_nil, List.all_cons, List.all_nil, List.set_cons_zero, List.set_cons_succ, cells_hsl, isCell_hsl, Nat.reduceAdd, Nat.reduceLeDiff, empty_mk, zv52, build52p, c2, len_str, opT_index, indexO_str u9, Int.toNat_natCast, hsm, fo520, fo521, fo522, aload9, aload3, ld52_0, ld52_1, opT_slice, optO_none, optO_some, Zeg, cellsStr, isCell_int, isCell_str, hdg, hne, hsl, hval, e1, g48, gl, gv]
  refine ⟨by kernel_rfl, ?_⟩
  simp only [oneOr, sealDepth, sealV_tup, sealV_agg, mapM_seal_cons, mapM_seal_nil, sealV_int, sealV_str, Option.bind_some, Option.map_some]

end Go.Proofs.YtbikmhpobflfeaaDoor
namespace Go.Proofs.YtbikmhpobflfeaaDoor
open Go.Ab
set_option maxRecDepth 100000
set_option linter.unusedSimpArgs false
set_option linter.unusedVariables false
theorem sc_len9 (x : Operand) : scOp env (.call ⟨.builtin .len, #[x], #[9]⟩) = false := by kernel_rfl
theorem K1_ld {s : S} {a b c d : V} (h : s.heap[1]? = some (.cells [a, b, c, d] 52)) : aload env s.heap 52 (.ptr 1 0) = some (.agg [a, b, c, d]) := by
  have l : loadCellsV s.heap 4 (.ptr 1 0) = some [a, b, c, d] := load4_ptr (t := 52) h
  have g : Go.Ab.aggT env 52 = some true := by kernel_rfl
  unfold aload
  simp only [s52, g, l, Option.bind_some, Option.map_some]
theorem rt_s1 (s : List UInt8) (hl : s.length ≤ 2 ^ 30) (i : Nat) (hi : i < s.length) (k2 : ¬ clsN (s.getD i 0).toNat = 2) (k3 : ¬ clsN (s.getD i 0).toNat = 3) (k5 : ¬ clsN (s.getD i 0).toNat = 5) (x : List UInt8) (hx : (sgW s i 2).1 = x) (h : x ≠ []) : X75 s i ⟨5, x, 0, i⟩ (i + x.length) 0 := by
  intro σ
  have c2 : (0 : Int) ≤ (i : Int) ∧ (i : Int) < (s.length : Int) := by omega
  have hsm := small_call (s.getD i 0)
  have hdg := digit_call (s.getD i 0)
  rw [decide_eq_false (fun h => k2 ((cls2 _).2 h))] at hsm
  rw [decide_eq_false (fun h => k3 ((cls3 _).2 h))] at hdg
  have g39 : (((s.getD i 0).toNat : Int) = 39) = False := eq_false (fun h => k5 ((cls5 _).2 (by omega)))
  have hsg := refsign_call s hl i (by omega)
  have hlen := sgW_len s i 2
  rw [hx] at hsg hlen
  have hne : (x = []) = False := eq_false h
  have e1 : IntKind.i64.wrap ((i : Int) + (x.length : Int)) = ((i + x.length : Nat) : Int) := by rw [wrap_i64 (by omega) (by omega)]; omega
  refine callFn_pure rfl rfl rfl at75 rfl (by simp [Tryd.f75]) (by simp [Tryd.f75]) (G_start ?_) σ
  simp -implicitDefEqProofs only [Tryd.f75, Zaa, Zab, Zac, Zad, Zae, Zaf, Zag, Zah, Zai, Zaj, Zak, Zal, Zam, Zan, Zao, Zap, Zaq, Zar, Zas, Zat, Zau, Zav, Zaw, Zax, Zay, Zaz, Zba, Zbb, Zbc, Zbd, Zbe, Zbf, Zbg, Zbh, Zbi, Zbj, Zbk, Zbl, Zbm, Zbn, Zbo, Zbp, Zbq, Zbr, Zbs, Zbt, Zbu, Zbv, Zbw, Zbx, Zby, Zbz, Zca, Zcb, Zcc, Zcd, Zce, Zcf, Zcg, evalT, Zch, Nat.reduceLT, Nat.reduceEqDiff, if_true, if_false, reduceIte, true_and, Zci, Zcj, map_ite', Zck, bind_ite', Zcl, Zcm, Zcn, Zco, Zcp, Zcq, Zcr, Zcs, Zct, Zcu, Zcv, Zcw, Zcx, Zcy, Zcz, Zda, Zdb, Zdc, Zdd, Zde, Zdf, Zdg, ofVal, ofCell, argT, List.getD_cons_zero, List.getD_cons_succ, List.getElem?_toArray, List.getElem?_cons_zero, List.getElem?_cons_succ, List.nil_append, List.cons_append, List.append_nil, resT, Zdh, Zdi, Nat.mul_one, Zdj, Zdk, Zdl, Zdm, Zdn, Zdo, Zdp, Zdq, Zdr, Zds, Zdt, setT, Zdu, Zdv, Zdw, Zdx, Zdy, List.append_eq, Zdz, Zea, Zeb, Zec, Zed, Zee, Zef, Zeg, Zeh, Nat.add_zero, Zei, Zej, Zek, Zel, Zem, Zen, Int.toNat_natCast, Bool.false_eq_true, Int.reduceEq, Int.reduceLT, Int.reduceLE, Int.reduceNeg, not_false_eq_true, and_self, Zeo, Zep, Int.natCast_one, Int.cast_ofNat_Int, not_true_eq_false, decide_true, decide_false, true_implies, false_implies, Int.toNat_zero, List.length_cons, List.length_nil, Nat.zero_add, mb, Nat.reduceBEq, Bool.false_and, Bool.and_false, Zeq, tys, stb, Zer, Zes, Zet, Zeu, Zev, Zew, Bool.or_false, Bool.false_or, Bool.true_and, Bool.or_true, Bool.true_or, Zex, Zey, storeList, List.take_zero, List.take_succ_cons, List.drop_zero, List.drop_succ_cons, List.drop_nil, List.all_cons, List.all_nil, List.set_cons_zero, List.set_cons_succ, cells_hsl, isCell_hsl, Nat.reduceAdd, Nat.reduceLeDiff, empty_mk, zv52, build52p, c2, len_str, opT_index, indexO_str u9, Int.toNat_natCast, hsm, fo520, fo521, fo522, aload9, aload3, ld52_0, ld52_1, opT_slice, optO_none, optO_some, Zeg, cellsStr, isCell_int, isCell_str, hdg, g39, hsg, vBin_seql, hne]
  refine G_stab rfl (fun s => s.heap[1]? = some (.cells [.int .i64 5, .str x, .int .i64 0, .int .i64 i] 52)) rfl (by kernel_rfl) ?_
  simp -implicitDefEqProofs only [Tryd.f75, Zaa, Zab, Zac, Zad, Zae, Zaf, Zag, Zah, Zai, Zaj, Zak, Zal, Zam, Zan, Zao, Zap, Zaq, Zar, Zas, Zat, Zau, Zav, Zaw, Zax, Zay, Zaz, Zba, Zbb, Zbc, Zbd, Zbe, Zbf, Zbg, Zbh, Zbi, Zbj, Zbk, Zbl, Zbm, Zbn, Zbo, Zbp, Zbq, Zbr, Zbs, Zbt, Zbu, Zbv, Zbw, Zbx, Zby, Zbz, Zca, Zcb, Zcc, Zcd, Zce, Zcf, Zcg, evalT, Zch, Nat.reduceLT, Nat.reduceEqDiff, if_true, if_false, reduceIte, true_and, Zci, Zcj, map_ite', Zck, bind_ite', Zcl, Zcm, Zcn, Zco, Zcp, Zcq, Zcr, Zcs, Zct, Zcu, Zcv, Zcw, Zcx, Zcy, Zcz, Zda, Zdb, Zdc, Zdd, Zde, Zdf, Zdg, ofVal, ofCell, argT, List.getD_cons_zero, List.getD_cons_succ, List.getElem?_toArray, List.getElem?_cons_zero, List.getElem?_cons_succ, List.nil_append, List.cons_append, List.append_nil, resT, Zdh, Zdi, Nat.mul_one, Zdj, Zdk, Zdl, Zdm, Zdn, Zdo, Zdp, Zdq, Zdr, Zds, Zdt, setT, Zdu, Zdv, Zdw, Zdx, Zdy, List.append_eq, Zdz, Zea, Zeb, Zec, Zed, Zee, Zef, Zeg, Zeh, Nat.add_zero, Zei, Zej, Zek, Zel, Zem, Zen, Int.toNat_natCast, Bool.false_eq_true, Int.reduceEq, Int.reduceLT, Int.reduceLE, Int.reduceNeg, not_false_eq_true, and_self, Zeo, Zep, Int.natCast_one, Int.cast_ofNat_Int, not_true_eq_false, decide_true, decide_false, true_implies, false_implies, Int.toNat_zero, List.length_cons, List.length_nil, Nat.zero_add, mb, Nat.reduceBEq, Bool.false_and, Bool.and_false, Zeq, tys, stb, Zer, Zes, Zet, Zeu, Zev, Zew, Bool.or_false, Bool.false_or, Bool.true_and, Bool.or_true, Bool.true_or, Zex, Zey, storeList, List.take_zero, List.take_succ_cons, List.drop_zero, List.drop_succ_cons, List.drop_nil, List.all_cons, List.all_nil, List.set_cons_zero, List.set_cons_succ, cells_hsl, isCell_hsl, Nat.reduceAdd, Nat.reduceLeDiff, empty_mk, zv52, build52p, c2, len_str, opT_index, indexO_str u9, Int.toNat_natCast, hsm, fo520, fo521, fo522, aload9, aload3, ld52_0, ld52_1, opT_slice, optO_none, optO_some, Zeg, cellsStr, isCell_int, isCell_str, e1, aread_load, sc_load, sc_move, sc_assign, sc_binOp, sc_fieldAddr, sc_store, sc_len9, rd_load, rd_move, rd_assign, rd_binOp, rd_fieldAddr, rd_store, rd_call]
  refine ⟨fun s h => K1_ld h, fun s h => by rw [h]; rfl, ?_⟩
  simp only [oneOr, sealDepth, sealV_tup, sealV_agg, mapM_seal_cons, mapM_seal_nil, sealV_int, sealV_str, Option.bind_some, Option.map_some]

end Go.Proofs.YtbikmhpobflfeaaDoor
namespace Go.Proofs.YtbikmhpobflfeaaDoor
open Go.Ab
set_option maxRecDepth 100000
set_option linter.unusedSimpArgs false
set_option linter.unusedVariables false
/-- the reference's token is the scanner's next; a token with a fault is not looked at -/
theorem reftoken_call (s : List UInt8) (hl : s.length ≤ 2 ^ 30) (i : Nat) (hi : i < s.length) : ∃ t e, X75 s i t e (nextP s i).2.2 ∧ ((nextP s i).2.2 = 0 → t = (nextP s i).1 ∧ e = (nextP s i).2.1) := by
  unfold nextP
  by_cases k2 : clsN (s.getD i 0).toNat = 2
  · simp only [if_pos k2]
    by_cases h2 : 20 < endW s [2, 3, 4] i - i
    · simp only [if_pos h2]
      exact ⟨_, _, rt_l2 s hl i hi k2 _ _ rfl rfl h2, fun h => by simp at h⟩
    · simp only [if_neg h2]
      by_cases h1 : subS s i (endW s [2, 3, 4] i) ∈ N.wordsW
      · simp only [if_pos h1]
        exact ⟨_, _, rt_l1 s hl i hi k2 _ _ rfl rfl h2 h1, fun _ => ⟨rfl, rfl⟩⟩
      · simp only [if_neg h1]
        exact ⟨_, _, rt_l0 s hl i hi k2 _ _ rfl rfl h2 h1, fun _ => ⟨rfl, rfl⟩⟩
  simp only [if_neg k2]
  by_cases k3 : clsN (s.getD i 0).toNat = 3
  · simp only [if_pos k3]
    have hb := endW_le s [3] i (by omega)
    have hb2 := endW_lt s [3] i hi (by rw [k3]; decide)
    have hlen := subS_len s i (endW s [3] i) hb.2
    have h0 := subS_get s i (endW s [3] i) 0 hb.2 (by omega)
    rw [Nat.add_zero] at h0
    have hv := value_spec (subS s i (endW s [3] i))
    rw [h0, hlen]
    by_cases h1 : 1 < endW s [3] i - i ∧ (s.getD i 0).toNat = 48
    · simp only [if_pos h1]
      exact ⟨_, _, rt_d0 s hl i hi k3 _ rfl h1.2 (by omega), fun h => by simp at h⟩
    · simp only [if_neg h1]
      by_cases h2 : 1000000000 < decV 0 (subS s i (endW s [3] i))
      · simp only [if_pos h2]
        have h3 : 1000000000 < valueN (subS s i (endW s [3] i)) := by omega
        by_cases h4 : (s.getD i 0).toNat = 48
        · exact ⟨_, _, rt_d1b s hl i hi k3 _ rfl h4 (by omega) h3, fun h => by simp at h⟩
        · exact ⟨_, _, rt_d1a s hl i hi k3 _ rfl h4 h3, fun h => by simp at h⟩
      · simp only [if_neg h2]
        have h3 : ¬ 1000000000 < valueN (subS s i (endW s [3] i)) := by omega
        have h5 : valueN (subS s i (endW s [3] i)) = decV 0 (subS s i (endW s [3] i)) := by omega
        by_cases h4 : (s.getD i 0).toNat = 48
        · exact ⟨_, _, rt_d0b s hl i hi k3 _ rfl h4 (by omega) h3, fun _ => ⟨by rw [h5], rfl⟩⟩
        · exact ⟨_, _, rt_d0a s hl i hi k3 _ rfl h4 h3, fun _ => ⟨by rw [h5], rfl⟩⟩
  simp only [if_neg k3]
  by_cases k5 : clsN (s.getD i 0).toNat = 5
  · simp only [if_pos k5]
    by_cases h1 : N.IsName (subS s (i + 1) (endW s [2, 3, 4] (i + 1)))
    · by_cases h2 : endW s [2, 3, 4] (i + 1) < s.length
      · by_cases h3 : (s.getD (endW s [2, 3, 4] (i + 1)) 0).toNat = 39
        · simp only [if_pos (And.intro h2 (And.intro h3 h1))]
          exact ⟨_, _, rt_q3 s hl i hi k5 _ rfl h1 h2 h3, fun _ => ⟨rfl, rfl⟩⟩
        · simp only [if_neg (fun h : _ ∧ _ ∧ _ => h3 h.2.1)]
          exact ⟨_, _, rt_q2 s hl i hi k5 _ rfl h1 h2 h3, fun h => by simp at h⟩
      · simp only [if_neg (fun h : _ ∧ _ ∧ _ => h2 h.1)]
        exact ⟨_, _, rt_q1 s hl i hi k5 _ rfl h1 h2, fun h => by simp at h⟩
    · simp only [if_neg (fun h : _ ∧ _ ∧ _ => h1 h.2.2)]
      exact ⟨_, _, rt_q0 s hl i hi k5 _ rfl h1, fun h => by simp at h⟩
  simp only [if_neg k5]
  have hbs := (best_sign s i).2
  by_cases hb : (sgW s i 2).2 = true
  · simp only [if_pos hb]
    exact ⟨_, _, rt_s1 s hl i hi k2 k3 k5 _ rfl (hbs.1 hb), fun _ => ⟨rfl, rfl⟩⟩
  · simp only [if_neg hb]
    have h : (sgW s i 2).1 = [] := by
      rcases Classical.em ((sgW s i 2).1 = []) with h | h
      · exact h
      · exact absurd (hbs.2 h) hb
    exact ⟨_, _, rt_s0 s hl i hi k2 k3 k5 _ rfl h, fun h => by simp at h⟩

end Go.Proofs.YtbikmhpobflfeaaDoor
namespace Go.Proofs.YtbikmhpobflfeaaDoor
open Go.Ab
set_option maxRecDepth 100000
set_option linter.unusedSimpArgs false
set_option linter.unusedVariables false
theorem at36 : env.P.funcs[36]? = some Tryd.f36 := by kernel_rfl
theorem endW_step (s : List UInt8) (i : Nat) (hi : i < s.length) (h : clsN (s.getD i 0).toNat = 1) : endW s [1] i = endW s [1] (i + 1) := by
  unfold endW
  rw [show s.length - i = (s.length - (i + 1)) + 1 by omega]
  simp only [runW]
  rw [if_pos (by rw [h]; decide)]
theorem endW_here (s : List UInt8) (i : Nat) (h : clsN (s.getD i 0).toNat ≠ 1) : endW s [1] i = i := by
  unfold endW
  cases s.length - i with
  | zero => rfl
  | succ m => simp only [runW]; rw [if_neg (by simpa using h)]
theorem cls1 (c : Nat) : clsN c = 1 ↔ c = 32 := by
  unfold clsN
  split
  · omega
  · split
    · omega
    · split
      · omega
      · split
        · omega
        · split <;> omega
theorem mb36 (r : Nat) : env.mutb 36 r = false := rfl
theorem refsplit_call (s : List UInt8) (hl : s.length ≤ 4000) (σ : S) : callFn env (ev env) 36 [.str s] σ = some (splitV s, σ) := by
  refine callFn_pure rfl rfl rfl at36 rfl (by simp [Tryd.f36]) (by simp [Tryd.f36]) (G_start ?_) σ
  unfold splitV
  by_cases h1 : 2000 < s.length
  · rw [if_pos h1]
    have g1 : (2000 : Int) < (s.length : Int) := by omega
    simp -implicitDefEqProofs only [Tryd.f36, Zaa, Zab, Zac, Zad, Zae, Zaf, Zag, Zah, Zai, Zaj, Zak, Zal, Zam, Zan, Zao, Zap, Zaq, Zar, Zas, Zat, Zau, Zav, Zaw, Zax, Zay, Zaz, Zba, Zbb, Zbc, Zbd, Zbe, Zbf, Zbg, Zbh, Zbi, Zbj, Zbk, Zbl, Zbm, Zbn, Zbo, Zbp, Zbq, Zbr, Zbs, Zbt, Zbu, Zbv, Zbw, Zbx, Zby, Zbz, Zca, Zcb, Zcc, Zcd, Zce, Zcf, Zcg, evalT, Zch, Nat.reduceLT, Nat.reduceEqDiff, if_true, if_false, reduceIte, true_and, Zci, Zcj, map_ite', Zck, bind_ite', Zcl, Zcm, Zcn, Zco, Zcp, Zcq, Zcr, Zcs, Zct, Zcu, Zcv, Zcw, Zcx, Zcy, Zcz, Zda, Zdb, Zdc, Zdd, Zde, Zdf, Zdg, ofVal, ofCell, argT, List.getD_cons_zero, List.getD_cons_succ, List.getElem?_toArray, List.getElem?_cons_zero, List.getElem?_cons_succ, List.nil_append, List.cons_append, List.append_nil, resT, Zdh, Zdi, Nat.mul_one, Zdj, Zdk, Zdl, Zdm, Zdn, Zdo, Zdp, Zdq, Zdr, Zds, Zdt, setT, Zdu, Zdv, Zdw, Zdx, Zdy, List.append_eq, Zdz, Zea, Zeb, Zec, Zed, Zee, Zef, Zeg, Zeh, Nat.add_zero, Zei, Zej, Zek, Zel, Zem, Zen, Int.toNat_natCast, Bool.false_eq_true, Int.reduceEq, Int.reduceLT, Int.reduceLE, Int.reduceNeg, not_false_eq_true, and_self, Zeo, Zep, Int.natCast_one, Int.cast_ofNat_Int, not_true_eq_false, decide_true, decide_false, true_implies, false_implies, Int.toNat_zero, List.length_cons, List.length_nil, Nat.zero_add, mb, Nat.reduceBEq, Bool.false_and, Bool.and_false, Zeq, tys, stb, Zer, Zes, Zet, Zeu, Zev, Zew, Bool.or_false, Bool.false_or, Bool.true_and, Bool.or_true, Bool.true_or, Zex, Zey, storeList, List.take_zero, List.take_succ_cons, List.drop_zero, List.drop_succ_cons, List.drop_nil, List.all_cons, List.all_nil, List.set_cons_zero, List.set_cons_succ, cells_hsl, isCell_hsl, Nat.reduceAdd, Nat.reduceLeDiff, empty_mk, len_str, zv47, s47, g1, build47, Zeg, Zdr, isCell_int]
    rw [ld47 (v := .int .i64 4) (w := .int .i64 2000) rfl]
    simp only [Option.bind_some, Option.map_some, Zdi]
    rfl
  · rw [if_neg h1]
    have g1 : ¬ (2000 : Int) < (s.length : Int) := by omega
    simp -implicitDefEqProofs only [Tryd.f36, Zaa, Zab, Zac, Zad, Zae, Zaf, Zag, Zah, Zai, Zaj, Zak, Zal, Zam, Zan, Zao, Zap, Zaq, Zar, Zas, Zat, Zau, Zav, Zaw, Zax, Zay, Zaz, Zba, Zbb, Zbc, Zbd, Zbe, Zbf, Zbg, Zbh, Zbi, Zbj, Zbk, Zbl, Zbm, Zbn, Zbo, Zbp, Zbq, Zbr, Zbs, Zbt, Zbu, Zbv, Zbw, Zbx, Zby, Zbz, Zca, Zcb, Zcc, Zcd, Zce, Zcf, Zcg, evalT, Zch, Nat.reduceLT, Nat.reduceEqDiff, if_true, if_false, reduceIte, true_and, Zci, Zcj, map_ite', Zck, bind_ite', Zcl, Zcm, Zcn, Zco, Zcp, Zcq, Zcr, Zcs, Zct, Zcu, Zcv, Zcw, Zcx, Zcy, Zcz, Zda, Zdb, Zdc, Zdd, Zde, Zdf, Zdg, ofVal, ofCell, argT, List.getD_cons_zero, List.getD_cons_succ, List.getElem?_toArray, List.getElem?_cons_zero, List.getElem?_cons_succ, List.nil_append, List.cons_append, List.append_nil, resT, Zdh, Zdi, Nat.mul_one, Zdj, Zdk, Zdl, Zdm, Zdn, Zdo, Zdp, Zdq, Zdr, Zds, Zdt, setT, Zdu, Zdv, Zdw, Zdx, Zdy, List.append_eq, Zdz, Zea, Zeb, Zec, Zed, Zee, Zef, Zeg, Zeh, Nat.add_zero, Zei, Zej, Zek, Zel, Zem, Zen, Int.toNat_natCast, Bool.false_eq_true, Int.reduceEq, Int.reduceLT, Int.reduceLE, Int.reduceNeg, not_false_eq_true, and_self, Zeo, Zep, Int.natCast_one, Int.cast_ofNat_Int, not_true_eq_false, decide_true, decide_false, true_implies, false_implies, Int.toNat_zero, List.length_cons, List.length_nil, Nat.zero_add, mb, Nat.reduceBEq, Bool.false_and, Bool.and_false, Zeq, tys, stb, Zer, Zes, Zet, Zeu, Zev, Zew, Bool.or_false, Bool.false_or, Bool.true_and, Bool.or_true, Bool.true_or, Zex, Zey, storeList, List.take_zero, List.take_succ_cons, List.drop_zero, List.drop_succ_cons, List.drop_nil, List.all_cons, List.all_nil, List.set_cons_zero, List.set_cons_succ, cells_hsl, isCell_hsl, Nat.reduceAdd, Nat.reduceLeDiff, empty_mk, len_str, zv47, s47, g1, Zeg, Zdr, isCell_int]
    generalize hR : scanP s (s.length + 1) (endW s [1] 0) (-1) [] = R
    refine loop_rule (fun m T D σ => D = [] ∧ T 0 = .str s ∧ T 2 = .nilsl ∧ T 3 = .ptr 0 0 ∧ ∃ (L : List AObj) (ts : List Nat) (v : V) (i : Nat) (last : Int) (m' : Nat) (acc : List Tok), σ = ⟨L, ts⟩ ∧ L[0]? = some (.cells [.int .i64 0, .int .i64 0] 47) ∧
      GrowT ts v acc ∧ T 4 = v ∧ T 5 = .int .i64 last ∧ T 6 = .int .i64 i ∧ i ≤ s.length ∧ acc.length ≤ i ∧ s.length < m' + endW s [1] i ∧ scanP s m' (endW s [1] i) last acc = R ∧ m = s.length - i) ?_ (s.length - 0) _ _ _
      ⟨rfl, rfl, rfl, rfl, _, _, _, 0, -1, s.length + 1, [], rfl, rfl, .nil, rfl, rfl, rfl, by omega, by simp, by omega, hR, rfl⟩
    clear hR
    rintro m T D σ ⟨rfl, t0, t2, t3, L, ts, v, i, last, m', acc, rfl, p0, hg, t4, t5, t6, hi, hac, hm', hR, rfl⟩
    refine G_start ?_
    by_cases hlt : i < s.length
    · have c1 : (i : Int) < (s.length : Int) := by omega
      have c2 : (0 : Int) ≤ (i : Int) ∧ (i : Int) < (s.length : Int) := by omega
      by_cases h32 : (s.getD i 0).toNat = 32
      · have c3 : (((s.getD i 0).toNat : Int) = 32) = True := eq_true (by omega)
        have e1 : IntKind.i64.wrap ((i : Int) + 1) = ((i + 1 : Nat) : Int) := by rw [wrap_i64 (by omega) (by omega)]; omega
        have hst := endW_step s i hlt ((cls1 _).2 h32)
        simp -implicitDefEqProofs only [Zaa, Zab, Zac, Zad, Zae, Zaf, Zag, Zah, Zai, Zaj, Zak, Zal, Zam, Zan, Zao, Zap, Zaq, Zar, Zas, Zat, Zau, Zav, Zaw, Zax, Zay, Zaz, Zba, Zbb, Zbc, Zbd, Zbe, Zbf, Zbg, Zbh, Zbi, Zbj, Zbk, Zbl, Zbm, Zbn, Zbo, Zbp, Zbq, Zbr, Zbs, Zbt, Zbu, Zbv, Zbw, Zbx, Zby, Zbz, Zca, Zcb, Zcc, Zcd, Zce, Zcf, Zcg, evalT, Zch, Nat.reduceLT, Nat.reduceEqDiff, if_true, if_false, reduceIte, true_and, Zci, Zcj, map_ite', Zck, bind_ite', Zcl, Zcm, Zcn, Zco, Zcp, Zcq, Zcr, Zcs, Zct, Zcu, Zcv, Zcw, Zcx, Zcy, Zcz, Zda, Zdb, Zdc, Zdd, Zde, Zdf, Zdg, ofVal, ofCell, argT, List.getD_cons_zero, List.getD_cons_succ, List.getElem?_toArray, List.getElem?_cons_zero, List.getElem?_cons_succ, List.nil_append, List.cons_append, List.append_nil, resT, Zdh, Zdi, Nat.mul_one, Zdj, Zdk, Zdl, Zdm, Zdn, Zdo, Zdp, Zdq, Zdr, Zds, Zdt, setT, Zdu, Zdv, Zdw, Zdx, Zdy, List.append_eq, Zdz, Zea, Zeb, Zec, Zed, Zee, Zef, Zeg, Zeh, Nat.add_zero, Zei, Zej, Zek, Zel, Zem, Zen, Int.toNat_natCast, Bool.false_eq_true, Int.reduceEq, Int.reduceLT, Int.reduceLE, Int.reduceNeg, not_false_eq_true, and_self, Zeo, Zep, Int.natCast_one, Int.cast_ofNat_Int, not_true_eq_false, decide_true, decide_false, true_implies, false_implies, Int.toNat_zero, List.length_cons, List.length_nil, Nat.zero_add, mb, Nat.reduceBEq, Bool.false_and, Bool.and_false, Zeq, tys, stb, Zer, Zes, Zet, Zeu, Zev, Zew, Bool.or_false, Bool.false_or, Bool.true_and, Bool.or_true, Bool.true_or, Zex, Zey, t0, t2, t3, t4, t5, t6, c1, c2, c3, e1, len_str, opT_index, indexO_str u9, Int.toNat_natCast]
        exact ⟨s.length - (i + 1), by omega, L, ts, v, i + 1, last, m', acc, rfl, p0, hg, rfl, rfl, rfl, by omega, by omega, by omega, by rw [← hst]; exact hR, rfl⟩
      · have c3 : (((s.getD i 0).toNat : Int) = 32) = False := eq_false (by omega)
        have hE := endW_here s i (fun h => h32 ((cls1 _).1 h))
        rw [hE] at hm' hR
        obtain ⟨m1, rfl⟩ : ∃ m1, m' = m1 + 1 := ⟨m' - 1, by omega⟩
        simp only [scanP] at hR
        rw [if_pos hlt] at hR
        obtain ⟨t, e, hX, hX2⟩ := reftoken_call s (by omega) i hlt
        have hle := next_le s i hlt
        unfold X75 at hX
        by_cases hx : (nextP s i).2.2 = 0
        · rw [if_pos hx] at hR
          obtain ⟨ht, he⟩ := hX2 hx
          rw [← ht, ← he] at hR
          rw [← he] at hle
          have hlt2 := hle.2.2 hx
          rw [hx] at hX
          obtain ⟨v', ts', happ, hg'⟩ := GrowT.append (hp := L ++ [AObj.cells [.int .i64 t.kind, .str t.text, .int .i64 t.n, .int .i64 t.pos] 52]) hg t .full (by omega)
          have hb := endW_le s [1] e hle.2.1
          have p0' : (L ++ [AObj.cells [.int .i64 t.kind, .str t.text, .int .i64 t.n, .int .i64 t.pos] 52])[0]? = some (.cells [.int .i64 0, .int .i64 0] 47) := get_app p0 _
          by_cases hk : t.kind = 5
          · rw [if_neg (by simp [hk]), if_neg (by simp [hk])] at hR
            have hk1 : ((t.kind : Int) = 5) = True := eq_true hk
            simp -implicitDefEqProofs only [Zaa, Zab, Zac, Zad, Zae, Zaf, Zag, Zah, Zai, Zaj, Zak, Zal, Zam, Zan, Zao, Zap, Zaq, Zar, Zas, Zat, Zau, Zav, Zaw, Zax, Zay, Zaz, Zba, Zbb, Zbc, Zbd, Zbe, Zbf, Zbg, Zbh, Zbi, Zbj, Zbk, Zbl, Zbm, Zbn, Zbo, Zbp, Zbq, Zbr, Zbs, Zbt, Zbu, Zbv, Zbw, Zbx, Zby, Zbz, Zca, Zcb, Zcc, Zcd, Zce, Zcf, Zcg, evalT, Zch, Nat.reduceLT, Nat.reduceEqDiff, if_true, if_false, reduceIte, true_and, Zci, Zcj, map_ite', Zck, bind_ite', Zcl, Zcm, Zcn, Zco, Zcp, Zcq, Zcr, Zcs, Zct, Zcu, Zcv, Zcw, Zcx, Zcy, Zcz, Zda, Zdb, Zdc, Zdd, Zde, Zdf, Zdg, ofVal, ofCell, argT, List.getD_cons_zero, List.getD_cons_succ, List.getElem?_toArray, List.getElem?_cons_zero, List.getElem?_cons_succ, List.nil_append, List.cons_append, List.append_nil, resT, Zdh, Zdi, Nat.mul_one, Zdj, Zdk, Zdl, Zdm, Zdn, Zdo, Zdp, Zdq, Zdr, Zds, Zdt, setT, Zdu, Zdv, Zdw, Zdx, Zdy, List.append_eq, Zdz, Zea, Zeb, Zec, Zed, Zee, Zef, Zeg, Zeh, Nat.add_zero, Zei, Zej, Zek, Zel, Zem, Zen, Int.toNat_natCast, Bool.false_eq_true, Int.reduceEq, Int.reduceLT, Int.reduceLE, Int.reduceNeg, not_false_eq_true, and_self, Zeo, Zep, Int.natCast_one, Int.cast_ofNat_Int, not_true_eq_false, decide_true, decide_false, true_implies, false_implies, Int.toNat_zero, List.length_cons, List.length_nil, Nat.zero_add, mb, Nat.reduceBEq, Bool.false_and, Bool.and_false, Zeq, tys, stb, Zer, Zes, Zet, Zeu, Zev, Zew, Bool.or_false, Bool.false_or, Bool.true_and, Bool.or_true, Bool.true_or, Zex, Zey, storeList, List.take_zero, List.take_succ_cons, List.drop_zero, List.drop_succ_cons, List.drop_nil, List.all_cons, List.all_nil, List.set_cons_zero, List.set_cons_succ, cells_hsl, isCell_hsl, Nat.reduceAdd, Nat.reduceLeDiff, t0, t2, t3, t4, t5, t6, c1, c2, c3, len_str, opT_index, indexO_str u9, Int.toNat_natCast, hX, zv52, Zeg, set_end, heap_end, isCell_int, isCell_str, fo520, aload3, kind_end, ld52e, hk1, build_T, happ]
            refine ⟨s.length - e, by omega, _, ts', v', e, -1, m1, acc ++ [t], rfl, p0', hg', rfl, rfl, rfl, hle.2.1, by simp; omega, by omega, hR, rfl⟩
          · have hk1 : ((t.kind : Int) = 5) = False := eq_false hk
            by_cases hla : last = i
            · subst hla
              rw [if_pos ⟨hk, rfl⟩] at hR
              simp -implicitDefEqProofs only [Zaa, Zab, Zac, Zad, Zae, Zaf, Zag, Zah, Zai, Zaj, Zak, Zal, Zam, Zan, Zao, Zap, Zaq, Zar, Zas, Zat, Zau, Zav, Zaw, Zax, Zay, Zaz, Zba, Zbb, Zbc, Zbd, Zbe, Zbf, Zbg, Zbh, Zbi, Zbj, Zbk, Zbl, Zbm, Zbn, Zbo, Zbp, Zbq, Zbr, Zbs, Zbt, Zbu, Zbv, Zbw, Zbx, Zby, Zbz, Zca, Zcb, Zcc, Zcd, Zce, Zcf, Zcg, evalT, Zch, Nat.reduceLT, Nat.reduceEqDiff, if_true, if_false, reduceIte, true_and, Zci, Zcj, map_ite', Zck, bind_ite', Zcl, Zcm, Zcn, Zco, Zcp, Zcq, Zcr, Zcs, Zct, Zcu, Zcv, Zcw, Zcx, Zcy, Zcz, Zda, Zdb, Zdc, Zdd, Zde, Zdf, Zdg, ofVal, ofCell, argT, List.getD_cons_zero, List.getD_cons_succ, List.getElem?_toArray, List.getElem?_cons_zero, List.getElem?_cons_succ, List.nil_append, List.cons_append, List.append_nil, resT, Zdh, Zdi, Nat.mul_one, Zdj, Zdk, Zdl, Zdm, Zdn, Zdo, Zdp, Zdq, Zdr, Zds, Zdt, setT, Zdu, Zdv, Zdw, Zdx, Zdy, List.append_eq, Zdz, Zea, Zeb, Zec, Zed, Zee, Zef, Zeg, Zeh, Nat.add_zero, Zei, Zej, Zek, Zel, Zem, Zen, Int.toNat_natCast, Bool.false_eq_true, Int.reduceEq, Int.reduceLT, Int.reduceLE, Int.reduceNeg, not_false_eq_true, and_self, Zeo, Zep, Int.natCast_one, Int.cast_ofNat_Int, not_true_eq_false, decide_true, decide_false, true_implies, false_implies, Int.toNat_zero, List.length_cons, List.length_nil, Nat.zero_add, mb, Nat.reduceBEq, Bool.false_and, Bool.and_false, Zeq, tys, stb, Zer, Zes, Zet, Zeu, Zev, Zew, Bool.or_false, Bool.false_or, Bool.true_and, Bool.or_true, Bool.true_or, Zex, Zey, storeList, List.take_zero, List.take_succ_cons, List.drop_zero, List.drop_succ_cons, List.drop_nil, List.all_cons, List.all_nil, List.set_cons_zero, List.set_cons_succ, cells_hsl, isCell_hsl, Nat.reduceAdd, Nat.reduceLeDiff, t0, t2, t3, t4, t5, t6, c1, c2, c3, len_str, opT_index, indexO_str u9, Int.toNat_natCast, hX, zv52, Zeg, set_end, heap_end, isCell_int, isCell_str, fo520, aload3, kind_end, ld52e, hk1, build47, s47, p0', Zdr]
              subst hR
              rw [ld47 (v := .int .i64 11) (w := .int .i64 i) (by rw [List.getElem?_set_self (by simp)])]
              simp only [Option.bind_some, Option.map_some, Zdi]
              rfl
            · have hla1 : ((last : Int) = (i : Int)) = False := eq_false hla
              rw [if_neg (fun h => hla h.2), if_pos hk] at hR
              simp -implicitDefEqProofs only [Zaa, Zab, Zac, Zad, Zae, Zaf, Zag, Zah, Zai, Zaj, Zak, Zal, Zam, Zan, Zao, Zap, Zaq, Zar, Zas, Zat, Zau, Zav, Zaw, Zax, Zay, Zaz, Zba, Zbb, Zbc, Zbd, Zbe, Zbf, Zbg, Zbh, Zbi, Zbj, Zbk, Zbl, Zbm, Zbn, Zbo, Zbp, Zbq, Zbr, Zbs, Zbt, Zbu, Zbv, Zbw, Zbx, Zby, Zbz, Zca, Zcb, Zcc, Zcd, Zce, Zcf, Zcg, evalT, Zch, Nat.reduceLT, Nat.reduceEqDiff, if_true, if_false, reduceIte, true_and, Zci, Zcj, map_ite', Zck, bind_ite', Zcl, Zcm, Zcn, Zco, Zcp, Zcq, Zcr, Zcs, Zct, Zcu, Zcv, Zcw, Zcx, Zcy, Zcz, Zda, Zdb, Zdc, Zdd, Zde, Zdf, Zdg, ofVal, ofCell, argT, List.getD_cons_zero, List.getD_cons_succ, List.getElem?_toArray, List.getElem?_cons_zero, List.getElem?_cons_succ, List.nil_append, List.cons_append, List.append_nil, resT, Zdh, Zdi, Nat.mul_one, Zdj, Zdk, Zdl, Zdm, Zdn, Zdo, Zdp, Zdq, Zdr, Zds, Zdt, setT, Zdu, Zdv, Zdw, Zdx, Zdy, List.append_eq, Zdz, Zea, Zeb, Zec, Zed, Zee, Zef, Zeg, Zeh, Nat.add_zero, Zei, Zej, Zek, Zel, Zem, Zen, Int.toNat_natCast, Bool.false_eq_true, Int.reduceEq, Int.reduceLT, Int.reduceLE, Int.reduceNeg, not_false_eq_true, and_self, Zeo, Zep, Int.natCast_one, Int.cast_ofNat_Int, not_true_eq_false, decide_true, decide_false, true_implies, false_implies, Int.toNat_zero, List.length_cons, List.length_nil, Nat.zero_add, mb, Nat.reduceBEq, Bool.false_and, Bool.and_false, Zeq, tys, stb, Zer, Zes, Zet, Zeu, Zev, Zew, Bool.or_false, Bool.false_or, Bool.true_and, Bool.or_true, Bool.true_or, Zex, Zey, storeList, List.take_zero, List.take_succ_cons, List.drop_zero, List.drop_succ_cons, List.drop_nil, List.all_cons, List.all_nil, List.set_cons_zero, List.set_cons_succ, cells_hsl, isCell_hsl, Nat.reduceAdd, Nat.reduceLeDiff, t0, t2, t3, t4, t5, t6, c1, c2, c3, len_str, opT_index, indexO_str u9, Int.toNat_natCast, hX, zv52, Zeg, set_end, heap_end, isCell_int, isCell_str, fo520, aload3, kind_end, ld52e, hk1, hla1, build_T, happ]
              refine ⟨s.length - e, by omega, _, ts', v', e, e, m1, acc ++ [t], rfl, p0', hg', rfl, rfl, rfl, hle.2.1, by simp; omega, by omega, hR, rfl⟩
        · rw [if_neg hx] at hR
          generalize (nextP s i).2.2 = x at *
          have hx1 : ((x : Int) = 0) = False := eq_false hx
          have p0' : (L ++ [AObj.cells [.int .i64 t.kind, .str t.text, .int .i64 t.n, .int .i64 t.pos] 52])[0]? = some (.cells [.int .i64 0, .int .i64 0] 47) := get_app p0 _
          simp -implicitDefEqProofs only [Zaa, Zab, Zac, Zad, Zae, Zaf, Zag, Zah, Zai, Zaj, Zak, Zal, Zam, Zan, Zao, Zap, Zaq, Zar, Zas, Zat, Zau, Zav, Zaw, Zax, Zay, Zaz, Zba, Zbb, Zbc, Zbd, Zbe, Zbf, Zbg, Zbh, Zbi, Zbj, Zbk, Zbl, Zbm, Zbn, Zbo, Zbp, Zbq, Zbr, Zbs, Zbt, Zbu, Zbv, Zbw, Zbx, Zby, Zbz, Zca, Zcb, Zcc, Zcd, Zce, Zcf, Zcg, evalT, Zch, Nat.reduceLT, Nat.reduceEqDiff, if_true, if_false, reduceIte, true_and, Zci, Zcj, map_ite', Zck, bind_ite', Zcl, Zcm, Zcn, Zco, Zcp, Zcq, Zcr, Zcs, Zct, Zcu, Zcv, Zcw, Zcx, Zcy, Zcz, Zda, Zdb, Zdc, Zdd, Zde, Zdf, Zdg, ofVal, ofCell, argT, List.getD_cons_zero, List.getD_cons_succ, List.getElem?_toArray, List.getElem?_cons_zero, List.getElem?_cons_succ, List.nil_append, List.cons_append, List.append_nil, resT, Zdh, Zdi, Nat.mul_one, Zdj, Zdk, Zdl, Zdm, Zdn, Zdo, Zdp, Zdq, Zdr, Zds, Zdt, setT, Zdu, Zdv, Zdw, Zdx, Zdy, List.append_eq, Zdz, Zea, Zeb, Zec, Zed, Zee, Zef, Zeg, Zeh, Nat.add_zero, Zei, Zej, Zek, Zel, Zem, Zen, Int.toNat_natCast, Bool.false_eq_true, Int.reduceEq, Int.reduceLT, Int.reduceLE, Int.reduceNeg, not_false_eq_true, and_self, Zeo, Zep, Int.natCast_one, Int.cast_ofNat_Int, not_true_eq_false, decide_true, decide_false, true_implies, false_implies, Int.toNat_zero, List.length_cons, List.length_nil, Nat.zero_add, mb, Nat.reduceBEq, Bool.false_and, Bool.and_false, Zeq, tys, stb, Zer, Zes, Zet, Zeu, Zev, Zew, Bool.or_false, Bool.false_or, Bool.true_and, Bool.or_true, Bool.true_or, Zex, Zey, storeList, List.take_zero, List.take_succ_cons, List.drop_zero, List.drop_succ_cons, List.drop_nil, List.all_cons, List.all_nil, List.set_cons_zero, List.set_cons_succ, cells_hsl, isCell_hsl, Nat.reduceAdd, Nat.reduceLeDiff, t0, t2, t3, t4, t5, t6, c1, c2, c3, len_str, opT_index, indexO_str u9, Int.toNat_natCast, hX, zv52, Zeg, set_end, heap_end, isCell_int, isCell_str, fo520, aload3, kind_end, ld52e, hx1, build47, s47, p0', Zdr]
          subst hR
          rw [ld47 (v := .int .i64 x) (w := .int .i64 i) (by rw [List.getElem?_set_self (by simp)])]
          simp only [Option.bind_some, Option.map_some, Zdi]
          rfl
    · have c1 : ¬ (i : Int) < (s.length : Int) := by omega
      have hie : i = s.length := by omega
      simp -implicitDefEqProofs only [Zaa, Zab, Zac, Zad, Zae, Zaf, Zag, Zah, Zai, Zaj, Zak, Zal, Zam, Zan, Zao, Zap, Zaq, Zar, Zas, Zat, Zau, Zav, Zaw, Zax, Zay, Zaz, Zba, Zbb, Zbc, Zbd, Zbe, Zbf, Zbg, Zbh, Zbi, Zbj, Zbk, Zbl, Zbm, Zbn, Zbo, Zbp, Zbq, Zbr, Zbs, Zbt, Zbu, Zbv, Zbw, Zbx, Zby, Zbz, Zca, Zcb, Zcc, Zcd, Zce, Zcf, Zcg, evalT, Zch, Nat.reduceLT, Nat.reduceEqDiff, if_true, if_false, reduceIte, true_and, Zci, Zcj, map_ite', Zck, bind_ite', Zcl, Zcm, Zcn, Zco, Zcp, Zcq, Zcr, Zcs, Zct, Zcu, Zcv, Zcw, Zcx, Zcy, Zcz, Zda, Zdb, Zdc, Zdd, Zde, Zdf, Zdg, ofVal, ofCell, argT, List.getD_cons_zero, List.getD_cons_succ, List.getElem?_toArray, List.getElem?_cons_zero, List.getElem?_cons_succ, List.nil_append, List.cons_append, List.append_nil, resT, Zdh, Zdi, Nat.mul_one, Zdj, Zdk, Zdl, Zdm, Zdn, Zdo, Zdp, Zdq, Zdr, Zds, Zdt, setT, Zdu, Zdv, Zdw, Zdx, Zdy, List.append_eq, Zdz, Zea, Zeb, Zec, Zed, Zee, Zef, Zeg, Zeh, Nat.add_zero, Zei, Zej, Zek, Zel, Zem, Zen, Int.toNat_natCast, Bool.false_eq_true, Int.reduceEq, Int.reduceLT, Int.reduceLE, Int.reduceNeg, not_false_eq_true, and_self, Zeo, Zep, Int.natCast_one, Int.cast_ofNat_Int, not_true_eq_false, decide_true, decide_false, true_implies, false_implies, Int.toNat_zero, List.length_cons, List.length_nil, Nat.zero_add, mb, Nat.reduceBEq, Bool.false_and, Bool.and_false, Zeq, tys, stb, Zer, Zes, Zet, Zeu, Zev, Zew, Bool.or_false, Bool.false_or, Bool.true_and, Bool.or_true, Bool.true_or, Zex, Zey, storeList, List.take_zero, List.take_succ_cons, List.drop_zero, List.drop_succ_cons, List.drop_nil, List.all_cons, List.all_nil, List.set_cons_zero, List.set_cons_succ, cells_hsl, isCell_hsl, Nat.reduceAdd, Nat.reduceLeDiff, t0, t2, t3, t4, t5, t6, c1, len_str, build470, s47, p0, Zeg, isCell_int]
      have hR2 : (acc, none) = R := by
        rw [← hR]
        have hb := endW_le s [1] i hi
        obtain ⟨m1, rfl⟩ : ∃ m1, m' = m1 + 1 := ⟨m' - 1, by omega⟩
        simp only [scanP]
        rw [if_neg (by omega)]
      clear hR
      subst hR2
      rw [ld47 (v := .int .i64 0) (w := .int .i64 0) (by rw [List.getElem?_set_self (by have := lt_of_get p0; omega)])]
      simp only [Option.bind_some, Option.map_some, Zdi, oneOr, sealDepth, sealV_tup, sealV_agg, mapM_seal_cons, mapM_seal_nil, sealV_int, seal_T hg]

end Go.Proofs.YtbikmhpobflfeaaDoor
namespace Go.Proofs.YtbikmhpobflfeaaDoor
open Go.Ab
set_option maxRecDepth 100000
set_option linter.unusedSimpArgs false
set_option linter.unusedVariables false
theorem eqg52 : env.P.eqGuardType env.P.depth 52 = false := by kernel_rfl
theorem eqg47 : env.P.eqGuardType env.P.depth 47 = false := by kernel_rfl
theorem eqT52 (k k' n n' p p' : Int) (x y : List UInt8) : eqT env 8 52 (.agg [.int .i64 k, .str x, .int .i64 n, .int .i64 p]) (.agg [.int .i64 k', .str y, .int .i64 n', .int .i64 p']) =
    (some (k == k')).bind fun r => if r then (some (x == y)).bind fun r => if r then (some (n == n')).bind fun r => if r then (some (p == p')).bind fun r => if r then some true else some false else some false else some false else some false := by kernel_rfl
theorem eqT47 (k k' n n' : Int) : eqT env 8 47 (.agg [.int .i64 k, .int .i64 n]) (.agg [.int .i64 k', .int .i64 n']) =
    (some (k == k')).bind fun r => if r then (some (n == n')).bind fun r => if r then some true else some false else some false := by kernel_rfl
theorem vT_agg (u : Option TypeDesc) (c : Bool) (op : BinOp) (a b : List V) : vBinT u c op (.agg a) (.agg b) = none := by
  cases op <;> cases u <;> first | rfl | (rename_i u; cases u <;> rfl)
theorem bin_agg (t : TypeId) (c : Bool) (op : BinOp) (a b : List V) : binO env t c op (some (.agg a)) (some (.agg b)) = vBinA env t op (.agg a) (.agg b) := by
  have : binO env t c op (some (.agg a)) (some (.agg b)) = vBinE env t c op (.agg a) (.agg b) := rfl
  rw [this]
  unfold vBinE
  rw [vT_agg]
theorem ne52_same (c : Bool) (k n p : Int) (x : List UInt8) : binO env 52 c .neq (some (.agg [.int .i64 k, .str x, .int .i64 n, .int .i64 p])) (some (.agg [.int .i64 k, .str x, .int .i64 n, .int .i64 p])) = some (.bool false) := by
  rw [bin_agg]
  simp only [vBinA, eqg52, eqT52]
  simp
theorem eq47 (c : Bool) (k n k' n' : Int) : binO env 47 c .eql (some (.agg [.int .i64 k, .int .i64 n])) (some (.agg [.int .i64 k', .int .i64 n'])) = some (.bool (decide (k = k' ∧ n = n'))) := by
  rw [bin_agg]
  simp only [vBinA, eqg47, eqT47]
  by_cases h1 : k = k' <;> by_cases h2 : n = n' <;> simp [h1, h2]
theorem ne47 (c : Bool) (k n k' n' : Int) : binO env 47 c .neq (some (.agg [.int .i64 k, .int .i64 n])) (some (.agg [.int .i64 k', .int .i64 n'])) = some (.bool (!decide (k = k' ∧ n = n'))) := by
  rw [bin_agg]
  simp only [vBinA, eqg47, eqT47]
  by_cases h1 : k = k' <;> by_cases h2 : n = n' <;> simp [h1, h2]
theorem at37 : env.P.funcs[37]? = some Tryd.f37 := by kernel_rfl
theorem same_T (v : V) (l : List Tok) (hv : IsT v l) (hl : l.length ≤ 4000) (σ : S) : callFn env (ev env) 37 [v, v] σ = some (.bool true, σ) := by
  refine callFn_pure rfl rfl (by rw [List.all_cons, List.all_cons, closed_T hv]; rfl) at37 rfl (by simp [Tryd.f37]) (by simp [Tryd.f37]) (G_start ?_) σ
  have hne : (((l.length : Int) = (l.length : Int)) ) := rfl
  simp -implicitDefEqProofs only [Tryd.f37, Zaa, Zab, Zac, Zad, Zae, Zaf, Zag, Zah, Zai, Zaj, Zak, Zal, Zam, Zan, Zao, Zap, Zaq, Zar, Zas, Zat, Zau, Zav, Zaw, Zax, Zay, Zaz, Zba, Zbb, Zbc, Zbd, Zbe, Zbf, Zbg, Zbh, Zbi, Zbj, Zbk, Zbl, Zbm, Zbn, Zbo, Zbp, Zbq, Zbr, Zbs, Zbt, Zbu, Zbv, Zbw, Zbx, Zby, Zbz, Zca, Zcb, Zcc, Zcd, Zce, Zcf, Zcg, evalT, Zch, Nat.reduceLT, Nat.reduceEqDiff, if_true, if_false, reduceIte, true_and, Zci, Zcj, map_ite', Zck, bind_ite', Zcl, Zcm, Zcn, Zco, Zcp, Zcq, Zcr, Zcs, Zct, Zcu, Zcv, Zcw, Zcx, Zcy, Zcz, Zda, Zdb, Zdc, Zdd, Zde, Zdf, Zdg, ofVal, ofCell, argT, List.getD_cons_zero, List.getD_cons_succ, List.getElem?_toArray, List.getElem?_cons_zero, List.getElem?_cons_succ, List.nil_append, List.cons_append, List.append_nil, resT, Zdh, Zdi, Nat.mul_one, Zdj, Zdk, Zdl, Zdm, Zdn, Zdo, Zdp, Zdq, Zdr, Zds, Zdt, setT, Zdu, Zdv, Zdw, Zdx, Zdy, List.append_eq, Zdz, Zea, Zeb, Zec, Zed, Zee, Zef, Zeg, Zeh, Nat.add_zero, Zei, Zej, Zek, Zel, Zem, Zen, Int.toNat_natCast, Bool.false_eq_true, Int.reduceEq, Int.reduceLT, Int.reduceLE, Int.reduceNeg, not_false_eq_true, and_self, Zeo, Zep, Int.natCast_one, Int.cast_ofNat_Int, not_true_eq_false, decide_true, decide_false, true_implies, false_implies, Int.toNat_zero, List.length_cons, List.length_nil, Nat.zero_add, mb, Nat.reduceBEq, Bool.false_and, Bool.and_false, Zeq, tys, stb, Zer, Zes, Zet, Zeu, Zev, Zew, Bool.or_false, Bool.false_or, Bool.true_and, Bool.or_true, Bool.true_or, Zex, Zey, empty_mk, len_T hv]
  refine loop_rule (fun m T D σ => D = [] ∧ σ = S.empty ∧ T 0 = v ∧ T 1 = v ∧ ∃ i : Nat, T 5 = .int .i64 i ∧ i ≤ l.length ∧ m = l.length - i) ?_ (l.length - 0) _ _ _ ⟨rfl, rfl, rfl, rfl, 0, rfl, by omega, rfl⟩
  rintro m T D σ ⟨rfl, rfl, t0, t1, i, t5, hi, rfl⟩
  refine G_start ?_
  by_cases hlt : i < l.length
  · have c1 : (i : Int) < (l.length : Int) := by omega
    have e1 : IntKind.i64.wrap ((i : Int) + 1) = ((i + 1 : Nat) : Int) := by rw [wrap_i64 (by omega) (by omega)]; omega
    have hx := idx_T hv hlt
    simp -implicitDefEqProofs only [Zaa, Zab, Zac, Zad, Zae, Zaf, Zag, Zah, Zai, Zaj, Zak, Zal, Zam, Zan, Zao, Zap, Zaq, Zar, Zas, Zat, Zau, Zav, Zaw, Zax, Zay, Zaz, Zba, Zbb, Zbc, Zbd, Zbe, Zbf, Zbg, Zbh, Zbi, Zbj, Zbk, Zbl, Zbm, Zbn, Zbo, Zbp, Zbq, Zbr, Zbs, Zbt, Zbu, Zbv, Zbw, Zbx, Zby, Zbz, Zca, Zcb, Zcc, Zcd, Zce, Zcf, Zcg, evalT, Zch, Nat.reduceLT, Nat.reduceEqDiff, if_true, if_false, reduceIte, true_and, Zci, Zcj, map_ite', Zck, bind_ite', Zcl, Zcm, Zcn, Zco, Zcp, Zcq, Zcr, Zcs, Zct, Zcu, Zcv, Zcw, Zcx, Zcy, Zcz, Zda, Zdb, Zdc, Zdd, Zde, Zdf, Zdg, ofVal, ofCell, argT, List.getD_cons_zero, List.getD_cons_succ, List.getElem?_toArray, List.getElem?_cons_zero, List.getElem?_cons_succ, List.nil_append, List.cons_append, List.append_nil, resT, Zdh, Zdi, Nat.mul_one, Zdj, Zdk, Zdl, Zdm, Zdn, Zdo, Zdp, Zdq, Zdr, Zds, Zdt, setT, Zdu, Zdv, Zdw, Zdx, Zdy, List.append_eq, Zdz, Zea, Zeb, Zec, Zed, Zee, Zef, Zeg, Zeh, Nat.add_zero, Zei, Zej, Zek, Zel, Zem, Zen, Int.toNat_natCast, Bool.false_eq_true, Int.reduceEq, Int.reduceLT, Int.reduceLE, Int.reduceNeg, not_false_eq_true, and_self, Zeo, Zep, Int.natCast_one, Int.cast_ofNat_Int, not_true_eq_false, decide_true, decide_false, true_implies, false_implies, Int.toNat_zero, List.length_cons, List.length_nil, Nat.zero_add, mb, Nat.reduceBEq, Bool.false_and, Bool.and_false, Zeq, tys, stb, Zer, Zes, Zet, Zeu, Zev, Zew, Bool.or_false, Bool.false_or, Bool.true_and, Bool.or_true, Bool.true_or, Zex, Zey, t0, t1, t5, c1, e1, len_T hv, hx, agg52, load4_rptr, ne52_same]
    exact ⟨by kernel_rfl, l.length - (i + 1), by omega, i + 1, rfl, by omega, rfl⟩
  · have c1 : ¬ (i : Int) < (l.length : Int) := by omega
    simp -implicitDefEqProofs only [Zaa, Zab, Zac, Zad, Zae, Zaf, Zag, Zah, Zai, Zaj, Zak, Zal, Zam, Zan, Zao, Zap, Zaq, Zar, Zas, Zat, Zau, Zav, Zaw, Zax, Zay, Zaz, Zba, Zbb, Zbc, Zbd, Zbe, Zbf, Zbg, Zbh, Zbi, Zbj, Zbk, Zbl, Zbm, Zbn, Zbo, Zbp, Zbq, Zbr, Zbs, Zbt, Zbu, Zbv, Zbw, Zbx, Zby, Zbz, Zca, Zcb, Zcc, Zcd, Zce, Zcf, Zcg, evalT, Zch, Nat.reduceLT, Nat.reduceEqDiff, if_true, if_false, reduceIte, true_and, Zci, Zcj, map_ite', Zck, bind_ite', Zcl, Zcm, Zcn, Zco, Zcp, Zcq, Zcr, Zcs, Zct, Zcu, Zcv, Zcw, Zcx, Zcy, Zcz, Zda, Zdb, Zdc, Zdd, Zde, Zdf, Zdg, ofVal, ofCell, argT, List.getD_cons_zero, List.getD_cons_succ, List.getElem?_toArray, List.getElem?_cons_zero, List.getElem?_cons_succ, List.nil_append, List.cons_append, List.append_nil, resT, Zdh, Zdi, Nat.mul_one, Zdj, Zdk, Zdl, Zdm, Zdn, Zdo, Zdp, Zdq, Zdr, Zds, Zdt, setT, Zdu, Zdv, Zdw, Zdx, Zdy, List.append_eq, Zdz, Zea, Zeb, Zec, Zed, Zee, Zef, Zeg, Zeh, Nat.add_zero, Zei, Zej, Zek, Zel, Zem, Zen, Int.toNat_natCast, Bool.false_eq_true, Int.reduceEq, Int.reduceLT, Int.reduceLE, Int.reduceNeg, not_false_eq_true, and_self, Zeo, Zep, Int.natCast_one, Int.cast_ofNat_Int, not_true_eq_false, decide_true, decide_false, true_implies, false_implies, Int.toNat_zero, List.length_cons, List.length_nil, Nat.zero_add, mb, Nat.reduceBEq, Bool.false_and, Bool.and_false, Zeq, tys, stb, Zer, Zes, Zet, Zeu, Zev, Zew, Bool.or_false, Bool.false_or, Bool.true_and, Bool.or_true, Bool.true_or, Zex, Zey, t0, t1, t5, c1, len_T hv]
    simp only [oneOr, sealDepth, sealV_bool]
theorem at7 : env.P.funcs[7]? = some Tryd.f7 := by kernel_rfl
theorem scan_len (s : List UInt8) : ∀ m i last acc, i ≤ s.length → (scanP s m i last acc).1.length ≤ acc.length + (s.length - i)
  | 0, i, last, acc, h => by simp only [scanP]; omega
  | m + 1, i, last, acc, h => by
    simp only [scanP]
    split
    · rename_i hlt
      split
      · rename_i h0
        have hle := next_le s i hlt
        have hlt2 := hle.2.2 h0
        have hb := endW_le s [1] (nextP s i).2.1 hle.2.1
        split
        · simp only; omega
        · have := scan_len s m (endW s [1] (nextP s i).2.1) (if (nextP s i).1.kind ≠ 5 then ((nextP s i).2.1 : Int) else -1) (acc ++ [(nextP s i).1]) hb.2
          rw [List.length_append, List.length_singleton] at this
          omega
      · simp only; omega
    · simp only; omega
/-- Split gives tokens, and a fault -/
theorem splitV_is (s : List UInt8) : ∃ (l : List Tok) (x i : Int), splitV s = .tup [toksV l, .agg [.int .i64 x, .int .i64 i]] ∧ l.length ≤ s.length := by
  unfold splitV
  have hb := (endW_le s [1] 0 (by omega)).2
  have hn := scan_len s (s.length + 1) (endW s [1] 0) (-1) [] hb
  rw [List.length_nil] at hn
  split
  · exact ⟨[], 4, 2000, rfl, by simp⟩
  · split
    · exact ⟨_, 0, 0, rfl, by omega⟩
    · exact ⟨[], _, _, rfl, by simp⟩
theorem splits_found (s : List UInt8) : Go.Ab.Found env 7 [.str s] := by
  refine found_of_wp at7 rfl (by simp [Tryd.f7]) (by simp [Tryd.f7]) (G_start ?_)
  by_cases h1 : (2200 : Int) < (s.length : Int)
  · simp -implicitDefEqProofs only [Tryd.f7, Zaa, Zab, Zac, Zad, Zae, Zaf, Zag, Zah, Zai, Zaj, Zak, Zal, Zam, Zan, Zao, Zap, Zaq, Zar, Zas, Zat, Zau, Zav, Zaw, Zax, Zay, Zaz, Zba, Zbb, Zbc, Zbd, Zbe, Zbf, Zbg, Zbh, Zbi, Zbj, Zbk, Zbl, Zbm, Zbn, Zbo, Zbp, Zbq, Zbr, Zbs, Zbt, Zbu, Zbv, Zbw, Zbx, Zby, Zbz, Zca, Zcb, Zcc, Zcd, Zce, Zcf, Zcg, evalT, Zch, Nat.reduceLT, Nat.reduceEqDiff, if_true, if_false, reduceIte, true_and, Zci, Zcj, map_ite', Zck, bind_ite', Zcl, Zcm, Zcn, Zco, Zcp, Zcq, Zcr, Zcs, Zct, Zcu, Zcv, Zcw, Zcx, Zcy, Zcz, Zda, Zdb, Zdc, Zdd, Zde, Zdf, Zdg, ofVal, ofCell, argT, List.getD_cons_zero, List.getD_cons_succ, List.getElem?_toArray, List.getElem?_cons_zero, List.getElem?_cons_succ, List.nil_append, List.cons_append, List.append_nil, resT, Zdh, Zdi, Nat.mul_one, Zdj, Zdk, Zdl, Zdm, Zdn, Zdo, Zdp, Zdq, Zdr, Zds, Zdt, setT, Zdu, Zdv, Zdw, Zdx, Zdy, List.append_eq, Zdz, Zea, Zeb, Zec, Zed, Zee, Zef, Zeg, Zeh, Nat.add_zero, Zei, Zej, Zek, Zel, Zem, Zen, Int.toNat_natCast, Bool.false_eq_true, Int.reduceEq, Int.reduceLT, Int.reduceLE, Int.reduceNeg, not_false_eq_true, and_self, Zeo, Zep, Int.natCast_one, Int.cast_ofNat_Int, not_true_eq_false, decide_true, decide_false, true_implies, false_implies, Int.toNat_zero, List.length_cons, List.length_nil, Nat.zero_add, mb, Nat.reduceBEq, Bool.false_and, Bool.and_false, Zeq, tys, stb, Zer, Zes, Zet, Zeu, Zev, Zew, Bool.or_false, Bool.false_or, Bool.true_and, Bool.or_true, Bool.true_or, Zex, Zey, h1, len_str, awake_call]
    simp [oneOr]
  · have hA := split_call s (by omega)
    have hB := refsplit_call s (by omega)
    obtain ⟨l, x, i, hv, hln⟩ := splitV_is s
    rw [hv] at hA hB
    have hs : l.length ≤ 4000 := by omega
    have hS := same_T (toksV l) l (toksV_is l) hs
    have q0 : ∀ a b c d : V, aload env [.cells [a, b] 47, .cells [c, d] 47] 47 (.ptr 0 0) = some (.agg [a, b]) := fun a b c d => ld47 rfl
    have q1 : ∀ a b c d : V, aload env [.cells [a, b] 47, .cells [c, d] 47] 47 (.ptr 1 0) = some (.agg [c, d]) := fun a b c d => ld47 rfl
    simp -implicitDefEqProofs only [Tryd.f7, Zaa, Zab, Zac, Zad, Zae, Zaf, Zag, Zah, Zai, Zaj, Zak, Zal, Zam, Zan, Zao, Zap, Zaq, Zar, Zas, Zat, Zau, Zav, Zaw, Zax, Zay, Zaz, Zba, Zbb, Zbc, Zbd, Zbe, Zbf, Zbg, Zbh, Zbi, Zbj, Zbk, Zbl, Zbm, Zbn, Zbo, Zbp, Zbq, Zbr, Zbs, Zbt, Zbu, Zbv, Zbw, Zbx, Zby, Zbz, Zca, Zcb, Zcc, Zcd, Zce, Zcf, Zcg, evalT, Zch, Nat.reduceLT, Nat.reduceEqDiff, if_true, if_false, reduceIte, true_and, Zci, Zcj, map_ite', Zck, bind_ite', Zcl, Zcm, Zcn, Zco, Zcp, Zcq, Zcr, Zcs, Zct, Zcu, Zcv, Zcw, Zcx, Zcy, Zcz, Zda, Zdb, Zdc, Zdd, Zde, Zdf, Zdg, ofVal, ofCell, argT, List.getD_cons_zero, List.getD_cons_succ, List.getElem?_toArray, List.getElem?_cons_zero, List.getElem?_cons_succ, List.nil_append, List.cons_append, List.append_nil, resT, Zdh, Zdi, Nat.mul_one, Zdj, Zdk, Zdl, Zdm, Zdn, Zdo, Zdp, Zdq, Zdr, Zds, Zdt, setT, Zdu, Zdv, Zdw, Zdx, Zdy, List.append_eq, Zdz, Zea, Zeb, Zec, Zed, Zee, Zef, Zeg, Zeh, Nat.add_zero, Zei, Zej, Zek, Zel, Zem, Zen, Int.toNat_natCast, Bool.false_eq_true, Int.reduceEq, Int.reduceLT, Int.reduceLE, Int.reduceNeg, not_false_eq_true, and_self, Zeo, Zep, Int.natCast_one, Int.cast_ofNat_Int, not_true_eq_false, decide_true, decide_false, true_implies, false_implies, Int.toNat_zero, List.length_cons, List.length_nil, Nat.zero_add, mb, Nat.reduceBEq, Bool.false_and, Bool.and_false, Zeq, tys, stb, Zer, Zes, Zet, Zeu, Zev, Zew, Bool.or_false, Bool.false_or, Bool.true_and, Bool.or_true, Bool.true_or, Zex, Zey, storeList, List.take_zero, List.take_succ_cons, List.drop_zero, List.drop_succ_cons, List.drop_nil, List.all_cons, List.all_nil, List.set_cons_zero, List.set_cons_succ, cells_hsl, isCell_hsl, Nat.reduceAdd, Nat.reduceLeDiff, empty_mk, h1, len_str, awake_call, hA, hB, hS, zv47, s47, Zeg, isCell_int, q0, q1, eq47]
    simp [oneOr]
theorem splits_foundt {u : V} (h : Tyd Tryd.prog 4 9 [u]) : Go.Ab.Found env 7 [u] := by
  obtain ⟨s, e, _⟩ := tyd_str h (by kernel_rfl)
  simp only [List.cons.injEq, and_true] at e
  subst e
  exact splits_found s

end Go.Proofs.YtbikmhpobflfeaaDoor