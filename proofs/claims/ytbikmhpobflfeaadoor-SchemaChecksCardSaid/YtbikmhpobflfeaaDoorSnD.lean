/- Proved here: contracts of schema's checks. Conditions: those of each theorem; no statement of the seat is proved in this text. -/
import Derived.Test.YtbikmhpobflfeaaDoorSnC
namespace Go.Proofs.YtbikmhpobflfeaaDoor
open Go.Ab
set_option maxRecDepth 100000
set_option linter.unusedSimpArgs false
set_option linter.unusedVariables false
theorem at88 : env.P.funcs[88]? = some Tryd.f88 := by kernel_rfl
theorem at89 : env.P.funcs[89]? = some Tryd.f89 := by kernel_rfl
theorem at90 : env.P.funcs[90]? = some Tryd.f90 := by kernel_rfl
theorem at91 : env.P.funcs[91]? = some Tryd.f91 := by kernel_rfl
theorem at92 : env.P.funcs[92]? = some Tryd.f92 := by kernel_rfl
theorem at93 : env.P.funcs[93]? = some Tryd.f93 := by kernel_rfl
theorem at60 : env.P.funcs[60]? = some Tryd.f60 := by kernel_rfl
theorem tys3 : sz env 30 = some 1 ∧ sz env 32 = some 1 ∧ sz env 76 = some 1 ∧ env.P.underlying 74 = some (.slice 76) ∧ (∀ h p, aload env h 30 p = (loadCellsV h 1 p).bind (·[0]?)) ∧ (∀ h p, aload env h 32 p = (loadCellsV h 1 p).bind (·[0]?)) ∧ (∀ h p, aload env h 76 p = (loadCellsV h 1 p).bind (·[0]?)) := by
  have g30 : aggT env 30 = some false := by kernel_rfl
  have g32 : aggT env 32 = some false := by kernel_rfl
  have g76 : aggT env 76 = some false := by kernel_rfl
  exact ⟨by kernel_rfl, by kernel_rfl, by kernel_rfl, by kernel_rfl, fun _ _ => aload_one g30, fun _ _ => aload_one g32, fun _ _ => aload_one g76⟩
theorem alone_call (g : FuncId) (e : Int) (L : List AObj) (ts : List Nat) :
    callFn env (ev env) 88 [.func g [] [], .int .i64 e] ⟨L, ts⟩ = some (.func 89 [] [.ptr L.length 0, .ptr (L.length + 1) 0], ⟨L ++ [.cells [.func g [] []] 30, .cells [.int .i64 e] 32], ts⟩) := by
  refine callFn_eq rfl rfl at88 rfl (by simp [Tryd.f88]) (by simp [Tryd.f88]) ?_
  refine G_start ?_
  simp -implicitDefEqProofs only [Tryd.f88, Zaa, Zab, Zac, Zad, Zae, Zaf, Zag, Zah, Zai, Zaj, Zak, Zal, Zam, Zan, Zao, Zap, Zaq, Zar, Zas, Zat, Zau, Zav, Zaw, Zax, Zay, Zaz, Zba, Zbb, Zbc, Zbd, Zbe, Zbf, Zbg, Zbh, Zbi, Zbj, Zbk, Zbl, Zbm, Zbn, Zbo, Zbp, Zbq, Zbr, Zbs, Zbt, Zbu, Zbv, Zbw, Zbx, Zby, Zbz, Zca, Zcb, Zcc, Zcd, Zce, Zcf, Zcg, evalT, Zch, Nat.reduceLT, Nat.reduceEqDiff, if_true, if_false, reduceIte, true_and, Zci, Zcj, map_ite', Zck, bind_ite', Zcl, Zcm, Zcn, Zco, Zcp, Zcq, Zcr, Zcs, Zct, Zcu, Zcv, Zcw, Zcx, Zcy, Zcz, Zda, Zdb, Zdc, Zdd, Zde, Zdf, Zdg, ofVal, ofCell, argT, List.getD_cons_zero, List.getD_cons_succ, List.getElem?_toArray, List.getElem?_cons_zero, List.getElem?_cons_succ, List.nil_append, List.cons_append, List.append_nil, resT, Zdh, Zdi, Nat.mul_one, Zdj, Zdk, Zdl, Zdm, Zdn, Zdo, Zdp, Zdq, Zdr, Zds, Zdt, setT, Zdu, Zdv, Zdw, Zdx, Zdy, List.append_eq, Zdz, Zea, Zeb, Zec, Zed, Zee, Zef, Zeg, Zeh, Nat.add_zero, Zei, Zej, Zek, Zel, Zem, Zen, Int.toNat_natCast, Bool.false_eq_true, Int.reduceEq, Int.reduceLT, Int.reduceLE, Int.reduceNeg, not_false_eq_true, and_self, Zeo, Zep, Int.natCast_one, Int.cast_ofNat_Int, not_true_eq_false, decide_true, decide_false, true_implies, false_implies, Int.toNat_zero, List.length_cons, List.length_nil, Nat.zero_add, mb, Nat.reduceBEq, Bool.false_and, Bool.and_false, Zeq, tys, stb, Zer, Zes, Zet, Zeu, Zev, Zew, Bool.or_false, Bool.false_or, Bool.true_and, Bool.or_true, Bool.true_or, Zex, Zey, tys2, tys3, cells_func, Zeq, len_snoc]
  simp only [oneOr, List.append_assoc, List.cons_append, List.nil_append, and_self]
/-- a check of a schema alone -/
def Says (g : FuncId) (sc : List V) (b : Bool) : Prop := ∀ L ts, callFn env (ev env) g [.agg sc] ⟨L, ts⟩ = some (.bool b, ⟨L ++ [.cells sc 29], ts⟩)
theorem said_call (g : FuncId) (e : Int) (a b c d : V) (r : Bool) (hg : Says g [a, b, c, d] r) (L : List AObj) (ts : List Nat) (p q : Nat) (hp : L[p]? = some (.cells [.func g [] []] 30)) (hq : L[q]? = some (.cells [.int .i64 e] 32)) :
    callFn env (ev env) 89 [.agg [a, b, c, d], .ptr p 0, .ptr q 0] ⟨L, ts⟩ = some (.tup [.int .i64 (if r = true then e else 0), .int .i64 (-1)], ⟨L ++ [.cells [a, b, c, d] 29, .cells [a, b, c, d] 29], ts⟩) := by
  refine callFn_eq rfl rfl at89 rfl (by simp [Tryd.f89]) (by simp [Tryd.f89]) ?_
  refine G_start ?_
  cases r <;>
  · simp -implicitDefEqProofs only [Tryd.f89, Zaa, Zab, Zac, Zad, Zae, Zaf, Zag, Zah, Zai, Zaj, Zak, Zal, Zam, Zan, Zao, Zap, Zaq, Zar, Zas, Zat, Zau, Zav, Zaw, Zax, Zay, Zaz, Zba, Zbb, Zbc, Zbd, Zbe, Zbf, Zbg, Zbh, Zbi, Zbj, Zbk, Zbl, Zbm, Zbn, Zbo, Zbp, Zbq, Zbr, Zbs, Zbt, Zbu, Zbv, Zbw, Zbx, Zby, Zbz, Zca, Zcb, Zcc, Zcd, Zce, Zcf, Zcg, evalT, Zch, Nat.reduceLT, Nat.reduceEqDiff, if_true, if_false, reduceIte, true_and, Zci, Zcj, map_ite', Zck, bind_ite', Zcl, Zcm, Zcn, Zco, Zcp, Zcq, Zcr, Zcs, Zct, Zcu, Zcv, Zcw, Zcx, Zcy, Zcz, Zda, Zdb, Zdc, Zdd, Zde, Zdf, Zdg, ofVal, ofCell, argT, List.getD_cons_zero, List.getD_cons_succ, List.getElem?_toArray, List.getElem?_cons_zero, List.getElem?_cons_succ, List.nil_append, List.cons_append, List.append_nil, resT, Zdh, Zdi, Nat.mul_one, Zdj, Zdk, Zdl, Zdm, Zdn, Zdo, Zdp, Zdq, Zdr, Zds, Zdt, setT, Zdu, Zdv, Zdw, Zdx, Zdy, List.append_eq, Zdz, Zea, Zeb, Zec, Zed, Zee, Zef, Zeg, Zeh, Nat.add_zero, Zei, Zej, Zek, Zel, Zem, Zen, Int.toNat_natCast, Bool.false_eq_true, Int.reduceEq, Int.reduceLT, Int.reduceLE, Int.reduceNeg, not_false_eq_true, and_self, Zeo, Zep, Int.natCast_one, Int.cast_ofNat_Int, not_true_eq_false, decide_true, decide_false, true_implies, false_implies, Int.toNat_zero, List.length_cons, List.length_nil, Nat.zero_add, mb, Nat.reduceBEq, Bool.false_and, Bool.and_false, Zeq, tys, stb, Zer, Zes, Zet, Zeu, Zev, Zew, Bool.or_false, Bool.false_or, Bool.true_and, Bool.or_true, Bool.true_or, Zex, Zey, tys2, tys3, Zeg, load_one (get_app hp _), load_one (get_app (get_app hp _) _), load_one (get_app (get_app hq _) _), load_one (get_app hq _), get_app hp, get_app hq, agg29, load4_end, hg _ _]
    simp [oneOr]
theorem ck90 (nm : List UInt8) (hn : nm.length < 2 ^ 63) (b c d : V) : Says 90 [.str nm, b, c, d] (!decide (IsName nm)) := by
  intro L ts
  refine callFn_eq rfl rfl at90 rfl (by simp [Tryd.f90]) (by simp [Tryd.f90]) ?_
  refine G_start ?_
  by_cases h : IsName nm <;>
  · simp -implicitDefEqProofs only [Tryd.f90, Zaa, Zab, Zac, Zad, Zae, Zaf, Zag, Zah, Zai, Zaj, Zak, Zal, Zam, Zan, Zao, Zap, Zaq, Zar, Zas, Zat, Zau, Zav, Zaw, Zax, Zay, Zaz, Zba, Zbb, Zbc, Zbd, Zbe, Zbf, Zbg, Zbh, Zbi, Zbj, Zbk, Zbl, Zbm, Zbn, Zbo, Zbp, Zbq, Zbr, Zbs, Zbt, Zbu, Zbv, Zbw, Zbx, Zby, Zbz, Zca, Zcb, Zcc, Zcd, Zce, Zcf, Zcg, evalT, Zch, Nat.reduceLT, Nat.reduceEqDiff, if_true, if_false, reduceIte, true_and, Zci, Zcj, map_ite', Zck, bind_ite', Zcl, Zcm, Zcn, Zco, Zcp, Zcq, Zcr, Zcs, Zct, Zcu, Zcv, Zcw, Zcx, Zcy, Zcz, Zda, Zdb, Zdc, Zdd, Zde, Zdf, Zdg, ofVal, ofCell, argT, List.getD_cons_zero, List.getD_cons_succ, List.getElem?_toArray, List.getElem?_cons_zero, List.getElem?_cons_succ, List.nil_append, List.cons_append, List.append_nil, resT, Zdh, Zdi, Nat.mul_one, Zdj, Zdk, Zdl, Zdm, Zdn, Zdo, Zdp, Zdq, Zdr, Zds, Zdt, setT, Zdu, Zdv, Zdw, Zdx, Zdy, List.append_eq, Zdz, Zea, Zeb, Zec, Zed, Zee, Zef, Zeg, Zeh, Nat.add_zero, Zei, Zej, Zek, Zel, Zem, Zen, Int.toNat_natCast, Bool.false_eq_true, Int.reduceEq, Int.reduceLT, Int.reduceLE, Int.reduceNeg, not_false_eq_true, and_self, Zeo, Zep, Int.natCast_one, Int.cast_ofNat_Int, not_true_eq_false, decide_true, decide_false, true_implies, false_implies, Int.toNat_zero, List.length_cons, List.length_nil, Nat.zero_add, mb, Nat.reduceBEq, Bool.false_and, Bool.and_false, Zeq, tys, stb, Zer, Zes, Zet, Zeu, Zev, Zew, Bool.or_false, Bool.false_or, Bool.true_and, Bool.or_true, Bool.true_or, Zex, Zey, tys2, tys3, Zeg, heap_end, name_call nm hn, h, Bool.not_true, Bool.not_false]
    simp [oneOr]
theorem ck92 (a b c : V) (cv : V) (cs : List Col) (hc : IsC cv cs) : Says 92 [a, b, c, cv] (decide (cs.length = 0)) := by
  intro L ts
  refine callFn_eq rfl rfl at92 rfl (by simp [Tryd.f92]) (by simp [Tryd.f92]) ?_
  refine G_start ?_
  by_cases h : (cs.length : Int) = 0
  · have h' : cs.length = 0 := by omega
    simp -implicitDefEqProofs only [Tryd.f92, Zaa, Zab, Zac, Zad, Zae, Zaf, Zag, Zah, Zai, Zaj, Zak, Zal, Zam, Zan, Zao, Zap, Zaq, Zar, Zas, Zat, Zau, Zav, Zaw, Zax, Zay, Zaz, Zba, Zbb, Zbc, Zbd, Zbe, Zbf, Zbg, Zbh, Zbi, Zbj, Zbk, Zbl, Zbm, Zbn, Zbo, Zbp, Zbq, Zbr, Zbs, Zbt, Zbu, Zbv, Zbw, Zbx, Zby, Zbz, Zca, Zcb, Zcc, Zcd, Zce, Zcf, Zcg, evalT, Zch, Nat.reduceLT, Nat.reduceEqDiff, if_true, if_false, reduceIte, true_and, Zci, Zcj, map_ite', Zck, bind_ite', Zcl, Zcm, Zcn, Zco, Zcp, Zcq, Zcr, Zcs, Zct, Zcu, Zcv, Zcw, Zcx, Zcy, Zcz, Zda, Zdb, Zdc, Zdd, Zde, Zdf, Zdg, ofVal, ofCell, argT, List.getD_cons_zero, List.getD_cons_succ, List.getElem?_toArray, List.getElem?_cons_zero, List.getElem?_cons_succ, List.nil_append, List.cons_append, List.append_nil, resT, Zdh, Zdi, Nat.mul_one, Zdj, Zdk, Zdl, Zdm, Zdn, Zdo, Zdp, Zdq, Zdr, Zds, Zdt, setT, Zdu, Zdv, Zdw, Zdx, Zdy, List.append_eq, Zdz, Zea, Zeb, Zec, Zed, Zee, Zef, Zeg, Zeh, Nat.add_zero, Zei, Zej, Zek, Zel, Zem, Zen, Int.toNat_natCast, Bool.false_eq_true, Int.reduceEq, Int.reduceLT, Int.reduceLE, Int.reduceNeg, not_false_eq_true, and_self, Zeo, Zep, Int.natCast_one, Int.cast_ofNat_Int, not_true_eq_false, decide_true, decide_false, true_implies, false_implies, Int.toNat_zero, List.length_cons, List.length_nil, Nat.zero_add, mb, Nat.reduceBEq, Bool.false_and, Bool.and_false, Zeq, tys, stb, Zer, Zes, Zet, Zeu, Zev, Zew, Bool.or_false, Bool.false_or, Bool.true_and, Bool.or_true, Bool.true_or, Zex, Zey, tys2, tys3, Zeg, heap_end, len_C hc, h]
    simp [oneOr, h']
  · have h' : ¬ cs.length = 0 := by omega
    simp -implicitDefEqProofs only [Tryd.f92, Zaa, Zab, Zac, Zad, Zae, Zaf, Zag, Zah, Zai, Zaj, Zak, Zal, Zam, Zan, Zao, Zap, Zaq, Zar, Zas, Zat, Zau, Zav, Zaw, Zax, Zay, Zaz, Zba, Zbb, Zbc, Zbd, Zbe, Zbf, Zbg, Zbh, Zbi, Zbj, Zbk, Zbl, Zbm, Zbn, Zbo, Zbp, Zbq, Zbr, Zbs, Zbt, Zbu, Zbv, Zbw, Zbx, Zby, Zbz, Zca, Zcb, Zcc, Zcd, Zce, Zcf, Zcg, evalT, Zch, Nat.reduceLT, Nat.reduceEqDiff, if_true, if_false, reduceIte, true_and, Zci, Zcj, map_ite', Zck, bind_ite', Zcl, Zcm, Zcn, Zco, Zcp, Zcq, Zcr, Zcs, Zct, Zcu, Zcv, Zcw, Zcx, Zcy, Zcz, Zda, Zdb, Zdc, Zdd, Zde, Zdf, Zdg, ofVal, ofCell, argT, List.getD_cons_zero, List.getD_cons_succ, List.getElem?_toArray, List.getElem?_cons_zero, List.getElem?_cons_succ, List.nil_append, List.cons_append, List.append_nil, resT, Zdh, Zdi, Nat.mul_one, Zdj, Zdk, Zdl, Zdm, Zdn, Zdo, Zdp, Zdq, Zdr, Zds, Zdt, setT, Zdu, Zdv, Zdw, Zdx, Zdy, List.append_eq, Zdz, Zea, Zeb, Zec, Zed, Zee, Zef, Zeg, Zeh, Nat.add_zero, Zei, Zej, Zek, Zel, Zem, Zen, Int.toNat_natCast, Bool.false_eq_true, Int.reduceEq, Int.reduceLT, Int.reduceLE, Int.reduceNeg, not_false_eq_true, and_self, Zeo, Zep, Int.natCast_one, Int.cast_ofNat_Int, not_true_eq_false, decide_true, decide_false, true_implies, false_implies, Int.toNat_zero, List.length_cons, List.length_nil, Nat.zero_add, mb, Nat.reduceBEq, Bool.false_and, Bool.and_false, Zeq, tys, stb, Zer, Zes, Zet, Zeu, Zev, Zew, Bool.or_false, Bool.false_or, Bool.true_and, Bool.or_true, Bool.true_or, Zex, Zey, tys2, tys3, Zeg, heap_end, len_C hc, h]
    simp [oneOr, h']
theorem ck93 (a b c : V) (cv : V) (cs : List Col) (hc : IsC cv cs) : Says 93 [a, b, c, cv] (decide (16 < cs.length)) := by
  intro L ts
  refine callFn_eq rfl rfl at93 rfl (by simp [Tryd.f93]) (by simp [Tryd.f93]) ?_
  refine G_start ?_
  by_cases h : (16 : Int) < (cs.length : Int)
  · have h' : 16 < cs.length := by omega
    simp -implicitDefEqProofs only [Tryd.f93, Zaa, Zab, Zac, Zad, Zae, Zaf, Zag, Zah, Zai, Zaj, Zak, Zal, Zam, Zan, Zao, Zap, Zaq, Zar, Zas, Zat, Zau, Zav, Zaw, Zax, Zay, Zaz, Zba, Zbb, Zbc, Zbd, Zbe, Zbf, Zbg, Zbh, Zbi, Zbj, Zbk, Zbl, Zbm, Zbn, Zbo, Zbp, Zbq, Zbr, Zbs, Zbt, Zbu, Zbv, Zbw, Zbx, Zby, Zbz, Zca, Zcb, Zcc, Zcd, Zce, Zcf, Zcg, evalT, Zch, Nat.reduceLT, Nat.reduceEqDiff, if_true, if_false, reduceIte, true_and, Zci, Zcj, map_ite', Zck, bind_ite', Zcl, Zcm, Zcn, Zco, Zcp, Zcq, Zcr, Zcs, Zct, Zcu, Zcv, Zcw, Zcx, Zcy, Zcz, Zda, Zdb, Zdc, Zdd, Zde, Zdf, Zdg, ofVal, ofCell, argT, List.getD_cons_zero, List.getD_cons_succ, List.getElem?_toArray, List.getElem?_cons_zero, List.getElem?_cons_succ, List.nil_append, List.cons_append, List.append_nil, resT, Zdh, Zdi, Nat.mul_one, Zdj, Zdk, Zdl, Zdm, Zdn, Zdo, Zdp, Zdq, Zdr, Zds, Zdt, setT, Zdu, Zdv, Zdw, Zdx, Zdy, List.append_eq, Zdz, Zea, Zeb, Zec, Zed, Zee, Zef, Zeg, Zeh, Nat.add_zero, Zei, Zej, Zek, Zel, Zem, Zen, Int.toNat_natCast, Bool.false_eq_true, Int.reduceEq, Int.reduceLT, Int.reduceLE, Int.reduceNeg, not_false_eq_true, and_self, Zeo, Zep, Int.natCast_one, Int.cast_ofNat_Int, not_true_eq_false, decide_true, decide_false, true_implies, false_implies, Int.toNat_zero, List.length_cons, List.length_nil, Nat.zero_add, mb, Nat.reduceBEq, Bool.false_and, Bool.and_false, Zeq, tys, stb, Zer, Zes, Zet, Zeu, Zev, Zew, Bool.or_false, Bool.false_or, Bool.true_and, Bool.or_true, Bool.true_or, Zex, Zey, tys2, tys3, Zeg, heap_end, len_C hc, h]
    simp [oneOr, h']
  · have h' : ¬ 16 < cs.length := by omega
    simp -implicitDefEqProofs only [Tryd.f93, Zaa, Zab, Zac, Zad, Zae, Zaf, Zag, Zah, Zai, Zaj, Zak, Zal, Zam, Zan, Zao, Zap, Zaq, Zar, Zas, Zat, Zau, Zav, Zaw, Zax, Zay, Zaz, Zba, Zbb, Zbc, Zbd, Zbe, Zbf, Zbg, Zbh, Zbi, Zbj, Zbk, Zbl, Zbm, Zbn, Zbo, Zbp, Zbq, Zbr, Zbs, Zbt, Zbu, Zbv, Zbw, Zbx, Zby, Zbz, Zca, Zcb, Zcc, Zcd, Zce, Zcf, Zcg, evalT, Zch, Nat.reduceLT, Nat.reduceEqDiff, if_true, if_false, reduceIte, true_and, Zci, Zcj, map_ite', Zck, bind_ite', Zcl, Zcm, Zcn, Zco, Zcp, Zcq, Zcr, Zcs, Zct, Zcu, Zcv, Zcw, Zcx, Zcy, Zcz, Zda, Zdb, Zdc, Zdd, Zde, Zdf, Zdg, ofVal, ofCell, argT, List.getD_cons_zero, List.getD_cons_succ, List.getElem?_toArray, List.getElem?_cons_zero, List.getElem?_cons_succ, List.nil_append, List.cons_append, List.append_nil, resT, Zdh, Zdi, Nat.mul_one, Zdj, Zdk, Zdl, Zdm, Zdn, Zdo, Zdp, Zdq, Zdr, Zds, Zdt, setT, Zdu, Zdv, Zdw, Zdx, Zdy, List.append_eq, Zdz, Zea, Zeb, Zec, Zed, Zee, Zef, Zeg, Zeh, Nat.add_zero, Zei, Zej, Zek, Zel, Zem, Zen, Int.toNat_natCast, Bool.false_eq_true, Int.reduceEq, Int.reduceLT, Int.reduceLE, Int.reduceNeg, not_false_eq_true, and_self, Zeo, Zep, Int.natCast_one, Int.cast_ofNat_Int, not_true_eq_false, decide_true, decide_false, true_implies, false_implies, Int.toNat_zero, List.length_cons, List.length_nil, Nat.zero_add, mb, Nat.reduceBEq, Bool.false_and, Bool.and_false, Zeq, tys, stb, Zer, Zes, Zet, Zeu, Zev, Zew, Bool.or_false, Bool.false_or, Bool.true_and, Bool.or_true, Bool.true_or, Zex, Zey, tys2, tys3, Zeg, heap_end, len_C hc, h]
    simp [oneOr, h']
theorem ck91 (a d : V) (pb : Bool) (many : Int) : Says 91 [a, .bool pb, .int .i64 many, d] (decide ((pb = true ∧ many ≠ 0) ∨ (pb = false ∧ (many < 1 ∨ 50 < many)))) := by
  intro L ts
  refine callFn_eq rfl rfl at91 rfl (by simp [Tryd.f91]) (by simp [Tryd.f91]) ?_
  refine G_start ?_
  cases pb with
  | true =>
    by_cases h : many = 0 <;>
    · simp -implicitDefEqProofs only [Tryd.f91, Zaa, Zab, Zac, Zad, Zae, Zaf, Zag, Zah, Zai, Zaj, Zak, Zal, Zam, Zan, Zao, Zap, Zaq, Zar, Zas, Zat, Zau, Zav, Zaw, Zax, Zay, Zaz, Zba, Zbb, Zbc, Zbd, Zbe, Zbf, Zbg, Zbh, Zbi, Zbj, Zbk, Zbl, Zbm, Zbn, Zbo, Zbp, Zbq, Zbr, Zbs, Zbt, Zbu, Zbv, Zbw, Zbx, Zby, Zbz, Zca, Zcb, Zcc, Zcd, Zce, Zcf, Zcg, evalT, Zch, Nat.reduceLT, Nat.reduceEqDiff, if_true, if_false, reduceIte, true_and, Zci, Zcj, map_ite', Zck, bind_ite', Zcl, Zcm, Zcn, Zco, Zcp, Zcq, Zcr, Zcs, Zct, Zcu, Zcv, Zcw, Zcx, Zcy, Zcz, Zda, Zdb, Zdc, Zdd, Zde, Zdf, Zdg, ofVal, ofCell, argT, List.getD_cons_zero, List.getD_cons_succ, List.getElem?_toArray, List.getElem?_cons_zero, List.getElem?_cons_succ, List.nil_append, List.cons_append, List.append_nil, resT, Zdh, Zdi, Nat.mul_one, Zdj, Zdk, Zdl, Zdm, Zdn, Zdo, Zdp, Zdq, Zdr, Zds, Zdt, setT, Zdu, Zdv, Zdw, Zdx, Zdy, List.append_eq, Zdz, Zea, Zeb, Zec, Zed, Zee, Zef, Zeg, Zeh, Nat.add_zero, Zei, Zej, Zek, Zel, Zem, Zen, Int.toNat_natCast, Bool.false_eq_true, Int.reduceEq, Int.reduceLT, Int.reduceLE, Int.reduceNeg, not_false_eq_true, and_self, Zeo, Zep, Int.natCast_one, Int.cast_ofNat_Int, not_true_eq_false, decide_true, decide_false, true_implies, false_implies, Int.toNat_zero, List.length_cons, List.length_nil, Nat.zero_add, mb, Nat.reduceBEq, Bool.false_and, Bool.and_false, Zeq, tys, stb, Zer, Zes, Zet, Zeu, Zev, Zew, Bool.or_false, Bool.false_or, Bool.true_and, Bool.or_true, Bool.true_or, Zex, Zey, tys2, tys3, Zeg, heap_end, h]
      simp [oneOr, h]
  | false =>
    by_cases h : many < 1
    · simp -implicitDefEqProofs only [Tryd.f91, Zaa, Zab, Zac, Zad, Zae, Zaf, Zag, Zah, Zai, Zaj, Zak, Zal, Zam, Zan, Zao, Zap, Zaq, Zar, Zas, Zat, Zau, Zav, Zaw, Zax, Zay, Zaz, Zba, Zbb, Zbc, Zbd, Zbe, Zbf, Zbg, Zbh, Zbi, Zbj, Zbk, Zbl, Zbm, Zbn, Zbo, Zbp, Zbq, Zbr, Zbs, Zbt, Zbu, Zbv, Zbw, Zbx, Zby, Zbz, Zca, Zcb, Zcc, Zcd, Zce, Zcf, Zcg, evalT, Zch, Nat.reduceLT, Nat.reduceEqDiff, if_true, if_false, reduceIte, true_and, Zci, Zcj, map_ite', Zck, bind_ite', Zcl, Zcm, Zcn, Zco, Zcp, Zcq, Zcr, Zcs, Zct, Zcu, Zcv, Zcw, Zcx, Zcy, Zcz, Zda, Zdb, Zdc, Zdd, Zde, Zdf, Zdg, ofVal, ofCell, argT, List.getD_cons_zero, List.getD_cons_succ, List.getElem?_toArray, List.getElem?_cons_zero, List.getElem?_cons_succ, List.nil_append, List.cons_append, List.append_nil, resT, Zdh, Zdi, Nat.mul_one, Zdj, Zdk, Zdl, Zdm, Zdn, Zdo, Zdp, Zdq, Zdr, Zds, Zdt, setT, Zdu, Zdv, Zdw, Zdx, Zdy, List.append_eq, Zdz, Zea, Zeb, Zec, Zed, Zee, Zef, Zeg, Zeh, Nat.add_zero, Zei, Zej, Zek, Zel, Zem, Zen, Int.toNat_natCast, Bool.false_eq_true, Int.reduceEq, Int.reduceLT, Int.reduceLE, Int.reduceNeg, not_false_eq_true, and_self, Zeo, Zep, Int.natCast_one, Int.cast_ofNat_Int, not_true_eq_false, decide_true, decide_false, true_implies, false_implies, Int.toNat_zero, List.length_cons, List.length_nil, Nat.zero_add, mb, Nat.reduceBEq, Bool.false_and, Bool.and_false, Zeq, tys, stb, Zer, Zes, Zet, Zeu, Zev, Zew, Bool.or_false, Bool.false_or, Bool.true_and, Bool.or_true, Bool.true_or, Zex, Zey, tys2, tys3, Zeg, heap_end, h]
      simp [oneOr, h]
    · by_cases h2 : 50 < many <;>
      · simp -implicitDefEqProofs only [Tryd.f91, Zaa, Zab, Zac, Zad, Zae, Zaf, Zag, Zah, Zai, Zaj, Zak, Zal, Zam, Zan, Zao, Zap, Zaq, Zar, Zas, Zat, Zau, Zav, Zaw, Zax, Zay, Zaz, Zba, Zbb, Zbc, Zbd, Zbe, Zbf, Zbg, Zbh, Zbi, Zbj, Zbk, Zbl, Zbm, Zbn, Zbo, Zbp, Zbq, Zbr, Zbs, Zbt, Zbu, Zbv, Zbw, Zbx, Zby, Zbz, Zca, Zcb, Zcc, Zcd, Zce, Zcf, Zcg, evalT, Zch, Nat.reduceLT, Nat.reduceEqDiff, if_true, if_false, reduceIte, true_and, Zci, Zcj, map_ite', Zck, bind_ite', Zcl, Zcm, Zcn, Zco, Zcp, Zcq, Zcr, Zcs, Zct, Zcu, Zcv, Zcw, Zcx, Zcy, Zcz, Zda, Zdb, Zdc, Zdd, Zde, Zdf, Zdg, ofVal, ofCell, argT, List.getD_cons_zero, List.getD_cons_succ, List.getElem?_toArray, List.getElem?_cons_zero, List.getElem?_cons_succ, List.nil_append, List.cons_append, List.append_nil, resT, Zdh, Zdi, Nat.mul_one, Zdj, Zdk, Zdl, Zdm, Zdn, Zdo, Zdp, Zdq, Zdr, Zds, Zdt, setT, Zdu, Zdv, Zdw, Zdx, Zdy, List.append_eq, Zdz, Zea, Zeb, Zec, Zed, Zee, Zef, Zeg, Zeh, Nat.add_zero, Zei, Zej, Zek, Zel, Zem, Zen, Int.toNat_natCast, Bool.false_eq_true, Int.reduceEq, Int.reduceLT, Int.reduceLE, Int.reduceNeg, not_false_eq_true, and_self, Zeo, Zep, Int.natCast_one, Int.cast_ofNat_Int, not_true_eq_false, decide_true, decide_false, true_implies, false_implies, Int.toNat_zero, List.length_cons, List.length_nil, Nat.zero_add, mb, Nat.reduceBEq, Bool.false_and, Bool.and_false, Zeq, tys, stb, Zer, Zes, Zet, Zeu, Zev, Zew, Bool.or_false, Bool.false_or, Bool.true_and, Bool.or_true, Bool.true_or, Zex, Zey, tys2, tys3, Zeg, heap_end, h, h2]
        simp [oneOr, h, h2]
end Go.Proofs.YtbikmhpobflfeaaDoor

namespace Go.Proofs.YtbikmhpobflfeaaDoor
open Go.Ab
set_option maxRecDepth 100000
set_option linter.unusedSimpArgs false
set_option linter.unusedVariables false
theorem at94 : env.P.funcs[94]? = some Tryd.f94 := by kernel_rfl
theorem ck94 (nm : List UInt8) (pb : Bool) (many : Int) (cv : V) (cs : List Col) (hc : IsC cv cs) (ok : OkC cs) (hl : cs.length ≤ 1000) (hs : ∀ i, i < cs.length → Short (cs.getD i Col.none)) (L : List AObj) (ts : List Nat) :
    ∃ X, callFn env (ev env) 94 [.agg [.str nm, .bool pb, .int .i64 many, cv]] ⟨L, ts⟩ = some (.tup [.int .i64 (firstE cs cs.length 0).1, .int .i64 (firstE cs cs.length 0).2], ⟨L ++ X, ts⟩) := by
  suffices h : ∃ v σ', callFn env (ev env) 94 [.agg [.str nm, .bool pb, .int .i64 many, cv]] ⟨L, ts⟩ = some (v, σ') ∧ (v = .tup [.int .i64 (firstE cs cs.length 0).1, .int .i64 (firstE cs cs.length 0).2] ∧ ∃ X, σ' = ⟨L ++ X, ts⟩) by
    obtain ⟨v, σ', h1, rfl, X, rfl⟩ := h
    exact ⟨X, h1⟩
  refine callFn_any rfl rfl at94 rfl (by simp [Tryd.f94]) (by simp [Tryd.f94]) (G_start ?_)
  simp -implicitDefEqProofs only [Tryd.f94, Zaa, Zab, Zac, Zad, Zae, Zaf, Zag, Zah, Zai, Zaj, Zak, Zal, Zam, Zan, Zao, Zap, Zaq, Zar, Zas, Zat, Zau, Zav, Zaw, Zax, Zay, Zaz, Zba, Zbb, Zbc, Zbd, Zbe, Zbf, Zbg, Zbh, Zbi, Zbj, Zbk, Zbl, Zbm, Zbn, Zbo, Zbp, Zbq, Zbr, Zbs, Zbt, Zbu, Zbv, Zbw, Zbx, Zby, Zbz, Zca, Zcb, Zcc, Zcd, Zce, Zcf, Zcg, evalT, Zch, Nat.reduceLT, Nat.reduceEqDiff, if_true, if_false, reduceIte, true_and, Zci, Zcj, map_ite', Zck, bind_ite', Zcl, Zcm, Zcn, Zco, Zcp, Zcq, Zcr, Zcs, Zct, Zcu, Zcv, Zcw, Zcx, Zcy, Zcz, Zda, Zdb, Zdc, Zdd, Zde, Zdf, Zdg, ofVal, ofCell, argT, List.getD_cons_zero, List.getD_cons_succ, List.getElem?_toArray, List.getElem?_cons_zero, List.getElem?_cons_succ, List.nil_append, List.cons_append, List.append_nil, resT, Zdh, Zdi, Nat.mul_one, Zdj, Zdk, Zdl, Zdm, Zdn, Zdo, Zdp, Zdq, Zdr, Zds, Zdt, setT, Zdu, Zdv, Zdw, Zdx, Zdy, List.append_eq, Zdz, Zea, Zeb, Zec, Zed, Zee, Zef, Zeg, Zeh, Nat.add_zero, Zei, Zej, Zek, Zel, Zem, Zen, Int.toNat_natCast, Bool.false_eq_true, Int.reduceEq, Int.reduceLT, Int.reduceLE, Int.reduceNeg, not_false_eq_true, and_self, Zeo, Zep, Int.natCast_one, Int.cast_ofNat_Int, not_true_eq_false, decide_true, decide_false, true_implies, false_implies, Int.toNat_zero, List.length_cons, List.length_nil, Nat.zero_add, mb, Nat.reduceBEq, Bool.false_and, Bool.and_false, Zeq, tys, stb, Zer, Zes, Zet, Zeu, Zev, Zew, Bool.or_false, Bool.false_or, Bool.true_and, Bool.or_true, Bool.true_or, Zex, Zey, tys2, tys3, Zeg, heap_end, len_C hc]
  refine loop_rule (fun m T D σ => D = [] ∧ σ = ⟨L ++ [.cells [.str nm, .bool pb, .int .i64 many, cv] 29], ts⟩ ∧ T 1 = .ptr L.length 0 ∧ T 8 = .int .i64 cs.length ∧ ∃ i : Nat, T 9 = .int .i64 i ∧ i ≤ cs.length ∧ m = cs.length - i ∧ firstE cs cs.length 0 = firstE cs (cs.length - i) i) ?_ _ _ _ _ ⟨rfl, rfl, rfl, rfl, 0, rfl, by omega, rfl, rfl⟩
  rintro m T D σ ⟨rfl, rfl, t1, t8, i, t9, hi, rfl, hf⟩
  refine G_start ?_
  by_cases hlt : i < cs.length
  · have c1 : (i : Int) < (cs.length : Int) := by omega
    have e1 : IntKind.i64.wrap ((i : Int) + 1) = ((i + 1 : Nat) : Int) := by rw [wrap_i64 (by omega) (by omega)]; omega
    obtain ⟨q, hq⟩ : ∃ q, cs.length - i = q + 1 := ⟨cs.length - i - 1, by omega⟩
    have hq2 : q = cs.length - (i + 1) := by omega
    have hstep : firstE cs (cs.length - i) i = if colX cs i = 0 then firstE cs q (i + 1) else (colX cs i, (i : Int)) := by rw [hq]; rfl
    rw [hstep] at hf
    by_cases hz : colX cs i = 0
    · rw [if_pos hz, hq2] at hf
      simp -implicitDefEqProofs only [Zaa, Zab, Zac, Zad, Zae, Zaf, Zag, Zah, Zai, Zaj, Zak, Zal, Zam, Zan, Zao, Zap, Zaq, Zar, Zas, Zat, Zau, Zav, Zaw, Zax, Zay, Zaz, Zba, Zbb, Zbc, Zbd, Zbe, Zbf, Zbg, Zbh, Zbi, Zbj, Zbk, Zbl, Zbm, Zbn, Zbo, Zbp, Zbq, Zbr, Zbs, Zbt, Zbu, Zbv, Zbw, Zbx, Zby, Zbz, Zca, Zcb, Zcc, Zcd, Zce, Zcf, Zcg, evalT, Zch, Nat.reduceLT, Nat.reduceEqDiff, if_true, if_false, reduceIte, true_and, Zci, Zcj, map_ite', Zck, bind_ite', Zcl, Zcm, Zcn, Zco, Zcp, Zcq, Zcr, Zcs, Zct, Zcu, Zcv, Zcw, Zcx, Zcy, Zcz, Zda, Zdb, Zdc, Zdd, Zde, Zdf, Zdg, ofVal, ofCell, argT, List.getD_cons_zero, List.getD_cons_succ, List.getElem?_toArray, List.getElem?_cons_zero, List.getElem?_cons_succ, List.nil_append, List.cons_append, List.append_nil, resT, Zdh, Zdi, Nat.mul_one, Zdj, Zdk, Zdl, Zdm, Zdn, Zdo, Zdp, Zdq, Zdr, Zds, Zdt, setT, Zdu, Zdv, Zdw, Zdx, Zdy, List.append_eq, Zdz, Zea, Zeb, Zec, Zed, Zee, Zef, Zeg, Zeh, Nat.add_zero, Zei, Zej, Zek, Zel, Zem, Zen, Int.toNat_natCast, Bool.false_eq_true, Int.reduceEq, Int.reduceLT, Int.reduceLE, Int.reduceNeg, not_false_eq_true, and_self, Zeo, Zep, Int.natCast_one, Int.cast_ofNat_Int, not_true_eq_false, decide_true, decide_false, true_implies, false_implies, Int.toNat_zero, List.length_cons, List.length_nil, Nat.zero_add, mb, Nat.reduceBEq, Bool.false_and, Bool.and_false, Zeq, tys, stb, Zer, Zes, Zet, Zeu, Zev, Zew, Bool.or_false, Bool.false_or, Bool.true_and, Bool.or_true, Bool.true_or, Zex, Zey, tys2, tys3, t1, t8, t9, c1, e1, heap_end, column_call cv cs hc ok hl i hlt (hs i hlt), hz]
      exact ⟨cs.length - (i + 1), by omega, i + 1, rfl, by omega, rfl, hf⟩
    · rw [if_neg hz] at hf
      simp -implicitDefEqProofs only [Zaa, Zab, Zac, Zad, Zae, Zaf, Zag, Zah, Zai, Zaj, Zak, Zal, Zam, Zan, Zao, Zap, Zaq, Zar, Zas, Zat, Zau, Zav, Zaw, Zax, Zay, Zaz, Zba, Zbb, Zbc, Zbd, Zbe, Zbf, Zbg, Zbh, Zbi, Zbj, Zbk, Zbl, Zbm, Zbn, Zbo, Zbp, Zbq, Zbr, Zbs, Zbt, Zbu, Zbv, Zbw, Zbx, Zby, Zbz, Zca, Zcb, Zcc, Zcd, Zce, Zcf, Zcg, evalT, Zch, Nat.reduceLT, Nat.reduceEqDiff, if_true, if_false, reduceIte, true_and, Zci, Zcj, map_ite', Zck, bind_ite', Zcl, Zcm, Zcn, Zco, Zcp, Zcq, Zcr, Zcs, Zct, Zcu, Zcv, Zcw, Zcx, Zcy, Zcz, Zda, Zdb, Zdc, Zdd, Zde, Zdf, Zdg, ofVal, ofCell, argT, List.getD_cons_zero, List.getD_cons_succ, List.getElem?_toArray, List.getElem?_cons_zero, List.getElem?_cons_succ, List.nil_append, List.cons_append, List.append_nil, resT, Zdh, Zdi, Nat.mul_one, Zdj, Zdk, Zdl, Zdm, Zdn, Zdo, Zdp, Zdq, Zdr, Zds, Zdt, setT, Zdu, Zdv, Zdw, Zdx, Zdy, List.append_eq, Zdz, Zea, Zeb, Zec, Zed, Zee, Zef, Zeg, Zeh, Nat.add_zero, Zei, Zej, Zek, Zel, Zem, Zen, Int.toNat_natCast, Bool.false_eq_true, Int.reduceEq, Int.reduceLT, Int.reduceLE, Int.reduceNeg, not_false_eq_true, and_self, Zeo, Zep, Int.natCast_one, Int.cast_ofNat_Int, not_true_eq_false, decide_true, decide_false, true_implies, false_implies, Int.toNat_zero, List.length_cons, List.length_nil, Nat.zero_add, mb, Nat.reduceBEq, Bool.false_and, Bool.and_false, Zeq, tys, stb, Zer, Zes, Zet, Zeu, Zev, Zew, Bool.or_false, Bool.false_or, Bool.true_and, Bool.or_true, Bool.true_or, Zex, Zey, tys2, tys3, t1, t8, t9, c1, e1, heap_end, column_call cv cs hc ok hl i hlt (hs i hlt), hz]
      exact ⟨by rw [hf]; rfl, _, rfl⟩
  · have hi2 : i = cs.length := by omega
    subst hi2
    have c1 : ¬ (cs.length : Int) < (cs.length : Int) := by omega
    rw [Nat.sub_self] at hf
    simp -implicitDefEqProofs only [Zaa, Zab, Zac, Zad, Zae, Zaf, Zag, Zah, Zai, Zaj, Zak, Zal, Zam, Zan, Zao, Zap, Zaq, Zar, Zas, Zat, Zau, Zav, Zaw, Zax, Zay, Zaz, Zba, Zbb, Zbc, Zbd, Zbe, Zbf, Zbg, Zbh, Zbi, Zbj, Zbk, Zbl, Zbm, Zbn, Zbo, Zbp, Zbq, Zbr, Zbs, Zbt, Zbu, Zbv, Zbw, Zbx, Zby, Zbz, Zca, Zcb, Zcc, Zcd, Zce, Zcf, Zcg, evalT, Zch, Nat.reduceLT, Nat.reduceEqDiff, if_true, if_false, reduceIte, true_and, Zci, Zcj, map_ite', Zck, bind_ite', Zcl, Zcm, Zcn, Zco, Zcp, Zcq, Zcr, Zcs, Zct, Zcu, Zcv, Zcw, Zcx, Zcy, Zcz, Zda, Zdb, Zdc, Zdd, Zde, Zdf, Zdg, ofVal, ofCell, argT, List.getD_cons_zero, List.getD_cons_succ, List.getElem?_toArray, List.getElem?_cons_zero, List.getElem?_cons_succ, List.nil_append, List.cons_append, List.append_nil, resT, Zdh, Zdi, Nat.mul_one, Zdj, Zdk, Zdl, Zdm, Zdn, Zdo, Zdp, Zdq, Zdr, Zds, Zdt, setT, Zdu, Zdv, Zdw, Zdx, Zdy, List.append_eq, Zdz, Zea, Zeb, Zec, Zed, Zee, Zef, Zeg, Zeh, Nat.add_zero, Zei, Zej, Zek, Zel, Zem, Zen, Int.toNat_natCast, Bool.false_eq_true, Int.reduceEq, Int.reduceLT, Int.reduceLE, Int.reduceNeg, not_false_eq_true, and_self, Zeo, Zep, Int.natCast_one, Int.cast_ofNat_Int, not_true_eq_false, decide_true, decide_false, true_implies, false_implies, Int.toNat_zero, List.length_cons, List.length_nil, Nat.zero_add, mb, Nat.reduceBEq, Bool.false_and, Bool.and_false, Zeq, tys, stb, Zer, Zes, Zet, Zeu, Zev, Zew, Bool.or_false, Bool.false_or, Bool.true_and, Bool.or_true, Bool.true_or, Zex, Zey, t1, t8, t9, c1]
    exact ⟨by rw [hf]; rfl, _, rfl⟩

def alone (g : FuncId) (n : Nat) : V := .func 89 [] [.ptr n 0, .ptr (n + 1) 0]
def checksV : V := .row [alone 90 1, alone 91 3, alone 92 5, alone 93 7, .func 94 [] []] 5 .full
def checksH (o : AObj) : List AObj := [o, .cells [.func 90 [] []] 30, .cells [.int .i64 19] 32, .cells [.func 91 [] []] 30, .cells [.int .i64 2] 32, .cells [.func 92 [] []] 30, .cells [.int .i64 3] 32, .cells [.func 93 [] []] 30, .cells [.int .i64 4] 32]
theorem row_checks : rowO env 74 5 [(0, .func 89 [] [.ptr 1 0, .ptr 2 0]), (1, .func 89 [] [.ptr 3 0, .ptr 4 0]), (2, .func 89 [] [.ptr 5 0, .ptr 6 0]), (3, .func 89 [] [.ptr 7 0, .ptr 8 0]), (4, .func 94 [] [])] = some checksV := by kernel_rfl
theorem checks_call (o : AObj) : callFn env (ev env) 60 [] ⟨[o], []⟩ = some (checksV, ⟨checksH o, []⟩) := by
  refine callFn_eq rfl rfl at60 rfl (by simp [Tryd.f60]) (by simp [Tryd.f60]) ?_
  refine G_start ?_
  simp -implicitDefEqProofs only [Tryd.f60, Zaa, Zab, Zac, Zad, Zae, Zaf, Zag, Zah, Zai, Zaj, Zak, Zal, Zam, Zan, Zao, Zap, Zaq, Zar, Zas, Zat, Zau, Zav, Zaw, Zax, Zay, Zaz, Zba, Zbb, Zbc, Zbd, Zbe, Zbf, Zbg, Zbh, Zbi, Zbj, Zbk, Zbl, Zbm, Zbn, Zbo, Zbp, Zbq, Zbr, Zbs, Zbt, Zbu, Zbv, Zbw, Zbx, Zby, Zbz, Zca, Zcb, Zcc, Zcd, Zce, Zcf, Zcg, evalT, Zch, Nat.reduceLT, Nat.reduceEqDiff, if_true, if_false, reduceIte, true_and, Zci, Zcj, map_ite', Zck, bind_ite', Zcl, Zcm, Zcn, Zco, Zcp, Zcq, Zcr, Zcs, Zct, Zcu, Zcv, Zcw, Zcx, Zcy, Zcz, Zda, Zdb, Zdc, Zdd, Zde, Zdf, Zdg, ofVal, ofCell, argT, List.getD_cons_zero, List.getD_cons_succ, List.getElem?_toArray, List.getElem?_cons_zero, List.getElem?_cons_succ, List.nil_append, List.cons_append, List.append_nil, resT, Zdh, Zdi, Nat.mul_one, Zdj, Zdk, Zdl, Zdm, Zdn, Zdo, Zdp, Zdq, Zdr, Zds, Zdt, setT, Zdu, Zdv, Zdw, Zdx, Zdy, List.append_eq, Zdz, Zea, Zeb, Zec, Zed, Zee, Zef, Zeg, Zeh, Nat.add_zero, Zei, Zej, Zek, Zel, Zem, Zen, Int.toNat_natCast, Bool.false_eq_true, Int.reduceEq, Int.reduceLT, Int.reduceLE, Int.reduceNeg, not_false_eq_true, and_self, Zeo, Zep, Int.natCast_one, Int.cast_ofNat_Int, not_true_eq_false, decide_true, decide_false, true_implies, false_implies, Int.toNat_zero, List.length_cons, List.length_nil, Nat.zero_add, mb, Nat.reduceBEq, Bool.false_and, Bool.and_false, Zeq, tys, stb, Zer, Zes, Zet, Zeu, Zev, Zew, Bool.or_false, Bool.false_or, Bool.true_and, Bool.or_true, Bool.true_or, Zex, Zey, tys2, tys3, alone_call, opT_rowO, Nat.reduceAdd, row_checks]
  simp [oneOr, checksH]
theorem firstE_zero (cs : List Col) : ∀ m i, (firstE cs m i).1 = 0 → firstE cs m i = (0, -1)
  | 0, i, _ => rfl
  | m + 1, i, h => by
    simp only [firstE] at h ⊢
    by_cases hz : colX cs i = 0
    · rw [if_pos hz] at h ⊢; exact firstE_zero cs m (i + 1) h
    · rw [if_neg hz] at h; exact absurd h hz
open Classical in
noncomputable def restE (nm : List UInt8) (pb : Bool) (many : Int) (cs : List Col) : Nat → Int × Int
  | 0 => checkE nm pb many cs
  | 1 => if (pb = true ∧ many ≠ 0) ∨ (pb = false ∧ (many < 1 ∨ 50 < many)) then (2, -1) else if cs.length = 0 then (3, -1) else if 16 < cs.length then (4, -1) else firstE cs cs.length 0
  | 2 => if cs.length = 0 then (3, -1) else if 16 < cs.length then (4, -1) else firstE cs cs.length 0
  | 3 => if 16 < cs.length then (4, -1) else firstE cs cs.length 0
  | 4 => firstE cs cs.length 0
  | _ => (0, -1)
theorem idxF0 : vIndexAddr 1 checksV (.int .i64 0) = some (.rptr [alone 90 1, alone 91 3, alone 92 5, alone 93 7, .func 94 [] []]) := rfl
theorem idxF1 : vIndexAddr 1 checksV (.int .i64 1) = some (.rptr [alone 91 3, alone 92 5, alone 93 7, .func 94 [] []]) := rfl
theorem idxF2 : vIndexAddr 1 checksV (.int .i64 2) = some (.rptr [alone 92 5, alone 93 7, .func 94 [] []]) := rfl
theorem idxF3 : vIndexAddr 1 checksV (.int .i64 3) = some (.rptr [alone 93 7, .func 94 [] []]) := rfl
theorem idxF4 : vIndexAddr 1 checksV (.int .i64 4) = some (.rptr [.func 94 [] []]) := rfl
theorem lenF : vLenT (some (.slice 76)) checksV = some (.int .i64 5) := rfl
theorem load4_0 (o : List V) (a b c d : V) (t : TypeId) (X : List AObj) : loadCellsV (.cells [a, b, c, d] t :: X) 4 (.ptr 0 0) = some [a, b, c, d] := load4_ptr rfl
theorem at23 : env.P.funcs[23]? = some Tryd.f23 := by kernel_rfl
theorem wrap1 : IntKind.i64.wrap (0 + 1) = 1 ∧ IntKind.i64.wrap (1 + 1) = 2 ∧ IntKind.i64.wrap (2 + 1) = 3 ∧ IntKind.i64.wrap (3 + 1) = 4 ∧ IntKind.i64.wrap (4 + 1) = 5 := by
  refine ⟨?_, ?_, ?_, ?_, ?_⟩ <;> rw [wrap_i64 (by omega) (by omega)] <;> rfl
open Classical in
theorem check_call (nm : List UInt8) (pb : Bool) (many : Int) (cv : V) (cs : List Col) (hc : IsC cv cs) (ok : OkC cs) (hn : nm.length < 2 ^ 63) (hl : cs.length ≤ 1000) (hs : ∀ i, i < cs.length → Short (cs.getD i Col.none)) (σ : S) :
    callFn env (ev env) 23 [.agg [.str nm, .bool pb, .int .i64 many, cv]] σ = some (.tup [.int .i64 (checkE nm pb many cs).1, .int .i64 (checkE nm pb many cs).2], σ) := by
  refine callFn_pure rfl rfl (by simp [V.closed, V.closed.closedL, closed_C hc ok]) at23 rfl (by simp [Tryd.f23]) (by simp [Tryd.f23]) (G_start ?_) σ
  simp -implicitDefEqProofs only [Tryd.f23, Zaa, Zab, Zac, Zad, Zae, Zaf, Zag, Zah, Zai, Zaj, Zak, Zal, Zam, Zan, Zao, Zap, Zaq, Zar, Zas, Zat, Zau, Zav, Zaw, Zax, Zay, Zaz, Zba, Zbb, Zbc, Zbd, Zbe, Zbf, Zbg, Zbh, Zbi, Zbj, Zbk, Zbl, Zbm, Zbn, Zbo, Zbp, Zbq, Zbr, Zbs, Zbt, Zbu, Zbv, Zbw, Zbx, Zby, Zbz, Zca, Zcb, Zcc, Zcd, Zce, Zcf, Zcg, evalT, Zch, Nat.reduceLT, Nat.reduceEqDiff, if_true, if_false, reduceIte, true_and, Zci, Zcj, map_ite', Zck, bind_ite', Zcl, Zcm, Zcn, Zco, Zcp, Zcq, Zcr, Zcs, Zct, Zcu, Zcv, Zcw, Zcx, Zcy, Zcz, Zda, Zdb, Zdc, Zdd, Zde, Zdf, Zdg, ofVal, ofCell, argT, List.getD_cons_zero, List.getD_cons_succ, List.getElem?_toArray, List.getElem?_cons_zero, List.getElem?_cons_succ, List.nil_append, List.cons_append, List.append_nil, resT, Zdh, Zdi, Nat.mul_one, Zdj, Zdk, Zdl, Zdm, Zdn, Zdo, Zdp, Zdq, Zdr, Zds, Zdt, setT, Zdu, Zdv, Zdw, Zdx, Zdy, List.append_eq, Zdz, Zea, Zeb, Zec, Zed, Zee, Zef, Zeg, Zeh, Nat.add_zero, Zei, Zej, Zek, Zel, Zem, Zen, Int.toNat_natCast, Bool.false_eq_true, Int.reduceEq, Int.reduceLT, Int.reduceLE, Int.reduceNeg, not_false_eq_true, and_self, Zeo, Zep, Int.natCast_one, Int.cast_ofNat_Int, not_true_eq_false, decide_true, decide_false, true_implies, false_implies, Int.toNat_zero, List.length_cons, List.length_nil, Nat.zero_add, mb, Nat.reduceBEq, Bool.false_and, Bool.and_false, Zeq, tys, stb, Zer, Zes, Zet, Zeu, Zev, Zew, Bool.or_false, Bool.false_or, Bool.true_and, Bool.or_true, Bool.true_or, Zex, Zey, tys2, tys3, empty_mk, Zeg, checks_call, lenF]
  generalize hr : checkE nm pb many cs = r
  refine loop_rule (fun m T D σ => D = [] ∧ T 1 = .ptr 0 0 ∧ T 8 = checksV ∧ T 9 = .int .i64 5 ∧ ∃ (i : Nat) (X : List AObj), σ = ⟨checksH (.cells [.str nm, .bool pb, .int .i64 many, cv] 29) ++ X, []⟩ ∧ T 10 = .int .i64 i ∧ i ≤ 5 ∧ m = 5 - i ∧ restE nm pb many cs i = r) ?_ _ _ _ _
    ⟨rfl, rfl, rfl, rfl, 0, [], by rw [List.append_nil], rfl, by omega, rfl, hr⟩
  clear hr
  rintro m T D σ ⟨rfl, t1, t8, t9, i, X, rfl, t10, hi, rfl, hr⟩
  refine G_start ?_
  have hfin : ∀ a b : Int, (a, b) = r → sealV (checksH (.cells [.str nm, .bool pb, .int .i64 many, cv] 29) ++ X) sealDepth (oneOr [V.int .i64 a, V.int .i64 b]) = some (.tup [.int .i64 r.1, .int .i64 r.2]) := fun a b h => by
    subst h
    simp only [oneOr, sealDepth, sealV_tup, mapM_seal_cons, mapM_seal_nil, sealV_int, Option.bind_some, Option.map_some]
  have hfin2 : ∀ (Y : List AObj) (a b : Int), (a, b) = r → sealV Y sealDepth (oneOr [V.int .i64 a, V.int .i64 b]) = some (.tup [.int .i64 r.1, .int .i64 r.2]) := fun Y a b h => by
    subst h
    simp only [oneOr, sealDepth, sealV_tup, mapM_seal_cons, mapM_seal_nil, sealV_int, Option.bind_some, Option.map_some]
  have hL : loadCellsV (checksH (.cells [.str nm, .bool pb, .int .i64 many, cv] 29) ++ X) 4 (.ptr 0 0) = some [.str nm, .bool pb, .int .i64 many, cv] := load4_ptr rfl
  have hi' : i = 0 ∨ i = 1 ∨ i = 2 ∨ i = 3 ∨ i = 4 ∨ i = 5 := by omega
  rcases hi' with rfl | rfl | rfl | rfl | rfl | rfl
  · have hC := said_call 90 19 _ _ _ _ _ (ck90 nm hn (.bool pb) (.int .i64 many) cv) (checksH (.cells [.str nm, .bool pb, .int .i64 many, cv] 29) ++ X) [] 1 2 rfl rfl
    by_cases h : IsName nm
    · simp only [h, decide_true, Bool.not_true, Bool.false_eq_true, if_false] at hC
      have hr1 : restE nm pb many cs 1 = r := by rw [← hr]; show _ = checkE nm pb many cs; unfold checkE; rw [if_neg (by simp [h])]; rfl
      simp -implicitDefEqProofs only [Zaa, Zab, Zac, Zad, Zae, Zaf, Zag, Zah, Zai, Zaj, Zak, Zal, Zam, Zan, Zao, Zap, Zaq, Zar, Zas, Zat, Zau, Zav, Zaw, Zax, Zay, Zaz, Zba, Zbb, Zbc, Zbd, Zbe, Zbf, Zbg, Zbh, Zbi, Zbj, Zbk, Zbl, Zbm, Zbn, Zbo, Zbp, Zbq, Zbr, Zbs, Zbt, Zbu, Zbv, Zbw, Zbx, Zby, Zbz, Zca, Zcb, Zcc, Zcd, Zce, Zcf, Zcg, evalT, Zch, Nat.reduceLT, Nat.reduceEqDiff, if_true, if_false, reduceIte, true_and, Zci, Zcj, map_ite', Zck, bind_ite', Zcl, Zcm, Zcn, Zco, Zcp, Zcq, Zcr, Zcs, Zct, Zcu, Zcv, Zcw, Zcx, Zcy, Zcz, Zda, Zdb, Zdc, Zdd, Zde, Zdf, Zdg, ofVal, ofCell, argT, List.getD_cons_zero, List.getD_cons_succ, List.getElem?_toArray, List.getElem?_cons_zero, List.getElem?_cons_succ, List.nil_append, List.cons_append, List.append_nil, resT, Zdh, Zdi, Nat.mul_one, Zdj, Zdk, Zdl, Zdm, Zdn, Zdo, Zdp, Zdq, Zdr, Zds, Zdt, setT, Zdu, Zdv, Zdw, Zdx, Zdy, List.append_eq, Zdz, Zea, Zeb, Zec, Zed, Zee, Zef, Zeg, Zeh, Nat.add_zero, Zei, Zej, Zek, Zel, Zem, Zen, Int.toNat_natCast, Bool.false_eq_true, Int.reduceEq, Int.reduceLT, Int.reduceLE, Int.reduceNeg, not_false_eq_true, and_self, Zeo, Zep, Int.natCast_one, Int.cast_ofNat_Int, not_true_eq_false, decide_true, decide_false, true_implies, false_implies, Int.toNat_zero, List.length_cons, List.length_nil, Nat.zero_add, mb, Nat.reduceBEq, Bool.false_and, Bool.and_false, Zeq, tys, stb, Zer, Zes, Zet, Zeu, Zev, Zew, Bool.or_false, Bool.false_or, Bool.true_and, Bool.or_true, Bool.true_or, Zex, Zey, tys2, tys3, t1, t8, t9, t10, Int.natCast_zero, idxF0, load_hd, agg29, hL, alone, hC, wrap1]
      exact ⟨4, by omega, 1, _, by rw [List.append_assoc], rfl, by omega, rfl, hr1⟩
    · simp only [h, decide_false, Bool.not_false, if_true] at hC
      have hr1 : (19, -1) = r := by rw [← hr]; show _ = checkE nm pb many cs; unfold checkE; rw [if_pos (by simp [h])]
      simp -implicitDefEqProofs only [Zaa, Zab, Zac, Zad, Zae, Zaf, Zag, Zah, Zai, Zaj, Zak, Zal, Zam, Zan, Zao, Zap, Zaq, Zar, Zas, Zat, Zau, Zav, Zaw, Zax, Zay, Zaz, Zba, Zbb, Zbc, Zbd, Zbe, Zbf, Zbg, Zbh, Zbi, Zbj, Zbk, Zbl, Zbm, Zbn, Zbo, Zbp, Zbq, Zbr, Zbs, Zbt, Zbu, Zbv, Zbw, Zbx, Zby, Zbz, Zca, Zcb, Zcc, Zcd, Zce, Zcf, Zcg, evalT, Zch, Nat.reduceLT, Nat.reduceEqDiff, if_true, if_false, reduceIte, true_and, Zci, Zcj, map_ite', Zck, bind_ite', Zcl, Zcm, Zcn, Zco, Zcp, Zcq, Zcr, Zcs, Zct, Zcu, Zcv, Zcw, Zcx, Zcy, Zcz, Zda, Zdb, Zdc, Zdd, Zde, Zdf, Zdg, ofVal, ofCell, argT, List.getD_cons_zero, List.getD_cons_succ, List.getElem?_toArray, List.getElem?_cons_zero, List.getElem?_cons_succ, List.nil_append, List.cons_append, List.append_nil, resT, Zdh, Zdi, Nat.mul_one, Zdj, Zdk, Zdl, Zdm, Zdn, Zdo, Zdp, Zdq, Zdr, Zds, Zdt, setT, Zdu, Zdv, Zdw, Zdx, Zdy, List.append_eq, Zdz, Zea, Zeb, Zec, Zed, Zee, Zef, Zeg, Zeh, Nat.add_zero, Zei, Zej, Zek, Zel, Zem, Zen, Int.toNat_natCast, Bool.false_eq_true, Int.reduceEq, Int.reduceLT, Int.reduceLE, Int.reduceNeg, not_false_eq_true, and_self, Zeo, Zep, Int.natCast_one, Int.cast_ofNat_Int, not_true_eq_false, decide_true, decide_false, true_implies, false_implies, Int.toNat_zero, List.length_cons, List.length_nil, Nat.zero_add, mb, Nat.reduceBEq, Bool.false_and, Bool.and_false, Zeq, tys, stb, Zer, Zes, Zet, Zeu, Zev, Zew, Bool.or_false, Bool.false_or, Bool.true_and, Bool.or_true, Bool.true_or, Zex, Zey, tys2, tys3, t1, t8, t9, t10, Int.natCast_zero, idxF0, load_hd, agg29, hL, alone, hC, wrap1]
      exact hfin2 _ _ _ hr1
  · have hC := said_call 91 2 _ _ _ _ _ (ck91 (.str nm) cv pb many) (checksH (.cells [.str nm, .bool pb, .int .i64 many, cv] 29) ++ X) [] 3 4 rfl rfl
    by_cases h : (pb = true ∧ many ≠ 0) ∨ (pb = false ∧ (many < 1 ∨ 50 < many))
    · simp only [h, decide_true, if_true] at hC
      have hr1 : (2, -1) = r := by rw [← hr]; simp only [restE]; rw [if_pos h]
      simp -implicitDefEqProofs only [Zaa, Zab, Zac, Zad, Zae, Zaf, Zag, Zah, Zai, Zaj, Zak, Zal, Zam, Zan, Zao, Zap, Zaq, Zar, Zas, Zat, Zau, Zav, Zaw, Zax, Zay, Zaz, Zba, Zbb, Zbc, Zbd, Zbe, Zbf, Zbg, Zbh, Zbi, Zbj, Zbk, Zbl, Zbm, Zbn, Zbo, Zbp, Zbq, Zbr, Zbs, Zbt, Zbu, Zbv, Zbw, Zbx, Zby, Zbz, Zca, Zcb, Zcc, Zcd, Zce, Zcf, Zcg, evalT, Zch, Nat.reduceLT, Nat.reduceEqDiff, if_true, if_false, reduceIte, true_and, Zci, Zcj, map_ite', Zck, bind_ite', Zcl, Zcm, Zcn, Zco, Zcp, Zcq, Zcr, Zcs, Zct, Zcu, Zcv, Zcw, Zcx, Zcy, Zcz, Zda, Zdb, Zdc, Zdd, Zde, Zdf, Zdg, ofVal, ofCell, argT, List.getD_cons_zero, List.getD_cons_succ, List.getElem?_toArray, List.getElem?_cons_zero, List.getElem?_cons_succ, List.nil_append, List.cons_append, List.append_nil, resT, Zdh, Zdi, Nat.mul_one, Zdj, Zdk, Zdl, Zdm, Zdn, Zdo, Zdp, Zdq, Zdr, Zds, Zdt, setT, Zdu, Zdv, Zdw, Zdx, Zdy, List.append_eq, Zdz, Zea, Zeb, Zec, Zed, Zee, Zef, Zeg, Zeh, Nat.add_zero, Zei, Zej, Zek, Zel, Zem, Zen, Int.toNat_natCast, Bool.false_eq_true, Int.reduceEq, Int.reduceLT, Int.reduceLE, Int.reduceNeg, not_false_eq_true, and_self, Zeo, Zep, Int.natCast_one, Int.cast_ofNat_Int, not_true_eq_false, decide_true, decide_false, true_implies, false_implies, Int.toNat_zero, List.length_cons, List.length_nil, Nat.zero_add, mb, Nat.reduceBEq, Bool.false_and, Bool.and_false, Zeq, tys, stb, Zer, Zes, Zet, Zeu, Zev, Zew, Bool.or_false, Bool.false_or, Bool.true_and, Bool.or_true, Bool.true_or, Zex, Zey, tys2, tys3, t1, t8, t9, t10, Int.natCast_one, idxF1, load_hd, agg29, hL, alone, hC, wrap1]
      exact hfin2 _ _ _ hr1
    · simp only [h, decide_false, Bool.false_eq_true, if_false] at hC
      have hr1 : restE nm pb many cs 2 = r := by rw [← hr]; simp only [restE]; rw [if_neg h]
      simp -implicitDefEqProofs only [Zaa, Zab, Zac, Zad, Zae, Zaf, Zag, Zah, Zai, Zaj, Zak, Zal, Zam, Zan, Zao, Zap, Zaq, Zar, Zas, Zat, Zau, Zav, Zaw, Zax, Zay, Zaz, Zba, Zbb, Zbc, Zbd, Zbe, Zbf, Zbg, Zbh, Zbi, Zbj, Zbk, Zbl, Zbm, Zbn, Zbo, Zbp, Zbq, Zbr, Zbs, Zbt, Zbu, Zbv, Zbw, Zbx, Zby, Zbz, Zca, Zcb, Zcc, Zcd, Zce, Zcf, Zcg, evalT, Zch, Nat.reduceLT, Nat.reduceEqDiff, if_true, if_false, reduceIte, true_and, Zci, Zcj, map_ite', Zck, bind_ite', Zcl, Zcm, Zcn, Zco, Zcp, Zcq, Zcr, Zcs, Zct, Zcu, Zcv, Zcw, Zcx, Zcy, Zcz, Zda, Zdb, Zdc, Zdd, Zde, Zdf, Zdg, ofVal, ofCell, argT, List.getD_cons_zero, List.getD_cons_succ, List.getElem?_toArray, List.getElem?_cons_zero, List.getElem?_cons_succ, List.nil_append, List.cons_append, List.append_nil, resT, Zdh, Zdi, Nat.mul_one, Zdj, Zdk, Zdl, Zdm, Zdn, Zdo, Zdp, Zdq, Zdr, Zds, Zdt, setT, Zdu, Zdv, Zdw, Zdx, Zdy, List.append_eq, Zdz, Zea, Zeb, Zec, Zed, Zee, Zef, Zeg, Zeh, Nat.add_zero, Zei, Zej, Zek, Zel, Zem, Zen, Int.toNat_natCast, Bool.false_eq_true, Int.reduceEq, Int.reduceLT, Int.reduceLE, Int.reduceNeg, not_false_eq_true, and_self, Zeo, Zep, Int.natCast_one, Int.cast_ofNat_Int, not_true_eq_false, decide_true, decide_false, true_implies, false_implies, Int.toNat_zero, List.length_cons, List.length_nil, Nat.zero_add, mb, Nat.reduceBEq, Bool.false_and, Bool.and_false, Zeq, tys, stb, Zer, Zes, Zet, Zeu, Zev, Zew, Bool.or_false, Bool.false_or, Bool.true_and, Bool.or_true, Bool.true_or, Zex, Zey, tys2, tys3, t1, t8, t9, t10, Int.natCast_one, idxF1, load_hd, agg29, hL, alone, hC, wrap1]
      exact ⟨3, by omega, 2, _, by rw [List.append_assoc], rfl, by omega, rfl, hr1⟩
  · have hC := said_call 92 3 _ _ _ _ _ (ck92 (.str nm) (.bool pb) (.int .i64 many) cv cs hc) (checksH (.cells [.str nm, .bool pb, .int .i64 many, cv] 29) ++ X) [] 5 6 rfl rfl
    by_cases h : cs.length = 0
    · simp only [h, decide_true, if_true] at hC
      have hr1 : (3, -1) = r := by rw [← hr]; simp only [restE]; rw [if_pos h]
      simp -implicitDefEqProofs only [Zaa, Zab, Zac, Zad, Zae, Zaf, Zag, Zah, Zai, Zaj, Zak, Zal, Zam, Zan, Zao, Zap, Zaq, Zar, Zas, Zat, Zau, Zav, Zaw, Zax, Zay, Zaz, Zba, Zbb, Zbc, Zbd, Zbe, Zbf, Zbg, Zbh, Zbi, Zbj, Zbk, Zbl, Zbm, Zbn, Zbo, Zbp, Zbq, Zbr, Zbs, Zbt, Zbu, Zbv, Zbw, Zbx, Zby, Zbz, Zca, Zcb, Zcc, Zcd, Zce, Zcf, Zcg, evalT, Zch, Nat.reduceLT, Nat.reduceEqDiff, if_true, if_false, reduceIte, true_and, Zci, Zcj, map_ite', Zck, bind_ite', Zcl, Zcm, Zcn, Zco, Zcp, Zcq, Zcr, Zcs, Zct, Zcu, Zcv, Zcw, Zcx, Zcy, Zcz, Zda, Zdb, Zdc, Zdd, Zde, Zdf, Zdg, ofVal, ofCell, argT, List.getD_cons_zero, List.getD_cons_succ, List.getElem?_toArray, List.getElem?_cons_zero, List.getElem?_cons_succ, List.nil_append, List.cons_append, List.append_nil, resT, Zdh, Zdi, Nat.mul_one, Zdj, Zdk, Zdl, Zdm, Zdn, Zdo, Zdp, Zdq, Zdr, Zds, Zdt, setT, Zdu, Zdv, Zdw, Zdx, Zdy, List.append_eq, Zdz, Zea, Zeb, Zec, Zed, Zee, Zef, Zeg, Zeh, Nat.add_zero, Zei, Zej, Zek, Zel, Zem, Zen, Int.toNat_natCast, Bool.false_eq_true, Int.reduceEq, Int.reduceLT, Int.reduceLE, Int.reduceNeg, not_false_eq_true, and_self, Zeo, Zep, Int.natCast_one, Int.cast_ofNat_Int, not_true_eq_false, decide_true, decide_false, true_implies, false_implies, Int.toNat_zero, List.length_cons, List.length_nil, Nat.zero_add, mb, Nat.reduceBEq, Bool.false_and, Bool.and_false, Zeq, tys, stb, Zer, Zes, Zet, Zeu, Zev, Zew, Bool.or_false, Bool.false_or, Bool.true_and, Bool.or_true, Bool.true_or, Zex, Zey, tys2, tys3, t1, t8, t9, t10, Int.natCast_one, idxF2, load_hd, agg29, hL, alone, hC, wrap1]
      exact hfin2 _ _ _ hr1
    · simp only [h, decide_false, Bool.false_eq_true, if_false] at hC
      have hr1 : restE nm pb many cs 3 = r := by rw [← hr]; simp only [restE]; rw [if_neg h]
      simp -implicitDefEqProofs only [Zaa, Zab, Zac, Zad, Zae, Zaf, Zag, Zah, Zai, Zaj, Zak, Zal, Zam, Zan, Zao, Zap, Zaq, Zar, Zas, Zat, Zau, Zav, Zaw, Zax, Zay, Zaz, Zba, Zbb, Zbc, Zbd, Zbe, Zbf, Zbg, Zbh, Zbi, Zbj, Zbk, Zbl, Zbm, Zbn, Zbo, Zbp, Zbq, Zbr, Zbs, Zbt, Zbu, Zbv, Zbw, Zbx, Zby, Zbz, Zca, Zcb, Zcc, Zcd, Zce, Zcf, Zcg, evalT, Zch, Nat.reduceLT, Nat.reduceEqDiff, if_true, if_false, reduceIte, true_and, Zci, Zcj, map_ite', Zck, bind_ite', Zcl, Zcm, Zcn, Zco, Zcp, Zcq, Zcr, Zcs, Zct, Zcu, Zcv, Zcw, Zcx, Zcy, Zcz, Zda, Zdb, Zdc, Zdd, Zde, Zdf, Zdg, ofVal, ofCell, argT, List.getD_cons_zero, List.getD_cons_succ, List.getElem?_toArray, List.getElem?_cons_zero, List.getElem?_cons_succ, List.nil_append, List.cons_append, List.append_nil, resT, Zdh, Zdi, Nat.mul_one, Zdj, Zdk, Zdl, Zdm, Zdn, Zdo, Zdp, Zdq, Zdr, Zds, Zdt, setT, Zdu, Zdv, Zdw, Zdx, Zdy, List.append_eq, Zdz, Zea, Zeb, Zec, Zed, Zee, Zef, Zeg, Zeh, Nat.add_zero, Zei, Zej, Zek, Zel, Zem, Zen, Int.toNat_natCast, Bool.false_eq_true, Int.reduceEq, Int.reduceLT, Int.reduceLE, Int.reduceNeg, not_false_eq_true, and_self, Zeo, Zep, Int.natCast_one, Int.cast_ofNat_Int, not_true_eq_false, decide_true, decide_false, true_implies, false_implies, Int.toNat_zero, List.length_cons, List.length_nil, Nat.zero_add, mb, Nat.reduceBEq, Bool.false_and, Bool.and_false, Zeq, tys, stb, Zer, Zes, Zet, Zeu, Zev, Zew, Bool.or_false, Bool.false_or, Bool.true_and, Bool.or_true, Bool.true_or, Zex, Zey, tys2, tys3, t1, t8, t9, t10, Int.natCast_one, idxF2, load_hd, agg29, hL, alone, hC, wrap1]
      exact ⟨2, by omega, 3, _, by rw [List.append_assoc], rfl, by omega, rfl, hr1⟩
  · have hC := said_call 93 4 _ _ _ _ _ (ck93 (.str nm) (.bool pb) (.int .i64 many) cv cs hc) (checksH (.cells [.str nm, .bool pb, .int .i64 many, cv] 29) ++ X) [] 7 8 rfl rfl
    by_cases h : 16 < cs.length
    · simp only [h, decide_true, if_true] at hC
      have hr1 : (4, -1) = r := by rw [← hr]; simp only [restE]; rw [if_pos h]
      simp -implicitDefEqProofs only [Zaa, Zab, Zac, Zad, Zae, Zaf, Zag, Zah, Zai, Zaj, Zak, Zal, Zam, Zan, Zao, Zap, Zaq, Zar, Zas, Zat, Zau, Zav, Zaw, Zax, Zay, Zaz, Zba, Zbb, Zbc, Zbd, Zbe, Zbf, Zbg, Zbh, Zbi, Zbj, Zbk, Zbl, Zbm, Zbn, Zbo, Zbp, Zbq, Zbr, Zbs, Zbt, Zbu, Zbv, Zbw, Zbx, Zby, Zbz, Zca, Zcb, Zcc, Zcd, Zce, Zcf, Zcg, evalT, Zch, Nat.reduceLT, Nat.reduceEqDiff, if_true, if_false, reduceIte, true_and, Zci, Zcj, map_ite', Zck, bind_ite', Zcl, Zcm, Zcn, Zco, Zcp, Zcq, Zcr, Zcs, Zct, Zcu, Zcv, Zcw, Zcx, Zcy, Zcz, Zda, Zdb, Zdc, Zdd, Zde, Zdf, Zdg, ofVal, ofCell, argT, List.getD_cons_zero, List.getD_cons_succ, List.getElem?_toArray, List.getElem?_cons_zero, List.getElem?_cons_succ, List.nil_append, List.cons_append, List.append_nil, resT, Zdh, Zdi, Nat.mul_one, Zdj, Zdk, Zdl, Zdm, Zdn, Zdo, Zdp, Zdq, Zdr, Zds, Zdt, setT, Zdu, Zdv, Zdw, Zdx, Zdy, List.append_eq, Zdz, Zea, Zeb, Zec, Zed, Zee, Zef, Zeg, Zeh, Nat.add_zero, Zei, Zej, Zek, Zel, Zem, Zen, Int.toNat_natCast, Bool.false_eq_true, Int.reduceEq, Int.reduceLT, Int.reduceLE, Int.reduceNeg, not_false_eq_true, and_self, Zeo, Zep, Int.natCast_one, Int.cast_ofNat_Int, not_true_eq_false, decide_true, decide_false, true_implies, false_implies, Int.toNat_zero, List.length_cons, List.length_nil, Nat.zero_add, mb, Nat.reduceBEq, Bool.false_and, Bool.and_false, Zeq, tys, stb, Zer, Zes, Zet, Zeu, Zev, Zew, Bool.or_false, Bool.false_or, Bool.true_and, Bool.or_true, Bool.true_or, Zex, Zey, tys2, tys3, t1, t8, t9, t10, Int.natCast_one, idxF3, load_hd, agg29, hL, alone, hC, wrap1]
      exact hfin2 _ _ _ hr1
    · simp only [h, decide_false, Bool.false_eq_true, if_false] at hC
      have hr1 : restE nm pb many cs 4 = r := by rw [← hr]; simp only [restE]; rw [if_neg h]
      simp -implicitDefEqProofs only [Zaa, Zab, Zac, Zad, Zae, Zaf, Zag, Zah, Zai, Zaj, Zak, Zal, Zam, Zan, Zao, Zap, Zaq, Zar, Zas, Zat, Zau, Zav, Zaw, Zax, Zay, Zaz, Zba, Zbb, Zbc, Zbd, Zbe, Zbf, Zbg, Zbh, Zbi, Zbj, Zbk, Zbl, Zbm, Zbn, Zbo, Zbp, Zbq, Zbr, Zbs, Zbt, Zbu, Zbv, Zbw, Zbx, Zby, Zbz, Zca, Zcb, Zcc, Zcd, Zce, Zcf, Zcg, evalT, Zch, Nat.reduceLT, Nat.reduceEqDiff, if_true, if_false, reduceIte, true_and, Zci, Zcj, map_ite', Zck, bind_ite', Zcl, Zcm, Zcn, Zco, Zcp, Zcq, Zcr, Zcs, Zct, Zcu, Zcv, Zcw, Zcx, Zcy, Zcz, Zda, Zdb, Zdc, Zdd, Zde, Zdf, Zdg, ofVal, ofCell, argT, List.getD_cons_zero, List.getD_cons_succ, List.getElem?_toArray, List.getElem?_cons_zero, List.getElem?_cons_succ, List.nil_append, List.cons_append, List.append_nil, resT, Zdh, Zdi, Nat.mul_one, Zdj, Zdk, Zdl, Zdm, Zdn, Zdo, Zdp, Zdq, Zdr, Zds, Zdt, setT, Zdu, Zdv, Zdw, Zdx, Zdy, List.append_eq, Zdz, Zea, Zeb, Zec, Zed, Zee, Zef, Zeg, Zeh, Nat.add_zero, Zei, Zej, Zek, Zel, Zem, Zen, Int.toNat_natCast, Bool.false_eq_true, Int.reduceEq, Int.reduceLT, Int.reduceLE, Int.reduceNeg, not_false_eq_true, and_self, Zeo, Zep, Int.natCast_one, Int.cast_ofNat_Int, not_true_eq_false, decide_true, decide_false, true_implies, false_implies, Int.toNat_zero, List.length_cons, List.length_nil, Nat.zero_add, mb, Nat.reduceBEq, Bool.false_and, Bool.and_false, Zeq, tys, stb, Zer, Zes, Zet, Zeu, Zev, Zew, Bool.or_false, Bool.false_or, Bool.true_and, Bool.or_true, Bool.true_or, Zex, Zey, tys2, tys3, t1, t8, t9, t10, Int.natCast_one, idxF3, load_hd, agg29, hL, alone, hC, wrap1]
      exact ⟨1, by omega, 4, _, by rw [List.append_assoc], rfl, by omega, rfl, hr1⟩
  · obtain ⟨Y, hC⟩ := ck94 nm pb many cv cs hc ok hl hs (checksH (.cells [.str nm, .bool pb, .int .i64 many, cv] 29) ++ X) []
    have hr1 : firstE cs cs.length 0 = r := by rw [← hr]; simp only [restE]
    by_cases h : (firstE cs cs.length 0).1 = 0
    · have h2 := firstE_zero cs _ _ h
      simp only [h2] at hC
      simp -implicitDefEqProofs only [Zaa, Zab, Zac, Zad, Zae, Zaf, Zag, Zah, Zai, Zaj, Zak, Zal, Zam, Zan, Zao, Zap, Zaq, Zar, Zas, Zat, Zau, Zav, Zaw, Zax, Zay, Zaz, Zba, Zbb, Zbc, Zbd, Zbe, Zbf, Zbg, Zbh, Zbi, Zbj, Zbk, Zbl, Zbm, Zbn, Zbo, Zbp, Zbq, Zbr, Zbs, Zbt, Zbu, Zbv, Zbw, Zbx, Zby, Zbz, Zca, Zcb, Zcc, Zcd, Zce, Zcf, Zcg, evalT, Zch, Nat.reduceLT, Nat.reduceEqDiff, if_true, if_false, reduceIte, true_and, Zci, Zcj, map_ite', Zck, bind_ite', Zcl, Zcm, Zcn, Zco, Zcp, Zcq, Zcr, Zcs, Zct, Zcu, Zcv, Zcw, Zcx, Zcy, Zcz, Zda, Zdb, Zdc, Zdd, Zde, Zdf, Zdg, ofVal, ofCell, argT, List.getD_cons_zero, List.getD_cons_succ, List.getElem?_toArray, List.getElem?_cons_zero, List.getElem?_cons_succ, List.nil_append, List.cons_append, List.append_nil, resT, Zdh, Zdi, Nat.mul_one, Zdj, Zdk, Zdl, Zdm, Zdn, Zdo, Zdp, Zdq, Zdr, Zds, Zdt, setT, Zdu, Zdv, Zdw, Zdx, Zdy, List.append_eq, Zdz, Zea, Zeb, Zec, Zed, Zee, Zef, Zeg, Zeh, Nat.add_zero, Zei, Zej, Zek, Zel, Zem, Zen, Int.toNat_natCast, Bool.false_eq_true, Int.reduceEq, Int.reduceLT, Int.reduceLE, Int.reduceNeg, not_false_eq_true, and_self, Zeo, Zep, Int.natCast_one, Int.cast_ofNat_Int, not_true_eq_false, decide_true, decide_false, true_implies, false_implies, Int.toNat_zero, List.length_cons, List.length_nil, Nat.zero_add, mb, Nat.reduceBEq, Bool.false_and, Bool.and_false, Zeq, tys, stb, Zer, Zes, Zet, Zeu, Zev, Zew, Bool.or_false, Bool.false_or, Bool.true_and, Bool.or_true, Bool.true_or, Zex, Zey, tys2, tys3, t1, t8, t9, t10, Int.natCast_one, idxF4, load_hd, agg29, hL, alone, hC, wrap1]
      exact ⟨0, by omega, 5, _, by rw [List.append_assoc], rfl, by omega, rfl, by rw [← hr1, h2]; rfl⟩
    · simp -implicitDefEqProofs only [Zaa, Zab, Zac, Zad, Zae, Zaf, Zag, Zah, Zai, Zaj, Zak, Zal, Zam, Zan, Zao, Zap, Zaq, Zar, Zas, Zat, Zau, Zav, Zaw, Zax, Zay, Zaz, Zba, Zbb, Zbc, Zbd, Zbe, Zbf, Zbg, Zbh, Zbi, Zbj, Zbk, Zbl, Zbm, Zbn, Zbo, Zbp, Zbq, Zbr, Zbs, Zbt, Zbu, Zbv, Zbw, Zbx, Zby, Zbz, Zca, Zcb, Zcc, Zcd, Zce, Zcf, Zcg, evalT, Zch, Nat.reduceLT, Nat.reduceEqDiff, if_true, if_false, reduceIte, true_and, Zci, Zcj, map_ite', Zck, bind_ite', Zcl, Zcm, Zcn, Zco, Zcp, Zcq, Zcr, Zcs, Zct, Zcu, Zcv, Zcw, Zcx, Zcy, Zcz, Zda, Zdb, Zdc, Zdd, Zde, Zdf, Zdg, ofVal, ofCell, argT, List.getD_cons_zero, List.getD_cons_succ, List.getElem?_toArray, List.getElem?_cons_zero, List.getElem?_cons_succ, List.nil_append, List.cons_append, List.append_nil, resT, Zdh, Zdi, Nat.mul_one, Zdj, Zdk, Zdl, Zdm, Zdn, Zdo, Zdp, Zdq, Zdr, Zds, Zdt, setT, Zdu, Zdv, Zdw, Zdx, Zdy, List.append_eq, Zdz, Zea, Zeb, Zec, Zed, Zee, Zef, Zeg, Zeh, Nat.add_zero, Zei, Zej, Zek, Zel, Zem, Zen, Int.toNat_natCast, Bool.false_eq_true, Int.reduceEq, Int.reduceLT, Int.reduceLE, Int.reduceNeg, not_false_eq_true, and_self, Zeo, Zep, Int.natCast_one, Int.cast_ofNat_Int, not_true_eq_false, decide_true, decide_false, true_implies, false_implies, Int.toNat_zero, List.length_cons, List.length_nil, Nat.zero_add, mb, Nat.reduceBEq, Bool.false_and, Bool.and_false, Zeq, tys, stb, Zer, Zes, Zet, Zeu, Zev, Zew, Bool.or_false, Bool.false_or, Bool.true_and, Bool.or_true, Bool.true_or, Zex, Zey, tys2, tys3, t1, t8, t9, t10, Int.natCast_one, idxF4, load_hd, agg29, hL, alone, hC, wrap1, h]
      exact hfin2 _ _ _ hr1
  · have hr1 : (0, -1) = r := by rw [← hr]; simp only [restE]
    simp -implicitDefEqProofs only [Zaa, Zab, Zac, Zad, Zae, Zaf, Zag, Zah, Zai, Zaj, Zak, Zal, Zam, Zan, Zao, Zap, Zaq, Zar, Zas, Zat, Zau, Zav, Zaw, Zax, Zay, Zaz, Zba, Zbb, Zbc, Zbd, Zbe, Zbf, Zbg, Zbh, Zbi, Zbj, Zbk, Zbl, Zbm, Zbn, Zbo, Zbp, Zbq, Zbr, Zbs, Zbt, Zbu, Zbv, Zbw, Zbx, Zby, Zbz, Zca, Zcb, Zcc, Zcd, Zce, Zcf, Zcg, evalT, Zch, Nat.reduceLT, Nat.reduceEqDiff, if_true, if_false, reduceIte, true_and, Zci, Zcj, map_ite', Zck, bind_ite', Zcl, Zcm, Zcn, Zco, Zcp, Zcq, Zcr, Zcs, Zct, Zcu, Zcv, Zcw, Zcx, Zcy, Zcz, Zda, Zdb, Zdc, Zdd, Zde, Zdf, Zdg, ofVal, ofCell, argT, List.getD_cons_zero, List.getD_cons_succ, List.getElem?_toArray, List.getElem?_cons_zero, List.getElem?_cons_succ, List.nil_append, List.cons_append, List.append_nil, resT, Zdh, Zdi, Nat.mul_one, Zdj, Zdk, Zdl, Zdm, Zdn, Zdo, Zdp, Zdq, Zdr, Zds, Zdt, setT, Zdu, Zdv, Zdw, Zdx, Zdy, List.append_eq, Zdz, Zea, Zeb, Zec, Zed, Zee, Zef, Zeg, Zeh, Nat.add_zero, Zei, Zej, Zek, Zel, Zem, Zen, Int.toNat_natCast, Bool.false_eq_true, Int.reduceEq, Int.reduceLT, Int.reduceLE, Int.reduceNeg, not_false_eq_true, and_self, Zeo, Zep, Int.natCast_one, Int.cast_ofNat_Int, not_true_eq_false, decide_true, decide_false, true_implies, false_implies, Int.toNat_zero, List.length_cons, List.length_nil, Nat.zero_add, mb, Nat.reduceBEq, Bool.false_and, Bool.and_false, Zeq, tys, stb, Zer, Zes, Zet, Zeu, Zev, Zew, Bool.or_false, Bool.false_or, Bool.true_and, Bool.or_true, Bool.true_or, Zex, Zey, tys2, tys3, t1, t8, t9, t10, Int.natCast_one]
    exact hfin2 _ _ _ hr1
end Go.Proofs.YtbikmhpobflfeaaDoor

namespace Go.Proofs.YtbikmhpobflfeaaDoor
open Go.Ab
set_option maxRecDepth 100000
set_option linter.unusedSimpArgs false
set_option linter.unusedVariables false
/-- a schema -/
structure Sch where
  name : List UInt8
  pub : Bool
  many : Int
  cv : V
  cs : List Col
def Sch.cells (s : Sch) : List V := [.str s.name, .bool s.pub, .int .i64 s.many, s.cv]
def Sch.none : Sch := ⟨[], false, 0, .nilsl, []⟩
def flatS (l : List Sch) : List V := (l.map Sch.cells).flatten
/-- schemas -/
def IsS (v : V) (l : List Sch) : Prop := (v = .nilsl ∧ l = []) ∨ v = .row (flatS l) l.length .unk
def OkS (l : List Sch) : Prop := ∀ s ∈ l, IsC s.cv s.cs ∧ OkC s.cs
theorem OkS.at {l : List Sch} (h : OkS l) {i : Nat} (hi : i < l.length) : IsC (l.getD i Sch.none).cv (l.getD i Sch.none).cs ∧ OkC (l.getD i Sch.none).cs := h _ (by simp [List.getD, hi])
theorem flatS_cons (c : Sch) (cs : List Sch) : flatS (c :: cs) = .str c.name :: .bool c.pub :: .int .i64 c.many :: c.cv :: flatS cs := rfl
theorem flatS_drop : ∀ (cs : List Sch) (i : Nat), (flatS cs).drop (i * 4) = flatS (cs.drop i)
  | cs, 0 => by simp
  | [], i + 1 => by simp [flatS]
  | c :: cs, i + 1 => by
    rw [flatS_cons, show (i + 1) * 4 = i * 4 + 1 + 1 + 1 + 1 by omega]
    simp only [List.drop_succ_cons]
    exact flatS_drop cs i
theorem flatS_take : ∀ (cs : List Sch) (i : Nat), (flatS cs).take (i * 4) = flatS (cs.take i)
  | cs, 0 => by simp [flatS]
  | [], i + 1 => by simp [flatS]
  | c :: cs, i + 1 => by
    rw [flatS_cons, show (i + 1) * 4 = i * 4 + 1 + 1 + 1 + 1 by omega]
    simp only [List.take_succ_cons, flatS_take cs i, flatS_cons]
theorem flatS_at {cs : List Sch} {i : Nat} (hi : i < cs.length) : flatS (cs.drop i) = .str (cs.getD i Sch.none).name :: .bool (cs.getD i Sch.none).pub :: .int .i64 (cs.getD i Sch.none).many :: (cs.getD i Sch.none).cv :: flatS (cs.drop (i + 1)) := by
  have e : cs.drop i = cs.getD i Sch.none :: cs.drop (i + 1) := by
    rw [List.drop_eq_getElem_cons hi]
    simp [List.getD, hi]
  rw [e, flatS_cons]
theorem len_S {v : V} {cs : List Sch} (h : IsS v cs) : vLenT (some (.slice 29)) v = some (.int .i64 cs.length) := by
  rcases h with ⟨rfl, rfl⟩ | rfl <;> rfl
theorem idx_S {v : V} {cs : List Sch} (h : IsS v cs) {i : Nat} (hi : i < cs.length) : vIndexAddr 4 v (.int .i64 (i : Int)) = some (.rptr (.str (cs.getD i Sch.none).name :: .bool (cs.getD i Sch.none).pub :: .int .i64 (cs.getD i Sch.none).many :: (cs.getD i Sch.none).cv :: flatS (cs.drop (i + 1)))) := by
  rcases h with ⟨rfl, rfl⟩ | rfl
  · simp at hi
  · rw [Zdc, if_pos (by omega), Int.toNat_natCast, flatS_drop, flatS_at hi]
theorem closed_flatS : ∀ {l : List Sch}, OkS l → V.closed.closedL (flatS l) = true
  | [], h => rfl
  | c :: cs, h => by
    have h1 := h c (by simp)
    rw [flatS_cons]
    simp only [V.closed.closedL, V.closed, closed_C h1.1 h1.2, closed_flatS (l := cs) fun x hx => h x (by simp [hx]), Bool.and_self]
theorem closed_S {v : V} {l : List Sch} (h : IsS v l) (ok : OkS l) : v.closed = true := by
  rcases h with ⟨rfl, rfl⟩ | rfl
  · rfl
  · simp only [V.closed, closed_flatS ok, Bool.and_self]
theorem tys4 : env.P.underlying 36 = some (.slice 29) := by kernel_rfl
theorem slice_S {v : V} {cs : List Sch} (h : IsS v cs) {i : Nat} (hi : i < cs.length) : ∃ u, sliceO env 36 v none (some (.int .i64 (i : Int))) none = some u ∧ IsS u (cs.take i) := by
  rcases h with ⟨rfl, rfl⟩ | rfl
  · simp at hi
  · refine ⟨.row (flatS (cs.take i)) i .unk, ?_, .inr (by simp [List.length_take, Nat.min_eq_left (Nat.le_of_lt hi)])⟩
    have hb : vBound (some (.int .i64 (i : Int))) cs.length cs.length = some i := by
      simp only [vBound]; simp; omega
    simp only [sliceO, tys2, tys4, Option.bind_some, vSlice, hb]
    simp [vBound, show ¬ i = cs.length by omega, flatS_take]
theorem takeS_getD (cs : List Sch) {i j : Nat} (h : j < i) : (cs.take i).getD j Sch.none = cs.getD j Sch.none := by
  simp [List.getD, List.getElem?_take, h]
/-- the first place of which f says true -/
def firstQ (f : Nat → Bool) : Nat → Nat → Int
  | 0, _ => -1
  | m + 1, i => if f i = true then i else firstQ f m (i + 1)
theorem firstQ_pos (f : Nat → Bool) : ∀ m i, 0 ≤ firstQ f m i ↔ ∃ j, i ≤ j ∧ j < i + m ∧ f j = true
  | 0, i => by simp only [firstQ]; constructor
               · intro h; omega
               · rintro ⟨j, h1, h2, _⟩; omega
  | m + 1, i => by
    simp only [firstQ]
    by_cases h : f i = true
    · rw [if_pos h]
      exact ⟨fun _ => ⟨i, by omega, by omega, h⟩, fun _ => by omega⟩
    · rw [if_neg h, firstQ_pos f m (i + 1)]
      constructor
      · rintro ⟨j, h1, h2, h3⟩; exact ⟨j, by omega, by omega, h3⟩
      · rintro ⟨j, h1, h2, h3⟩
        refine ⟨j, ?_, by omega, h3⟩
        rcases Nat.lt_or_ge i j with h4 | h4
        · omega
        · have : j = i := by omega
          subst this; exact absurd h3 h
theorem firstQ_step {f : Nat → Bool} {n i : Nat} (h : i < n) : firstQ f (n - i) i = if f i = true then (i : Int) else firstQ f (n - (i + 1)) (i + 1) := by
  obtain ⟨q, hq⟩ : ∃ q, n - i = q + 1 := ⟨n - i - 1, by omega⟩
  have hq2 : n - (i + 1) = q := by omega
  rw [hq, hq2]; rfl
theorem firstQ_neg {f : Nat → Bool} : ∀ {m i : Nat}, ¬ 0 ≤ firstQ f m i → firstQ f m i = -1
  | 0, i, _ => rfl
  | m + 1, i, h => by
    simp only [firstQ] at h ⊢
    by_cases hf : f i = true
    · rw [if_pos hf] at h; omega
    · rw [if_neg hf] at h ⊢; exact firstQ_neg h
theorem max0 (x : Int) : vMinMax true [.int .i64 x, .int .i64 0] = some (.int .i64 (if 0 > x then 0 else x)) := rfl
theorem at63 : env.P.funcs[63]? = some Tryd.f63 := by kernel_rfl
/-- what is found: a place, and whether it is one -/
def foundV (x : Int) : V := .tup [.int .i64 (if 0 ≤ x then x else 0), .bool (decide (0 ≤ x))]
theorem found_call (x : Int) (σ : S) : callFn env (ev env) 63 [.int .i64 x] σ = some (foundV x, σ) := by
  refine callFn_eq rfl rfl at63 rfl (by simp [Tryd.f63]) (by simp [Tryd.f63]) ?_
  refine G_start ?_
  by_cases h : 0 ≤ x
  · have h2 : ¬ x < 0 := by omega
    simp -implicitDefEqProofs only [Tryd.f63, Zaa, Zab, Zac, Zad, Zae, Zaf, Zag, Zah, Zai, Zaj, Zak, Zal, Zam, Zan, Zao, Zap, Zaq, Zar, Zas, Zat, Zau, Zav, Zaw, Zax, Zay, Zaz, Zba, Zbb, Zbc, Zbd, Zbe, Zbf, Zbg, Zbh, Zbi, Zbj, Zbk, Zbl, Zbm, Zbn, Zbo, Zbp, Zbq, Zbr, Zbs, Zbt, Zbu, Zbv, Zbw, Zbx, Zby, Zbz, Zca, Zcb, Zcc, Zcd, Zce, Zcf, Zcg, evalT, Zch, Nat.reduceLT, Nat.reduceEqDiff, if_true, if_false, reduceIte, true_and, Zci, Zcj, map_ite', Zck, bind_ite', Zcl, Zcm, Zcn, Zco, Zcp, Zcq, Zcr, Zcs, Zct, Zcu, Zcv, Zcw, Zcx, Zcy, Zcz, Zda, Zdb, Zdc, Zdd, Zde, Zdf, Zdg, ofVal, ofCell, argT, List.getD_cons_zero, List.getD_cons_succ, List.getElem?_toArray, List.getElem?_cons_zero, List.getElem?_cons_succ, List.nil_append, List.cons_append, List.append_nil, resT, Zdh, Zdi, Nat.mul_one, Zdj, Zdk, Zdl, Zdm, Zdn, Zdo, Zdp, Zdq, Zdr, Zds, Zdt, setT, Zdu, Zdv, Zdw, Zdx, Zdy, List.append_eq, Zdz, Zea, Zeb, Zec, Zed, Zee, Zef, Zeg, Zeh, Nat.add_zero, Zei, Zej, Zek, Zel, Zem, Zen, Int.toNat_natCast, Bool.false_eq_true, Int.reduceEq, Int.reduceLT, Int.reduceLE, Int.reduceNeg, not_false_eq_true, and_self, Zeo, Zep, Int.natCast_one, Int.cast_ofNat_Int, not_true_eq_false, decide_true, decide_false, true_implies, false_implies, Int.toNat_zero, List.length_cons, List.length_nil, Nat.zero_add, mb, Nat.reduceBEq, Bool.false_and, Bool.and_false, Zeq, tys, stb, Zer, Zes, Zet, Zeu, Zev, Zew, Bool.or_false, Bool.false_or, Bool.true_and, Bool.or_true, Bool.true_or, Zex, Zey, h, h2]
    simp [oneOr, foundV, h]
  · have h2 : x < 0 := by omega
    simp -implicitDefEqProofs only [Tryd.f63, Zaa, Zab, Zac, Zad, Zae, Zaf, Zag, Zah, Zai, Zaj, Zak, Zal, Zam, Zan, Zao, Zap, Zaq, Zar, Zas, Zat, Zau, Zav, Zaw, Zax, Zay, Zaz, Zba, Zbb, Zbc, Zbd, Zbe, Zbf, Zbg, Zbh, Zbi, Zbj, Zbk, Zbl, Zbm, Zbn, Zbo, Zbp, Zbq, Zbr, Zbs, Zbt, Zbu, Zbv, Zbw, Zbx, Zby, Zbz, Zca, Zcb, Zcc, Zcd, Zce, Zcf, Zcg, evalT, Zch, Nat.reduceLT, Nat.reduceEqDiff, if_true, if_false, reduceIte, true_and, Zci, Zcj, map_ite', Zck, bind_ite', Zcl, Zcm, Zcn, Zco, Zcp, Zcq, Zcr, Zcs, Zct, Zcu, Zcv, Zcw, Zcx, Zcy, Zcz, Zda, Zdb, Zdc, Zdd, Zde, Zdf, Zdg, ofVal, ofCell, argT, List.getD_cons_zero, List.getD_cons_succ, List.getElem?_toArray, List.getElem?_cons_zero, List.getElem?_cons_succ, List.nil_append, List.cons_append, List.append_nil, resT, Zdh, Zdi, Nat.mul_one, Zdj, Zdk, Zdl, Zdm, Zdn, Zdo, Zdp, Zdq, Zdr, Zds, Zdt, setT, Zdu, Zdv, Zdw, Zdx, Zdy, List.append_eq, Zdz, Zea, Zeb, Zec, Zed, Zee, Zef, Zeg, Zeh, Nat.add_zero, Zei, Zej, Zek, Zel, Zem, Zen, Int.toNat_natCast, Bool.false_eq_true, Int.reduceEq, Int.reduceLT, Int.reduceLE, Int.reduceNeg, not_false_eq_true, and_self, Zeo, Zep, Int.natCast_one, Int.cast_ofNat_Int, not_true_eq_false, decide_true, decide_false, true_implies, false_implies, Int.toNat_zero, List.length_cons, List.length_nil, Nat.zero_add, mb, Nat.reduceBEq, Bool.false_and, Bool.and_false, Zeq, tys, stb, Zer, Zes, Zet, Zeu, Zev, Zew, Bool.or_false, Bool.false_or, Bool.true_and, Bool.or_true, Bool.true_or, Zex, Zey, h, h2]
    simp [oneOr, foundV, h]
theorem at65 : env.P.funcs[65]? = some Tryd.f65 := by kernel_rfl
theorem at67 : env.P.funcs[67]? = some Tryd.f67 := by kernel_rfl
theorem namedS_call (nm : List UInt8) (d : Sch) (L : List AObj) (ts : List Nat) (p : Nat) (hp : L[p]? = some (.cells [.str nm] 9)) :
    callFn env (ev env) 65 [.agg [.str d.name, .bool d.pub, .int .i64 d.many, d.cv], .ptr p 0] ⟨L, ts⟩ = some (.bool (decide (d.name = nm)), ⟨L ++ [.cells [.str d.name, .bool d.pub, .int .i64 d.many, d.cv] 29], ts⟩) := by
  refine callFn_eq rfl rfl at65 rfl (by simp [Tryd.f65]) (by simp [Tryd.f65]) ?_
  refine G_start ?_
  by_cases h : d.name = nm <;>
  · simp -implicitDefEqProofs only [Tryd.f65, Zaa, Zab, Zac, Zad, Zae, Zaf, Zag, Zah, Zai, Zaj, Zak, Zal, Zam, Zan, Zao, Zap, Zaq, Zar, Zas, Zat, Zau, Zav, Zaw, Zax, Zay, Zaz, Zba, Zbb, Zbc, Zbd, Zbe, Zbf, Zbg, Zbh, Zbi, Zbj, Zbk, Zbl, Zbm, Zbn, Zbo, Zbp, Zbq, Zbr, Zbs, Zbt, Zbu, Zbv, Zbw, Zbx, Zby, Zbz, Zca, Zcb, Zcc, Zcd, Zce, Zcf, Zcg, evalT, Zch, Nat.reduceLT, Nat.reduceEqDiff, if_true, if_false, reduceIte, true_and, Zci, Zcj, map_ite', Zck, bind_ite', Zcl, Zcm, Zcn, Zco, Zcp, Zcq, Zcr, Zcs, Zct, Zcu, Zcv, Zcw, Zcx, Zcy, Zcz, Zda, Zdb, Zdc, Zdd, Zde, Zdf, Zdg, ofVal, ofCell, argT, List.getD_cons_zero, List.getD_cons_succ, List.getElem?_toArray, List.getElem?_cons_zero, List.getElem?_cons_succ, List.nil_append, List.cons_append, List.append_nil, resT, Zdh, Zdi, Nat.mul_one, Zdj, Zdk, Zdl, Zdm, Zdn, Zdo, Zdp, Zdq, Zdr, Zds, Zdt, setT, Zdu, Zdv, Zdw, Zdx, Zdy, List.append_eq, Zdz, Zea, Zeb, Zec, Zed, Zee, Zef, Zeg, Zeh, Nat.add_zero, Zei, Zej, Zek, Zel, Zem, Zen, Int.toNat_natCast, Bool.false_eq_true, Int.reduceEq, Int.reduceLT, Int.reduceLE, Int.reduceNeg, not_false_eq_true, and_self, Zeo, Zep, Int.natCast_one, Int.cast_ofNat_Int, not_true_eq_false, decide_true, decide_false, true_implies, false_implies, Int.toNat_zero, List.length_cons, List.length_nil, Nat.zero_add, mb, Nat.reduceBEq, Bool.false_and, Bool.and_false, Zeq, tys, stb, Zer, Zes, Zet, Zeu, Zev, Zew, Bool.or_false, Bool.false_or, Bool.true_and, Bool.or_true, Bool.true_or, Zex, Zey, tys2, Zeg, heap_end, get_app hp, vBin_seql, h]
    simp [oneOr, h]
theorem namedK_call (nm : List UInt8) (d : Col) (L : List AObj) (ts : List Nat) (p : Nat) (hp : L[p]? = some (.cells [.str nm] 9)) :
    callFn env (ev env) 67 [.agg [.str d.name, .int .i64 d.lo, .int .i64 d.hi, d.w], .ptr p 0] ⟨L, ts⟩ = some (.bool (decide (d.name = nm)), ⟨L ++ [.cells [.str d.name, .int .i64 d.lo, .int .i64 d.hi, d.w] 44], ts⟩) := by
  refine callFn_eq rfl rfl at67 rfl (by simp [Tryd.f67]) (by simp [Tryd.f67]) ?_
  refine G_start ?_
  by_cases h : d.name = nm <;>
  · simp -implicitDefEqProofs only [Tryd.f67, Zaa, Zab, Zac, Zad, Zae, Zaf, Zag, Zah, Zai, Zaj, Zak, Zal, Zam, Zan, Zao, Zap, Zaq, Zar, Zas, Zat, Zau, Zav, Zaw, Zax, Zay, Zaz, Zba, Zbb, Zbc, Zbd, Zbe, Zbf, Zbg, Zbh, Zbi, Zbj, Zbk, Zbl, Zbm, Zbn, Zbo, Zbp, Zbq, Zbr, Zbs, Zbt, Zbu, Zbv, Zbw, Zbx, Zby, Zbz, Zca, Zcb, Zcc, Zcd, Zce, Zcf, Zcg, evalT, Zch, Nat.reduceLT, Nat.reduceEqDiff, if_true, if_false, reduceIte, true_and, Zci, Zcj, map_ite', Zck, bind_ite', Zcl, Zcm, Zcn, Zco, Zcp, Zcq, Zcr, Zcs, Zct, Zcu, Zcv, Zcw, Zcx, Zcy, Zcz, Zda, Zdb, Zdc, Zdd, Zde, Zdf, Zdg, ofVal, ofCell, argT, List.getD_cons_zero, List.getD_cons_succ, List.getElem?_toArray, List.getElem?_cons_zero, List.getElem?_cons_succ, List.nil_append, List.cons_append, List.append_nil, resT, Zdh, Zdi, Nat.mul_one, Zdj, Zdk, Zdl, Zdm, Zdn, Zdo, Zdp, Zdq, Zdr, Zds, Zdt, setT, Zdu, Zdv, Zdw, Zdx, Zdy, List.append_eq, Zdz, Zea, Zeb, Zec, Zed, Zee, Zef, Zeg, Zeh, Nat.add_zero, Zei, Zej, Zek, Zel, Zem, Zen, Int.toNat_natCast, Bool.false_eq_true, Int.reduceEq, Int.reduceLT, Int.reduceLE, Int.reduceNeg, not_false_eq_true, and_self, Zeo, Zep, Int.natCast_one, Int.cast_ofNat_Int, not_true_eq_false, decide_true, decide_false, true_implies, false_implies, Int.toNat_zero, List.length_cons, List.length_nil, Nat.zero_add, mb, Nat.reduceBEq, Bool.false_and, Bool.and_false, Zeq, tys, stb, Zer, Zes, Zet, Zeu, Zev, Zew, Bool.or_false, Bool.false_or, Bool.true_and, Bool.or_true, Bool.true_or, Zex, Zey, tys2, Zeg, heap_end, get_app hp, vBin_seql, h]
    simp [oneOr, h]
def seekS (l : List Sch) (nm : List UInt8) : Nat → Nat → Int := firstQ fun i => decide ((l.getD i Sch.none).name = nm)
def seekC (l : List Col) (nm : List UInt8) : Nat → Nat → Int := firstQ fun i => decide ((l.getD i Col.none).name = nm)
theorem at64 : env.P.funcs[64]? = some Tryd.f64 := by kernel_rfl
theorem indexS_call (nm : List UInt8) (v : V) (l : List Sch) (hv : IsS v l) (ok : OkS l) (hl : l.length ≤ 1000) (L : List AObj) (ts : List Nat) (p : Nat) (hp : L[p]? = some (.cells [.str nm] 9)) :
    ∃ X, callFn env (ev env) 64 [v, .func 65 [] [.ptr p 0]] ⟨L, ts⟩ = some (.int .i64 (seekS l nm l.length 0), ⟨L ++ X, ts⟩) := by
  suffices h : ∃ u σ', callFn env (ev env) 64 [v, .func 65 [] [.ptr p 0]] ⟨L, ts⟩ = some (u, σ') ∧ (u = .int .i64 (seekS l nm l.length 0) ∧ ∃ X, σ' = ⟨L ++ X, ts⟩) by
    obtain ⟨v, σ', h1, rfl, X, rfl⟩ := h
    exact ⟨X, h1⟩
  refine callFn_any rfl rfl at64 rfl (by simp [Tryd.f64]) (by simp [Tryd.f64]) (G_start ?_)
  simp -implicitDefEqProofs only [Tryd.f64, Zaa, Zab, Zac, Zad, Zae, Zaf, Zag, Zah, Zai, Zaj, Zak, Zal, Zam, Zan, Zao, Zap, Zaq, Zar, Zas, Zat, Zau, Zav, Zaw, Zax, Zay, Zaz, Zba, Zbb, Zbc, Zbd, Zbe, Zbf, Zbg, Zbh, Zbi, Zbj, Zbk, Zbl, Zbm, Zbn, Zbo, Zbp, Zbq, Zbr, Zbs, Zbt, Zbu, Zbv, Zbw, Zbx, Zby, Zbz, Zca, Zcb, Zcc, Zcd, Zce, Zcf, Zcg, evalT, Zch, Nat.reduceLT, Nat.reduceEqDiff, if_true, if_false, reduceIte, true_and, Zci, Zcj, map_ite', Zck, bind_ite', Zcl, Zcm, Zcn, Zco, Zcp, Zcq, Zcr, Zcs, Zct, Zcu, Zcv, Zcw, Zcx, Zcy, Zcz, Zda, Zdb, Zdc, Zdd, Zde, Zdf, Zdg, ofVal, ofCell, argT, List.getD_cons_zero, List.getD_cons_succ, List.getElem?_toArray, List.getElem?_cons_zero, List.getElem?_cons_succ, List.nil_append, List.cons_append, List.append_nil, resT, Zdh, Zdi, Nat.mul_one, Zdj, Zdk, Zdl, Zdm, Zdn, Zdo, Zdp, Zdq, Zdr, Zds, Zdt, setT, Zdu, Zdv, Zdw, Zdx, Zdy, List.append_eq, Zdz, Zea, Zeb, Zec, Zed, Zee, Zef, Zeg, Zeh, Nat.add_zero, Zei, Zej, Zek, Zel, Zem, Zen, Int.toNat_natCast, Bool.false_eq_true, Int.reduceEq, Int.reduceLT, Int.reduceLE, Int.reduceNeg, not_false_eq_true, and_self, Zeo, Zep, Int.natCast_one, Int.cast_ofNat_Int, not_true_eq_false, decide_true, decide_false, true_implies, false_implies, Int.toNat_zero, List.length_cons, List.length_nil, Nat.zero_add, mb, Nat.reduceBEq, Bool.false_and, Bool.and_false, Zeq, tys, stb, Zer, Zes, Zet, Zeu, Zev, Zew, Bool.or_false, Bool.false_or, Bool.true_and, Bool.or_true, Bool.true_or, Zex, Zey, tys2, tys4, len_S hv]
  refine loop_rule (fun m T D σ => D = [] ∧ T 0 = v ∧ T 1 = .func 65 [] [.ptr p 0] ∧ T 7 = .int .i64 l.length ∧ ∃ (i : Nat) (X : List AObj), σ = ⟨L ++ X, ts⟩ ∧ T 8 = .int .i64 i ∧ i ≤ l.length ∧ m = l.length - i ∧ seekS l nm l.length 0 = seekS l nm (l.length - i) i) ?_ _ _ _ _ ⟨rfl, rfl, rfl, rfl, 0, [], by simp, rfl, by omega, rfl, rfl⟩
  rintro m T D σ ⟨rfl, t0, t1, t7, i, X, rfl, t8, hi, rfl, hf⟩
  refine G_start ?_
  by_cases hlt : i < l.length
  · have c1 : (i : Int) < (l.length : Int) := by omega
    have e1 : IntKind.i64.wrap ((i : Int) + 1) = ((i + 1 : Nat) : Int) := by rw [wrap_i64 (by omega) (by omega)]; omega
    have hx := idx_S hv hlt
    have hN := namedS_call nm (l.getD i Sch.none) (L ++ X) ts p (get_app hp X)
    unfold seekS at hf
    rw [firstQ_step hlt] at hf
    by_cases hn : (l.getD i Sch.none).name = nm
    · rw [if_pos (decide_eq_true hn)] at hf
      simp only [hn, decide_true] at hN
      simp -implicitDefEqProofs only [Zaa, Zab, Zac, Zad, Zae, Zaf, Zag, Zah, Zai, Zaj, Zak, Zal, Zam, Zan, Zao, Zap, Zaq, Zar, Zas, Zat, Zau, Zav, Zaw, Zax, Zay, Zaz, Zba, Zbb, Zbc, Zbd, Zbe, Zbf, Zbg, Zbh, Zbi, Zbj, Zbk, Zbl, Zbm, Zbn, Zbo, Zbp, Zbq, Zbr, Zbs, Zbt, Zbu, Zbv, Zbw, Zbx, Zby, Zbz, Zca, Zcb, Zcc, Zcd, Zce, Zcf, Zcg, evalT, Zch, Nat.reduceLT, Nat.reduceEqDiff, if_true, if_false, reduceIte, true_and, Zci, Zcj, map_ite', Zck, bind_ite', Zcl, Zcm, Zcn, Zco, Zcp, Zcq, Zcr, Zcs, Zct, Zcu, Zcv, Zcw, Zcx, Zcy, Zcz, Zda, Zdb, Zdc, Zdd, Zde, Zdf, Zdg, ofVal, ofCell, argT, List.getD_cons_zero, List.getD_cons_succ, List.getElem?_toArray, List.getElem?_cons_zero, List.getElem?_cons_succ, List.nil_append, List.cons_append, List.append_nil, resT, Zdh, Zdi, Nat.mul_one, Zdj, Zdk, Zdl, Zdm, Zdn, Zdo, Zdp, Zdq, Zdr, Zds, Zdt, setT, Zdu, Zdv, Zdw, Zdx, Zdy, List.append_eq, Zdz, Zea, Zeb, Zec, Zed, Zee, Zef, Zeg, Zeh, Nat.add_zero, Zei, Zej, Zek, Zel, Zem, Zen, Int.toNat_natCast, Bool.false_eq_true, Int.reduceEq, Int.reduceLT, Int.reduceLE, Int.reduceNeg, not_false_eq_true, and_self, Zeo, Zep, Int.natCast_one, Int.cast_ofNat_Int, not_true_eq_false, decide_true, decide_false, true_implies, false_implies, Int.toNat_zero, List.length_cons, List.length_nil, Nat.zero_add, mb, Nat.reduceBEq, Bool.false_and, Bool.and_false, Zeq, tys, stb, Zer, Zes, Zet, Zeu, Zev, Zew, Bool.or_false, Bool.false_or, Bool.true_and, Bool.or_true, Bool.true_or, Zex, Zey, tys2, tys4, t0, t1, t7, t8, c1, e1, hx, agg29, load4_rptr, hn, hN]
      exact ⟨by rw [seekS, hf]; rfl, _, by rw [List.append_assoc]⟩
    · rw [if_neg (by simp only [decide_eq_true_eq]; exact hn)] at hf
      simp only [hn, decide_false] at hN
      simp -implicitDefEqProofs only [Zaa, Zab, Zac, Zad, Zae, Zaf, Zag, Zah, Zai, Zaj, Zak, Zal, Zam, Zan, Zao, Zap, Zaq, Zar, Zas, Zat, Zau, Zav, Zaw, Zax, Zay, Zaz, Zba, Zbb, Zbc, Zbd, Zbe, Zbf, Zbg, Zbh, Zbi, Zbj, Zbk, Zbl, Zbm, Zbn, Zbo, Zbp, Zbq, Zbr, Zbs, Zbt, Zbu, Zbv, Zbw, Zbx, Zby, Zbz, Zca, Zcb, Zcc, Zcd, Zce, Zcf, Zcg, evalT, Zch, Nat.reduceLT, Nat.reduceEqDiff, if_true, if_false, reduceIte, true_and, Zci, Zcj, map_ite', Zck, bind_ite', Zcl, Zcm, Zcn, Zco, Zcp, Zcq, Zcr, Zcs, Zct, Zcu, Zcv, Zcw, Zcx, Zcy, Zcz, Zda, Zdb, Zdc, Zdd, Zde, Zdf, Zdg, ofVal, ofCell, argT, List.getD_cons_zero, List.getD_cons_succ, List.getElem?_toArray, List.getElem?_cons_zero, List.getElem?_cons_succ, List.nil_append, List.cons_append, List.append_nil, resT, Zdh, Zdi, Nat.mul_one, Zdj, Zdk, Zdl, Zdm, Zdn, Zdo, Zdp, Zdq, Zdr, Zds, Zdt, setT, Zdu, Zdv, Zdw, Zdx, Zdy, List.append_eq, Zdz, Zea, Zeb, Zec, Zed, Zee, Zef, Zeg, Zeh, Nat.add_zero, Zei, Zej, Zek, Zel, Zem, Zen, Int.toNat_natCast, Bool.false_eq_true, Int.reduceEq, Int.reduceLT, Int.reduceLE, Int.reduceNeg, not_false_eq_true, and_self, Zeo, Zep, Int.natCast_one, Int.cast_ofNat_Int, not_true_eq_false, decide_true, decide_false, true_implies, false_implies, Int.toNat_zero, List.length_cons, List.length_nil, Nat.zero_add, mb, Nat.reduceBEq, Bool.false_and, Bool.and_false, Zeq, tys, stb, Zer, Zes, Zet, Zeu, Zev, Zew, Bool.or_false, Bool.false_or, Bool.true_and, Bool.or_true, Bool.true_or, Zex, Zey, tys2, tys4, t0, t1, t7, t8, c1, e1, hx, agg29, load4_rptr, hN]
      exact ⟨l.length - (i + 1), by omega, i + 1, _, by rw [List.append_assoc], rfl, by omega, rfl, hf⟩
  · have hi2 : i = l.length := by omega
    subst hi2
    have c1 : ¬ (l.length : Int) < (l.length : Int) := by omega
    rw [Nat.sub_self] at hf
    simp -implicitDefEqProofs only [Zaa, Zab, Zac, Zad, Zae, Zaf, Zag, Zah, Zai, Zaj, Zak, Zal, Zam, Zan, Zao, Zap, Zaq, Zar, Zas, Zat, Zau, Zav, Zaw, Zax, Zay, Zaz, Zba, Zbb, Zbc, Zbd, Zbe, Zbf, Zbg, Zbh, Zbi, Zbj, Zbk, Zbl, Zbm, Zbn, Zbo, Zbp, Zbq, Zbr, Zbs, Zbt, Zbu, Zbv, Zbw, Zbx, Zby, Zbz, Zca, Zcb, Zcc, Zcd, Zce, Zcf, Zcg, evalT, Zch, Nat.reduceLT, Nat.reduceEqDiff, if_true, if_false, reduceIte, true_and, Zci, Zcj, map_ite', Zck, bind_ite', Zcl, Zcm, Zcn, Zco, Zcp, Zcq, Zcr, Zcs, Zct, Zcu, Zcv, Zcw, Zcx, Zcy, Zcz, Zda, Zdb, Zdc, Zdd, Zde, Zdf, Zdg, ofVal, ofCell, argT, List.getD_cons_zero, List.getD_cons_succ, List.getElem?_toArray, List.getElem?_cons_zero, List.getElem?_cons_succ, List.nil_append, List.cons_append, List.append_nil, resT, Zdh, Zdi, Nat.mul_one, Zdj, Zdk, Zdl, Zdm, Zdn, Zdo, Zdp, Zdq, Zdr, Zds, Zdt, setT, Zdu, Zdv, Zdw, Zdx, Zdy, List.append_eq, Zdz, Zea, Zeb, Zec, Zed, Zee, Zef, Zeg, Zeh, Nat.add_zero, Zei, Zej, Zek, Zel, Zem, Zen, Int.toNat_natCast, Bool.false_eq_true, Int.reduceEq, Int.reduceLT, Int.reduceLE, Int.reduceNeg, not_false_eq_true, and_self, Zeo, Zep, Int.natCast_one, Int.cast_ofNat_Int, not_true_eq_false, decide_true, decide_false, true_implies, false_implies, Int.toNat_zero, List.length_cons, List.length_nil, Nat.zero_add, mb, Nat.reduceBEq, Bool.false_and, Bool.and_false, Zeq, tys, stb, Zer, Zes, Zet, Zeu, Zev, Zew, Bool.or_false, Bool.false_or, Bool.true_and, Bool.or_true, Bool.true_or, Zex, Zey, t0, t1, t7, t8, c1]
    exact ⟨by rw [hf]; rfl, X, rfl⟩
theorem indexK_call (nm : List UInt8) (dv : V) (ds : List Col) (hd : IsC dv ds) (ok : OkC ds) (hl : ds.length ≤ 1000) (L : List AObj) (ts : List Nat) (p : Nat) (hp : L[p]? = some (.cells [.str nm] 9)) :
    ∃ X, callFn env (ev env) 66 [dv, .func 67 [] [.ptr p 0]] ⟨L, ts⟩ = some (.int .i64 (seekC ds nm ds.length 0), ⟨L ++ X, ts⟩) := by
  suffices h : ∃ v σ', callFn env (ev env) 66 [dv, .func 67 [] [.ptr p 0]] ⟨L, ts⟩ = some (v, σ') ∧ (v = .int .i64 (seekC ds nm ds.length 0) ∧ ∃ X, σ' = ⟨L ++ X, ts⟩) by
    obtain ⟨v, σ', h1, rfl, X, rfl⟩ := h
    exact ⟨X, h1⟩
  refine callFn_any rfl rfl at66 rfl (by simp [Tryd.f66]) (by simp [Tryd.f66]) (G_start ?_)
  simp -implicitDefEqProofs only [Tryd.f66, Zaa, Zab, Zac, Zad, Zae, Zaf, Zag, Zah, Zai, Zaj, Zak, Zal, Zam, Zan, Zao, Zap, Zaq, Zar, Zas, Zat, Zau, Zav, Zaw, Zax, Zay, Zaz, Zba, Zbb, Zbc, Zbd, Zbe, Zbf, Zbg, Zbh, Zbi, Zbj, Zbk, Zbl, Zbm, Zbn, Zbo, Zbp, Zbq, Zbr, Zbs, Zbt, Zbu, Zbv, Zbw, Zbx, Zby, Zbz, Zca, Zcb, Zcc, Zcd, Zce, Zcf, Zcg, evalT, Zch, Nat.reduceLT, Nat.reduceEqDiff, if_true, if_false, reduceIte, true_and, Zci, Zcj, map_ite', Zck, bind_ite', Zcl, Zcm, Zcn, Zco, Zcp, Zcq, Zcr, Zcs, Zct, Zcu, Zcv, Zcw, Zcx, Zcy, Zcz, Zda, Zdb, Zdc, Zdd, Zde, Zdf, Zdg, ofVal, ofCell, argT, List.getD_cons_zero, List.getD_cons_succ, List.getElem?_toArray, List.getElem?_cons_zero, List.getElem?_cons_succ, List.nil_append, List.cons_append, List.append_nil, resT, Zdh, Zdi, Nat.mul_one, Zdj, Zdk, Zdl, Zdm, Zdn, Zdo, Zdp, Zdq, Zdr, Zds, Zdt, setT, Zdu, Zdv, Zdw, Zdx, Zdy, List.append_eq, Zdz, Zea, Zeb, Zec, Zed, Zee, Zef, Zeg, Zeh, Nat.add_zero, Zei, Zej, Zek, Zel, Zem, Zen, Int.toNat_natCast, Bool.false_eq_true, Int.reduceEq, Int.reduceLT, Int.reduceLE, Int.reduceNeg, not_false_eq_true, and_self, Zeo, Zep, Int.natCast_one, Int.cast_ofNat_Int, not_true_eq_false, decide_true, decide_false, true_implies, false_implies, Int.toNat_zero, List.length_cons, List.length_nil, Nat.zero_add, mb, Nat.reduceBEq, Bool.false_and, Bool.and_false, Zeq, tys, stb, Zer, Zes, Zet, Zeu, Zev, Zew, Bool.or_false, Bool.false_or, Bool.true_and, Bool.or_true, Bool.true_or, Zex, Zey, tys2, len_C hd]
  refine loop_rule (fun m T D σ => D = [] ∧ T 0 = dv ∧ T 1 = .func 67 [] [.ptr p 0] ∧ T 7 = .int .i64 ds.length ∧ ∃ (i : Nat) (X : List AObj), σ = ⟨L ++ X, ts⟩ ∧ T 8 = .int .i64 i ∧ i ≤ ds.length ∧ m = ds.length - i ∧ seekC ds nm ds.length 0 = seekC ds nm (ds.length - i) i) ?_ _ _ _ _ ⟨rfl, rfl, rfl, rfl, 0, [], by simp, rfl, by omega, rfl, rfl⟩
  rintro m T D σ ⟨rfl, t0, t1, t7, i, X, rfl, t8, hi, rfl, hf⟩
  refine G_start ?_
  by_cases hlt : i < ds.length
  · have c1 : (i : Int) < (ds.length : Int) := by omega
    have e1 : IntKind.i64.wrap ((i : Int) + 1) = ((i + 1 : Nat) : Int) := by rw [wrap_i64 (by omega) (by omega)]; omega
    have hx := idx_C hd hlt
    have hN := namedK_call nm (ds.getD i Col.none) (L ++ X) ts p (get_app hp X)
    unfold seekC at hf
    rw [firstQ_step hlt] at hf
    by_cases hn : (ds.getD i Col.none).name = nm
    · rw [if_pos (decide_eq_true hn)] at hf
      simp only [hn, decide_true] at hN
      simp -implicitDefEqProofs only [Zaa, Zab, Zac, Zad, Zae, Zaf, Zag, Zah, Zai, Zaj, Zak, Zal, Zam, Zan, Zao, Zap, Zaq, Zar, Zas, Zat, Zau, Zav, Zaw, Zax, Zay, Zaz, Zba, Zbb, Zbc, Zbd, Zbe, Zbf, Zbg, Zbh, Zbi, Zbj, Zbk, Zbl, Zbm, Zbn, Zbo, Zbp, Zbq, Zbr, Zbs, Zbt, Zbu, Zbv, Zbw, Zbx, Zby, Zbz, Zca, Zcb, Zcc, Zcd, Zce, Zcf, Zcg, evalT, Zch, Nat.reduceLT, Nat.reduceEqDiff, if_true, if_false, reduceIte, true_and, Zci, Zcj, map_ite', Zck, bind_ite', Zcl, Zcm, Zcn, Zco, Zcp, Zcq, Zcr, Zcs, Zct, Zcu, Zcv, Zcw, Zcx, Zcy, Zcz, Zda, Zdb, Zdc, Zdd, Zde, Zdf, Zdg, ofVal, ofCell, argT, List.getD_cons_zero, List.getD_cons_succ, List.getElem?_toArray, List.getElem?_cons_zero, List.getElem?_cons_succ, List.nil_append, List.cons_append, List.append_nil, resT, Zdh, Zdi, Nat.mul_one, Zdj, Zdk, Zdl, Zdm, Zdn, Zdo, Zdp, Zdq, Zdr, Zds, Zdt, setT, Zdu, Zdv, Zdw, Zdx, Zdy, List.append_eq, Zdz, Zea, Zeb, Zec, Zed, Zee, Zef, Zeg, Zeh, Nat.add_zero, Zei, Zej, Zek, Zel, Zem, Zen, Int.toNat_natCast, Bool.false_eq_true, Int.reduceEq, Int.reduceLT, Int.reduceLE, Int.reduceNeg, not_false_eq_true, and_self, Zeo, Zep, Int.natCast_one, Int.cast_ofNat_Int, not_true_eq_false, decide_true, decide_false, true_implies, false_implies, Int.toNat_zero, List.length_cons, List.length_nil, Nat.zero_add, mb, Nat.reduceBEq, Bool.false_and, Bool.and_false, Zeq, tys, stb, Zer, Zes, Zet, Zeu, Zev, Zew, Bool.or_false, Bool.false_or, Bool.true_and, Bool.or_true, Bool.true_or, Zex, Zey, tys2, t0, t1, t7, t8, c1, e1, hx, agg44, load4_rptr, hn, hN]
      exact ⟨by rw [seekC, hf]; rfl, _, by rw [List.append_assoc]⟩
    · rw [if_neg (by simp only [decide_eq_true_eq]; exact hn)] at hf
      simp only [hn, decide_false] at hN
      simp -implicitDefEqProofs only [Zaa, Zab, Zac, Zad, Zae, Zaf, Zag, Zah, Zai, Zaj, Zak, Zal, Zam, Zan, Zao, Zap, Zaq, Zar, Zas, Zat, Zau, Zav, Zaw, Zax, Zay, Zaz, Zba, Zbb, Zbc, Zbd, Zbe, Zbf, Zbg, Zbh, Zbi, Zbj, Zbk, Zbl, Zbm, Zbn, Zbo, Zbp, Zbq, Zbr, Zbs, Zbt, Zbu, Zbv, Zbw, Zbx, Zby, Zbz, Zca, Zcb, Zcc, Zcd, Zce, Zcf, Zcg, evalT, Zch, Nat.reduceLT, Nat.reduceEqDiff, if_true, if_false, reduceIte, true_and, Zci, Zcj, map_ite', Zck, bind_ite', Zcl, Zcm, Zcn, Zco, Zcp, Zcq, Zcr, Zcs, Zct, Zcu, Zcv, Zcw, Zcx, Zcy, Zcz, Zda, Zdb, Zdc, Zdd, Zde, Zdf, Zdg, ofVal, ofCell, argT, List.getD_cons_zero, List.getD_cons_succ, List.getElem?_toArray, List.getElem?_cons_zero, List.getElem?_cons_succ, List.nil_append, List.cons_append, List.append_nil, resT, Zdh, Zdi, Nat.mul_one, Zdj, Zdk, Zdl, Zdm, Zdn, Zdo, Zdp, Zdq, Zdr, Zds, Zdt, setT, Zdu, Zdv, Zdw, Zdx, Zdy, List.append_eq, Zdz, Zea, Zeb, Zec, Zed, Zee, Zef, Zeg, Zeh, Nat.add_zero, Zei, Zej, Zek, Zel, Zem, Zen, Int.toNat_natCast, Bool.false_eq_true, Int.reduceEq, Int.reduceLT, Int.reduceLE, Int.reduceNeg, not_false_eq_true, and_self, Zeo, Zep, Int.natCast_one, Int.cast_ofNat_Int, not_true_eq_false, decide_true, decide_false, true_implies, false_implies, Int.toNat_zero, List.length_cons, List.length_nil, Nat.zero_add, mb, Nat.reduceBEq, Bool.false_and, Bool.and_false, Zeq, tys, stb, Zer, Zes, Zet, Zeu, Zev, Zew, Bool.or_false, Bool.false_or, Bool.true_and, Bool.or_true, Bool.true_or, Zex, Zey, tys2, t0, t1, t7, t8, c1, e1, hx, agg44, load4_rptr, hN]
      exact ⟨ds.length - (i + 1), by omega, i + 1, _, by rw [List.append_assoc], rfl, by omega, rfl, hf⟩
  · have hi2 : i = ds.length := by omega
    subst hi2
    have c1 : ¬ (ds.length : Int) < (ds.length : Int) := by omega
    rw [Nat.sub_self] at hf
    simp -implicitDefEqProofs only [Zaa, Zab, Zac, Zad, Zae, Zaf, Zag, Zah, Zai, Zaj, Zak, Zal, Zam, Zan, Zao, Zap, Zaq, Zar, Zas, Zat, Zau, Zav, Zaw, Zax, Zay, Zaz, Zba, Zbb, Zbc, Zbd, Zbe, Zbf, Zbg, Zbh, Zbi, Zbj, Zbk, Zbl, Zbm, Zbn, Zbo, Zbp, Zbq, Zbr, Zbs, Zbt, Zbu, Zbv, Zbw, Zbx, Zby, Zbz, Zca, Zcb, Zcc, Zcd, Zce, Zcf, Zcg, evalT, Zch, Nat.reduceLT, Nat.reduceEqDiff, if_true, if_false, reduceIte, true_and, Zci, Zcj, map_ite', Zck, bind_ite', Zcl, Zcm, Zcn, Zco, Zcp, Zcq, Zcr, Zcs, Zct, Zcu, Zcv, Zcw, Zcx, Zcy, Zcz, Zda, Zdb, Zdc, Zdd, Zde, Zdf, Zdg, ofVal, ofCell, argT, List.getD_cons_zero, List.getD_cons_succ, List.getElem?_toArray, List.getElem?_cons_zero, List.getElem?_cons_succ, List.nil_append, List.cons_append, List.append_nil, resT, Zdh, Zdi, Nat.mul_one, Zdj, Zdk, Zdl, Zdm, Zdn, Zdo, Zdp, Zdq, Zdr, Zds, Zdt, setT, Zdu, Zdv, Zdw, Zdx, Zdy, List.append_eq, Zdz, Zea, Zeb, Zec, Zed, Zee, Zef, Zeg, Zeh, Nat.add_zero, Zei, Zej, Zek, Zel, Zem, Zen, Int.toNat_natCast, Bool.false_eq_true, Int.reduceEq, Int.reduceLT, Int.reduceLE, Int.reduceNeg, not_false_eq_true, and_self, Zeo, Zep, Int.natCast_one, Int.cast_ofNat_Int, not_true_eq_false, decide_true, decide_false, true_implies, false_implies, Int.toNat_zero, List.length_cons, List.length_nil, Nat.zero_add, mb, Nat.reduceBEq, Bool.false_and, Bool.and_false, Zeq, tys, stb, Zer, Zes, Zet, Zeu, Zev, Zew, Bool.or_false, Bool.false_or, Bool.true_and, Bool.or_true, Bool.true_or, Zex, Zey, t0, t1, t7, t8, c1]
    exact ⟨by rw [hf]; rfl, X, rfl⟩
end Go.Proofs.YtbikmhpobflfeaaDoor

namespace Go.Proofs.YtbikmhpobflfeaaDoor
open Go.Ab
set_option maxRecDepth 100000
set_option linter.unusedSimpArgs false
set_option linter.unusedVariables false
theorem at29 : env.P.funcs[29]? = some Tryd.f29 := by kernel_rfl
theorem at30 : env.P.funcs[30]? = some Tryd.f30 := by kernel_rfl
theorem at31 : env.P.funcs[31]? = some Tryd.f31 := by kernel_rfl
theorem at32 : env.P.funcs[32]? = some Tryd.f32 := by kernel_rfl
theorem seal_found (h : List AObj) (x : Int) : sealV h sealDepth (oneOr [.int .i64 (if 0 ≤ x then x else 0), .bool (decide (0 ≤ x))]) = some (foundV x) := by
  simp only [oneOr, sealDepth, sealV_tup, mapM_seal_cons, mapM_seal_nil, sealV_int, sealV_bool, Option.bind_some, Option.map_some, foundV]
theorem find_call (nm : List UInt8) (v : V) (l : List Sch) (hv : IsS v l) (ok : OkS l) (hl : l.length ≤ 1000) (σ : S) : callFn env (ev env) 29 [v, .str nm] σ = some (foundV (seekS l nm l.length 0), σ) := by
  refine callFn_pure rfl rfl (by simp [V.closed, closed_S hv ok]) at29 rfl (by simp [Tryd.f29]) (by simp [Tryd.f29]) (G_start ?_) σ
  obtain ⟨X, hX⟩ := indexS_call nm v l hv ok hl [.cells [.str nm] 9] [] 0 rfl
  simp -implicitDefEqProofs only [Tryd.f29, Zaa, Zab, Zac, Zad, Zae, Zaf, Zag, Zah, Zai, Zaj, Zak, Zal, Zam, Zan, Zao, Zap, Zaq, Zar, Zas, Zat, Zau, Zav, Zaw, Zax, Zay, Zaz, Zba, Zbb, Zbc, Zbd, Zbe, Zbf, Zbg, Zbh, Zbi, Zbj, Zbk, Zbl, Zbm, Zbn, Zbo, Zbp, Zbq, Zbr, Zbs, Zbt, Zbu, Zbv, Zbw, Zbx, Zby, Zbz, Zca, Zcb, Zcc, Zcd, Zce, Zcf, Zcg, evalT, Zch, Nat.reduceLT, Nat.reduceEqDiff, if_true, if_false, reduceIte, true_and, Zci, Zcj, map_ite', Zck, bind_ite', Zcl, Zcm, Zcn, Zco, Zcp, Zcq, Zcr, Zcs, Zct, Zcu, Zcv, Zcw, Zcx, Zcy, Zcz, Zda, Zdb, Zdc, Zdd, Zde, Zdf, Zdg, ofVal, ofCell, argT, List.getD_cons_zero, List.getD_cons_succ, List.getElem?_toArray, List.getElem?_cons_zero, List.getElem?_cons_succ, List.nil_append, List.cons_append, List.append_nil, resT, Zdh, Zdi, Nat.mul_one, Zdj, Zdk, Zdl, Zdm, Zdn, Zdo, Zdp, Zdq, Zdr, Zds, Zdt, setT, Zdu, Zdv, Zdw, Zdx, Zdy, List.append_eq, Zdz, Zea, Zeb, Zec, Zed, Zee, Zef, Zeg, Zeh, Nat.add_zero, Zei, Zej, Zek, Zel, Zem, Zen, Int.toNat_natCast, Bool.false_eq_true, Int.reduceEq, Int.reduceLT, Int.reduceLE, Int.reduceNeg, not_false_eq_true, and_self, Zeo, Zep, Int.natCast_one, Int.cast_ofNat_Int, not_true_eq_false, decide_true, decide_false, true_implies, false_implies, Int.toNat_zero, List.length_cons, List.length_nil, Nat.zero_add, mb, Nat.reduceBEq, Bool.false_and, Bool.and_false, Zeq, tys, stb, Zer, Zes, Zet, Zeu, Zev, Zew, Bool.or_false, Bool.false_or, Bool.true_and, Bool.or_true, Bool.true_or, Zex, Zey, tys2, tys3, empty_mk, hX, found_call, show (V.str nm).cells = [.str nm] from rfl, foundV]
  exact seal_found _ _
theorem column2_call (nm : List UInt8) (a b c : V) (hca : a.closed = true) (hcb : b.closed = true) (hcc : c.closed = true) (cv : V) (cs : List Col) (hc : IsC cv cs) (ok : OkC cs) (hl : cs.length ≤ 1000) (σ : S) :
    callFn env (ev env) 31 [.agg [a, b, c, cv], .str nm] σ = some (foundV (seekC cs nm cs.length 0), σ) := by
  refine callFn_pure rfl rfl (by simp [V.closed, V.closed.closedL, closed_C hc ok, hca, hcb, hcc]) at31 rfl (by simp [Tryd.f31]) (by simp [Tryd.f31]) (G_start ?_) σ
  obtain ⟨X, hX⟩ := indexK_call nm cv cs hc ok hl [.cells [a, b, c, cv] 29, .cells [.str nm] 9] [] 1 rfl
  simp -implicitDefEqProofs only [Tryd.f31, Zaa, Zab, Zac, Zad, Zae, Zaf, Zag, Zah, Zai, Zaj, Zak, Zal, Zam, Zan, Zao, Zap, Zaq, Zar, Zas, Zat, Zau, Zav, Zaw, Zax, Zay, Zaz, Zba, Zbb, Zbc, Zbd, Zbe, Zbf, Zbg, Zbh, Zbi, Zbj, Zbk, Zbl, Zbm, Zbn, Zbo, Zbp, Zbq, Zbr, Zbs, Zbt, Zbu, Zbv, Zbw, Zbx, Zby, Zbz, Zca, Zcb, Zcc, Zcd, Zce, Zcf, Zcg, evalT, Zch, Nat.reduceLT, Nat.reduceEqDiff, if_true, if_false, reduceIte, true_and, Zci, Zcj, map_ite', Zck, bind_ite', Zcl, Zcm, Zcn, Zco, Zcp, Zcq, Zcr, Zcs, Zct, Zcu, Zcv, Zcw, Zcx, Zcy, Zcz, Zda, Zdb, Zdc, Zdd, Zde, Zdf, Zdg, ofVal, ofCell, argT, List.getD_cons_zero, List.getD_cons_succ, List.getElem?_toArray, List.getElem?_cons_zero, List.getElem?_cons_succ, List.nil_append, List.cons_append, List.append_nil, resT, Zdh, Zdi, Nat.mul_one, Zdj, Zdk, Zdl, Zdm, Zdn, Zdo, Zdp, Zdq, Zdr, Zds, Zdt, setT, Zdu, Zdv, Zdw, Zdx, Zdy, List.append_eq, Zdz, Zea, Zeb, Zec, Zed, Zee, Zef, Zeg, Zeh, Nat.add_zero, Zei, Zej, Zek, Zel, Zem, Zen, Int.toNat_natCast, Bool.false_eq_true, Int.reduceEq, Int.reduceLT, Int.reduceLE, Int.reduceNeg, not_false_eq_true, and_self, Zeo, Zep, Int.natCast_one, Int.cast_ofNat_Int, not_true_eq_false, decide_true, decide_false, true_implies, false_implies, Int.toNat_zero, List.length_cons, List.length_nil, Nat.zero_add, mb, Nat.reduceBEq, Bool.false_and, Bool.and_false, Zeq, tys, stb, Zer, Zes, Zet, Zeu, Zev, Zew, Bool.or_false, Bool.false_or, Bool.true_and, Bool.or_true, Bool.true_or, Zex, Zey, tys2, tys3, empty_mk, Zeg, hX, found_call, show (V.str nm).cells = [.str nm] from rfl, foundV]
  exact seal_found _ _
theorem findref_call (nm : List UInt8) (v : V) (l : List Sch) (hv : IsS v l) (ok : OkS l) (hl : l.length ≤ 1000) (σ : S) : callFn env (ev env) 30 [v, .str nm] σ = some (foundV (seekS l nm l.length 0), σ) := by
  refine callFn_pure rfl rfl (by simp [V.closed, closed_S hv ok]) at30 rfl (by simp [Tryd.f30]) (by simp [Tryd.f30]) (G_start ?_) σ
  simp -implicitDefEqProofs only [Tryd.f30, Zaa, Zab, Zac, Zad, Zae, Zaf, Zag, Zah, Zai, Zaj, Zak, Zal, Zam, Zan, Zao, Zap, Zaq, Zar, Zas, Zat, Zau, Zav, Zaw, Zax, Zay, Zaz, Zba, Zbb, Zbc, Zbd, Zbe, Zbf, Zbg, Zbh, Zbi, Zbj, Zbk, Zbl, Zbm, Zbn, Zbo, Zbp, Zbq, Zbr, Zbs, Zbt, Zbu, Zbv, Zbw, Zbx, Zby, Zbz, Zca, Zcb, Zcc, Zcd, Zce, Zcf, Zcg, evalT, Zch, Nat.reduceLT, Nat.reduceEqDiff, if_true, if_false, reduceIte, true_and, Zci, Zcj, map_ite', Zck, bind_ite', Zcl, Zcm, Zcn, Zco, Zcp, Zcq, Zcr, Zcs, Zct, Zcu, Zcv, Zcw, Zcx, Zcy, Zcz, Zda, Zdb, Zdc, Zdd, Zde, Zdf, Zdg, ofVal, ofCell, argT, List.getD_cons_zero, List.getD_cons_succ, List.getElem?_toArray, List.getElem?_cons_zero, List.getElem?_cons_succ, List.nil_append, List.cons_append, List.append_nil, resT, Zdh, Zdi, Nat.mul_one, Zdj, Zdk, Zdl, Zdm, Zdn, Zdo, Zdp, Zdq, Zdr, Zds, Zdt, setT, Zdu, Zdv, Zdw, Zdx, Zdy, List.append_eq, Zdz, Zea, Zeb, Zec, Zed, Zee, Zef, Zeg, Zeh, Nat.add_zero, Zei, Zej, Zek, Zel, Zem, Zen, Int.toNat_natCast, Bool.false_eq_true, Int.reduceEq, Int.reduceLT, Int.reduceLE, Int.reduceNeg, not_false_eq_true, and_self, Zeo, Zep, Int.natCast_one, Int.cast_ofNat_Int, not_true_eq_false, decide_true, decide_false, true_implies, false_implies, Int.toNat_zero, List.length_cons, List.length_nil, Nat.zero_add, mb, Nat.reduceBEq, Bool.false_and, Bool.and_false, Zeq, tys, stb, Zer, Zes, Zet, Zeu, Zev, Zew, Bool.or_false, Bool.false_or, Bool.true_and, Bool.or_true, Bool.true_or, Zex, Zey, tys2, tys3, empty_mk]
  refine loop_rule (fun m T D σ => D = [] ∧ σ = ⟨[], []⟩ ∧ T 0 = v ∧ T 1 = .str nm ∧ ∃ i : Nat, T 6 = .int .i64 i ∧ i ≤ l.length ∧ m = l.length - i ∧ seekS l nm l.length 0 = seekS l nm (l.length - i) i) ?_ _ _ _ _ ⟨rfl, rfl, rfl, rfl, 0, rfl, by omega, rfl, rfl⟩
  rintro m T D σ ⟨rfl, rfl, t0, t1, i, t6, hi, rfl, hf⟩
  refine G_start ?_
  by_cases hlt : i < l.length
  · have c1 : (i : Int) < (l.length : Int) := by omega
    have e1 : IntKind.i64.wrap ((i : Int) + 1) = ((i + 1 : Nat) : Int) := by rw [wrap_i64 (by omega) (by omega)]; omega
    have hx := idx_S hv hlt
    have hf0 := hf
    unfold seekS at hf
    rw [firstQ_step hlt] at hf
    by_cases hn : (l.getD i Sch.none).name = nm
    · rw [if_pos (decide_eq_true hn)] at hf
      simp -implicitDefEqProofs only [Zaa, Zab, Zac, Zad, Zae, Zaf, Zag, Zah, Zai, Zaj, Zak, Zal, Zam, Zan, Zao, Zap, Zaq, Zar, Zas, Zat, Zau, Zav, Zaw, Zax, Zay, Zaz, Zba, Zbb, Zbc, Zbd, Zbe, Zbf, Zbg, Zbh, Zbi, Zbj, Zbk, Zbl, Zbm, Zbn, Zbo, Zbp, Zbq, Zbr, Zbs, Zbt, Zbu, Zbv, Zbw, Zbx, Zby, Zbz, Zca, Zcb, Zcc, Zcd, Zce, Zcf, Zcg, evalT, Zch, Nat.reduceLT, Nat.reduceEqDiff, if_true, if_false, reduceIte, true_and, Zci, Zcj, map_ite', Zck, bind_ite', Zcl, Zcm, Zcn, Zco, Zcp, Zcq, Zcr, Zcs, Zct, Zcu, Zcv, Zcw, Zcx, Zcy, Zcz, Zda, Zdb, Zdc, Zdd, Zde, Zdf, Zdg, ofVal, ofCell, argT, List.getD_cons_zero, List.getD_cons_succ, List.getElem?_toArray, List.getElem?_cons_zero, List.getElem?_cons_succ, List.nil_append, List.cons_append, List.append_nil, resT, Zdh, Zdi, Nat.mul_one, Zdj, Zdk, Zdl, Zdm, Zdn, Zdo, Zdp, Zdq, Zdr, Zds, Zdt, setT, Zdu, Zdv, Zdw, Zdx, Zdy, List.append_eq, Zdz, Zea, Zeb, Zec, Zed, Zee, Zef, Zeg, Zeh, Nat.add_zero, Zei, Zej, Zek, Zel, Zem, Zen, Int.toNat_natCast, Bool.false_eq_true, Int.reduceEq, Int.reduceLT, Int.reduceLE, Int.reduceNeg, not_false_eq_true, and_self, Zeo, Zep, Int.natCast_one, Int.cast_ofNat_Int, not_true_eq_false, decide_true, decide_false, true_implies, false_implies, Int.toNat_zero, List.length_cons, List.length_nil, Nat.zero_add, mb, Nat.reduceBEq, Bool.false_and, Bool.and_false, Zeq, tys, stb, Zer, Zes, Zet, Zeu, Zev, Zew, Bool.or_false, Bool.false_or, Bool.true_and, Bool.or_true, Bool.true_or, Zex, Zey, tys2, tys4, t0, t1, t6, c1, e1, len_S hv, hx, load_hd, vBin_seql, hn]
      have h0 : (0 : Int) ≤ i := by omega
      rw [seekS, hf]
      simpa [h0] using seal_found [] (i : Int)
    · rw [if_neg (by simp only [decide_eq_true_eq]; exact hn)] at hf
      simp -implicitDefEqProofs only [Zaa, Zab, Zac, Zad, Zae, Zaf, Zag, Zah, Zai, Zaj, Zak, Zal, Zam, Zan, Zao, Zap, Zaq, Zar, Zas, Zat, Zau, Zav, Zaw, Zax, Zay, Zaz, Zba, Zbb, Zbc, Zbd, Zbe, Zbf, Zbg, Zbh, Zbi, Zbj, Zbk, Zbl, Zbm, Zbn, Zbo, Zbp, Zbq, Zbr, Zbs, Zbt, Zbu, Zbv, Zbw, Zbx, Zby, Zbz, Zca, Zcb, Zcc, Zcd, Zce, Zcf, Zcg, evalT, Zch, Nat.reduceLT, Nat.reduceEqDiff, if_true, if_false, reduceIte, true_and, Zci, Zcj, map_ite', Zck, bind_ite', Zcl, Zcm, Zcn, Zco, Zcp, Zcq, Zcr, Zcs, Zct, Zcu, Zcv, Zcw, Zcx, Zcy, Zcz, Zda, Zdb, Zdc, Zdd, Zde, Zdf, Zdg, ofVal, ofCell, argT, List.getD_cons_zero, List.getD_cons_succ, List.getElem?_toArray, List.getElem?_cons_zero, List.getElem?_cons_succ, List.nil_append, List.cons_append, List.append_nil, resT, Zdh, Zdi, Nat.mul_one, Zdj, Zdk, Zdl, Zdm, Zdn, Zdo, Zdp, Zdq, Zdr, Zds, Zdt, setT, Zdu, Zdv, Zdw, Zdx, Zdy, List.append_eq, Zdz, Zea, Zeb, Zec, Zed, Zee, Zef, Zeg, Zeh, Nat.add_zero, Zei, Zej, Zek, Zel, Zem, Zen, Int.toNat_natCast, Bool.false_eq_true, Int.reduceEq, Int.reduceLT, Int.reduceLE, Int.reduceNeg, not_false_eq_true, and_self, Zeo, Zep, Int.natCast_one, Int.cast_ofNat_Int, not_true_eq_false, decide_true, decide_false, true_implies, false_implies, Int.toNat_zero, List.length_cons, List.length_nil, Nat.zero_add, mb, Nat.reduceBEq, Bool.false_and, Bool.and_false, Zeq, tys, stb, Zer, Zes, Zet, Zeu, Zev, Zew, Bool.or_false, Bool.false_or, Bool.true_and, Bool.or_true, Bool.true_or, Zex, Zey, tys2, tys4, t0, t1, t6, c1, e1, len_S hv, hx, load_hd, vBin_seql, hn]
      exact ⟨l.length - (i + 1), by omega, i + 1, rfl, by omega, rfl, hf⟩
  · have hi2 : i = l.length := by omega
    subst hi2
    have c1 : ¬ (l.length : Int) < (l.length : Int) := by omega
    rw [Nat.sub_self] at hf
    simp -implicitDefEqProofs only [Zaa, Zab, Zac, Zad, Zae, Zaf, Zag, Zah, Zai, Zaj, Zak, Zal, Zam, Zan, Zao, Zap, Zaq, Zar, Zas, Zat, Zau, Zav, Zaw, Zax, Zay, Zaz, Zba, Zbb, Zbc, Zbd, Zbe, Zbf, Zbg, Zbh, Zbi, Zbj, Zbk, Zbl, Zbm, Zbn, Zbo, Zbp, Zbq, Zbr, Zbs, Zbt, Zbu, Zbv, Zbw, Zbx, Zby, Zbz, Zca, Zcb, Zcc, Zcd, Zce, Zcf, Zcg, evalT, Zch, Nat.reduceLT, Nat.reduceEqDiff, if_true, if_false, reduceIte, true_and, Zci, Zcj, map_ite', Zck, bind_ite', Zcl, Zcm, Zcn, Zco, Zcp, Zcq, Zcr, Zcs, Zct, Zcu, Zcv, Zcw, Zcx, Zcy, Zcz, Zda, Zdb, Zdc, Zdd, Zde, Zdf, Zdg, ofVal, ofCell, argT, List.getD_cons_zero, List.getD_cons_succ, List.getElem?_toArray, List.getElem?_cons_zero, List.getElem?_cons_succ, List.nil_append, List.cons_append, List.append_nil, resT, Zdh, Zdi, Nat.mul_one, Zdj, Zdk, Zdl, Zdm, Zdn, Zdo, Zdp, Zdq, Zdr, Zds, Zdt, setT, Zdu, Zdv, Zdw, Zdx, Zdy, List.append_eq, Zdz, Zea, Zeb, Zec, Zed, Zee, Zef, Zeg, Zeh, Nat.add_zero, Zei, Zej, Zek, Zel, Zem, Zen, Int.toNat_natCast, Bool.false_eq_true, Int.reduceEq, Int.reduceLT, Int.reduceLE, Int.reduceNeg, not_false_eq_true, and_self, Zeo, Zep, Int.natCast_one, Int.cast_ofNat_Int, not_true_eq_false, decide_true, decide_false, true_implies, false_implies, Int.toNat_zero, List.length_cons, List.length_nil, Nat.zero_add, mb, Nat.reduceBEq, Bool.false_and, Bool.and_false, Zeq, tys, stb, Zer, Zes, Zet, Zeu, Zev, Zew, Bool.or_false, Bool.false_or, Bool.true_and, Bool.or_true, Bool.true_or, Zex, Zey, tys4, t0, t1, t6, c1, len_S hv]
    rw [hf]
    exact seal_found [] (-1)
theorem columnref2_call (nm : List UInt8) (a b c : V) (hca : a.closed = true) (hcb : b.closed = true) (hcc : c.closed = true) (cv : V) (cs : List Col) (hc : IsC cv cs) (ok : OkC cs) (hl : cs.length ≤ 1000) (σ : S) :
    callFn env (ev env) 32 [.agg [a, b, c, cv], .str nm] σ = some (foundV (seekC cs nm cs.length 0), σ) := by
  refine callFn_pure rfl rfl (by simp [V.closed, V.closed.closedL, closed_C hc ok, hca, hcb, hcc]) at32 rfl (by simp [Tryd.f32]) (by simp [Tryd.f32]) (G_start ?_) σ
  simp -implicitDefEqProofs only [Tryd.f32, Zaa, Zab, Zac, Zad, Zae, Zaf, Zag, Zah, Zai, Zaj, Zak, Zal, Zam, Zan, Zao, Zap, Zaq, Zar, Zas, Zat, Zau, Zav, Zaw, Zax, Zay, Zaz, Zba, Zbb, Zbc, Zbd, Zbe, Zbf, Zbg, Zbh, Zbi, Zbj, Zbk, Zbl, Zbm, Zbn, Zbo, Zbp, Zbq, Zbr, Zbs, Zbt, Zbu, Zbv, Zbw, Zbx, Zby, Zbz, Zca, Zcb, Zcc, Zcd, Zce, Zcf, Zcg, evalT, Zch, Nat.reduceLT, Nat.reduceEqDiff, if_true, if_false, reduceIte, true_and, Zci, Zcj, map_ite', Zck, bind_ite', Zcl, Zcm, Zcn, Zco, Zcp, Zcq, Zcr, Zcs, Zct, Zcu, Zcv, Zcw, Zcx, Zcy, Zcz, Zda, Zdb, Zdc, Zdd, Zde, Zdf, Zdg, ofVal, ofCell, argT, List.getD_cons_zero, List.getD_cons_succ, List.getElem?_toArray, List.getElem?_cons_zero, List.getElem?_cons_succ, List.nil_append, List.cons_append, List.append_nil, resT, Zdh, Zdi, Nat.mul_one, Zdj, Zdk, Zdl, Zdm, Zdn, Zdo, Zdp, Zdq, Zdr, Zds, Zdt, setT, Zdu, Zdv, Zdw, Zdx, Zdy, List.append_eq, Zdz, Zea, Zeb, Zec, Zed, Zee, Zef, Zeg, Zeh, Nat.add_zero, Zei, Zej, Zek, Zel, Zem, Zen, Int.toNat_natCast, Bool.false_eq_true, Int.reduceEq, Int.reduceLT, Int.reduceLE, Int.reduceNeg, not_false_eq_true, and_self, Zeo, Zep, Int.natCast_one, Int.cast_ofNat_Int, not_true_eq_false, decide_true, decide_false, true_implies, false_implies, Int.toNat_zero, List.length_cons, List.length_nil, Nat.zero_add, mb, Nat.reduceBEq, Bool.false_and, Bool.and_false, Zeq, tys, stb, Zer, Zes, Zet, Zeu, Zev, Zew, Bool.or_false, Bool.false_or, Bool.true_and, Bool.or_true, Bool.true_or, Zex, Zey, tys2, tys3, empty_mk, Zeg, List.length_nil]
  refine loop_rule (fun m T D σ => D = [] ∧ σ = ⟨[.cells [a, b, c, cv] 29], []⟩ ∧ T 2 = .ptr 0 0 ∧ T 1 = .str nm ∧ ∃ i : Nat, T 6 = .int .i64 i ∧ i ≤ cs.length ∧ m = cs.length - i ∧ seekC cs nm cs.length 0 = seekC cs nm (cs.length - i) i) ?_ _ _ _ _ ⟨rfl, rfl, rfl, rfl, 0, rfl, by omega, rfl, rfl⟩
  rintro m T D σ ⟨rfl, rfl, t2, t1, i, t6, hi, rfl, hf⟩
  refine G_start ?_
  by_cases hlt : i < cs.length
  · have c1 : (i : Int) < (cs.length : Int) := by omega
    have e1 : IntKind.i64.wrap ((i : Int) + 1) = ((i + 1 : Nat) : Int) := by rw [wrap_i64 (by omega) (by omega)]; omega
    have hx := idx_C hc hlt
    unfold seekC at hf
    rw [firstQ_step hlt] at hf
    by_cases hn : (cs.getD i Col.none).name = nm
    · rw [if_pos (decide_eq_true hn)] at hf
      simp -implicitDefEqProofs only [Zaa, Zab, Zac, Zad, Zae, Zaf, Zag, Zah, Zai, Zaj, Zak, Zal, Zam, Zan, Zao, Zap, Zaq, Zar, Zas, Zat, Zau, Zav, Zaw, Zax, Zay, Zaz, Zba, Zbb, Zbc, Zbd, Zbe, Zbf, Zbg, Zbh, Zbi, Zbj, Zbk, Zbl, Zbm, Zbn, Zbo, Zbp, Zbq, Zbr, Zbs, Zbt, Zbu, Zbv, Zbw, Zbx, Zby, Zbz, Zca, Zcb, Zcc, Zcd, Zce, Zcf, Zcg, evalT, Zch, Nat.reduceLT, Nat.reduceEqDiff, if_true, if_false, reduceIte, true_and, Zci, Zcj, map_ite', Zck, bind_ite', Zcl, Zcm, Zcn, Zco, Zcp, Zcq, Zcr, Zcs, Zct, Zcu, Zcv, Zcw, Zcx, Zcy, Zcz, Zda, Zdb, Zdc, Zdd, Zde, Zdf, Zdg, ofVal, ofCell, argT, List.getD_cons_zero, List.getD_cons_succ, List.getElem?_toArray, List.getElem?_cons_zero, List.getElem?_cons_succ, List.nil_append, List.cons_append, List.append_nil, resT, Zdh, Zdi, Nat.mul_one, Zdj, Zdk, Zdl, Zdm, Zdn, Zdo, Zdp, Zdq, Zdr, Zds, Zdt, setT, Zdu, Zdv, Zdw, Zdx, Zdy, List.append_eq, Zdz, Zea, Zeb, Zec, Zed, Zee, Zef, Zeg, Zeh, Nat.add_zero, Zei, Zej, Zek, Zel, Zem, Zen, Int.toNat_natCast, Bool.false_eq_true, Int.reduceEq, Int.reduceLT, Int.reduceLE, Int.reduceNeg, not_false_eq_true, and_self, Zeo, Zep, Int.natCast_one, Int.cast_ofNat_Int, not_true_eq_false, decide_true, decide_false, true_implies, false_implies, Int.toNat_zero, List.length_cons, List.length_nil, Nat.zero_add, mb, Nat.reduceBEq, Bool.false_and, Bool.and_false, Zeq, tys, stb, Zer, Zes, Zet, Zeu, Zev, Zew, Bool.or_false, Bool.false_or, Bool.true_and, Bool.or_true, Bool.true_or, Zex, Zey, tys2, tys4, t1, t2, t6, c1, e1, len_C hc, hx, load_hd, vBin_seql, hn]
      have h0 : (0 : Int) ≤ i := by omega
      rw [seekC, hf]
      simpa [h0] using seal_found [.cells [a, b, c, cv] 29] (i : Int)
    · rw [if_neg (by simp only [decide_eq_true_eq]; exact hn)] at hf
      simp -implicitDefEqProofs only [Zaa, Zab, Zac, Zad, Zae, Zaf, Zag, Zah, Zai, Zaj, Zak, Zal, Zam, Zan, Zao, Zap, Zaq, Zar, Zas, Zat, Zau, Zav, Zaw, Zax, Zay, Zaz, Zba, Zbb, Zbc, Zbd, Zbe, Zbf, Zbg, Zbh, Zbi, Zbj, Zbk, Zbl, Zbm, Zbn, Zbo, Zbp, Zbq, Zbr, Zbs, Zbt, Zbu, Zbv, Zbw, Zbx, Zby, Zbz, Zca, Zcb, Zcc, Zcd, Zce, Zcf, Zcg, evalT, Zch, Nat.reduceLT, Nat.reduceEqDiff, if_true, if_false, reduceIte, true_and, Zci, Zcj, map_ite', Zck, bind_ite', Zcl, Zcm, Zcn, Zco, Zcp, Zcq, Zcr, Zcs, Zct, Zcu, Zcv, Zcw, Zcx, Zcy, Zcz, Zda, Zdb, Zdc, Zdd, Zde, Zdf, Zdg, ofVal, ofCell, argT, List.getD_cons_zero, List.getD_cons_succ, List.getElem?_toArray, List.getElem?_cons_zero, List.getElem?_cons_succ, List.nil_append, List.cons_append, List.append_nil, resT, Zdh, Zdi, Nat.mul_one, Zdj, Zdk, Zdl, Zdm, Zdn, Zdo, Zdp, Zdq, Zdr, Zds, Zdt, setT, Zdu, Zdv, Zdw, Zdx, Zdy, List.append_eq, Zdz, Zea, Zeb, Zec, Zed, Zee, Zef, Zeg, Zeh, Nat.add_zero, Zei, Zej, Zek, Zel, Zem, Zen, Int.toNat_natCast, Bool.false_eq_true, Int.reduceEq, Int.reduceLT, Int.reduceLE, Int.reduceNeg, not_false_eq_true, and_self, Zeo, Zep, Int.natCast_one, Int.cast_ofNat_Int, not_true_eq_false, decide_true, decide_false, true_implies, false_implies, Int.toNat_zero, List.length_cons, List.length_nil, Nat.zero_add, mb, Nat.reduceBEq, Bool.false_and, Bool.and_false, Zeq, tys, stb, Zer, Zes, Zet, Zeu, Zev, Zew, Bool.or_false, Bool.false_or, Bool.true_and, Bool.or_true, Bool.true_or, Zex, Zey, tys2, tys4, t1, t2, t6, c1, e1, len_C hc, hx, load_hd, vBin_seql, hn]
      exact ⟨cs.length - (i + 1), by omega, i + 1, rfl, by omega, rfl, hf⟩
  · have hi2 : i = cs.length := by omega
    subst hi2
    have c1 : ¬ (cs.length : Int) < (cs.length : Int) := by omega
    rw [Nat.sub_self] at hf
    simp -implicitDefEqProofs only [Zaa, Zab, Zac, Zad, Zae, Zaf, Zag, Zah, Zai, Zaj, Zak, Zal, Zam, Zan, Zao, Zap, Zaq, Zar, Zas, Zat, Zau, Zav, Zaw, Zax, Zay, Zaz, Zba, Zbb, Zbc, Zbd, Zbe, Zbf, Zbg, Zbh, Zbi, Zbj, Zbk, Zbl, Zbm, Zbn, Zbo, Zbp, Zbq, Zbr, Zbs, Zbt, Zbu, Zbv, Zbw, Zbx, Zby, Zbz, Zca, Zcb, Zcc, Zcd, Zce, Zcf, Zcg, evalT, Zch, Nat.reduceLT, Nat.reduceEqDiff, if_true, if_false, reduceIte, true_and, Zci, Zcj, map_ite', Zck, bind_ite', Zcl, Zcm, Zcn, Zco, Zcp, Zcq, Zcr, Zcs, Zct, Zcu, Zcv, Zcw, Zcx, Zcy, Zcz, Zda, Zdb, Zdc, Zdd, Zde, Zdf, Zdg, ofVal, ofCell, argT, List.getD_cons_zero, List.getD_cons_succ, List.getElem?_toArray, List.getElem?_cons_zero, List.getElem?_cons_succ, List.nil_append, List.cons_append, List.append_nil, resT, Zdh, Zdi, Nat.mul_one, Zdj, Zdk, Zdl, Zdm, Zdn, Zdo, Zdp, Zdq, Zdr, Zds, Zdt, setT, Zdu, Zdv, Zdw, Zdx, Zdy, List.append_eq, Zdz, Zea, Zeb, Zec, Zed, Zee, Zef, Zeg, Zeh, Nat.add_zero, Zei, Zej, Zek, Zel, Zem, Zen, Int.toNat_natCast, Bool.false_eq_true, Int.reduceEq, Int.reduceLT, Int.reduceLE, Int.reduceNeg, not_false_eq_true, and_self, Zeo, Zep, Int.natCast_one, Int.cast_ofNat_Int, not_true_eq_false, decide_true, decide_false, true_implies, false_implies, Int.toNat_zero, List.length_cons, List.length_nil, Nat.zero_add, mb, Nat.reduceBEq, Bool.false_and, Bool.and_false, Zeq, tys, stb, Zer, Zes, Zet, Zeu, Zev, Zew, Bool.or_false, Bool.false_or, Bool.true_and, Bool.or_true, Bool.true_or, Zex, Zey, tys2, tys4, t1, t2, t6, c1, len_C hc]
    rw [hf]
    exact seal_found _ (-1)
end Go.Proofs.YtbikmhpobflfeaaDoor

namespace Go.Proofs.YtbikmhpobflfeaaDoor
open Go.Ab
set_option maxRecDepth 100000
set_option linter.unusedSimpArgs false
set_option linter.unusedVariables false
theorem at27 : env.P.funcs[27]? = some Tryd.f27 := by kernel_rfl
theorem at28 : env.P.funcs[28]? = some Tryd.f28 := by kernel_rfl
/-- the error of a schema in a list -/
noncomputable def checkS (l : List Sch) (i : Nat) : Int × Int := checkE (l.getD i Sch.none).name (l.getD i Sch.none).pub (l.getD i Sch.none).many (l.getD i Sch.none).cs
open Classical in
noncomputable def firstA (l : List Sch) : Nat → Nat → Int × Int × Int
  | 0, _ => (0, -1, -1)
  | m + 1, i => if (checkS l i).1 = 0 then (if ∃ k, k < i ∧ (l.getD k Sch.none).name = (l.getD i Sch.none).name then (8, (i : Int), -1) else firstA l m (i + 1)) else ((checkS l i).1, (i : Int), (checkS l i).2)
/-- the first error of schemas -/
noncomputable def allE (l : List Sch) : Int × Int × Int := if 16 < l.length then (4, 16, -1) else firstA l l.length 0
def ShortS (s : Sch) : Prop := s.name.length < 2 ^ 63 ∧ s.cs.length ≤ 1000 ∧ ∀ i, i < s.cs.length → Short (s.cs.getD i Col.none)
def tri (r : Int × Int × Int) : V := .tup [.int .i64 r.1, .int .i64 r.2.1, .int .i64 r.2.2]
theorem seal_tri (h : List AObj) (a b c : Int) (r : Int × Int × Int) (e : (a, b, c) = r) : sealV h sealDepth (oneOr [.int .i64 a, .int .i64 b, .int .i64 c]) = some (tri r) := by
  subst e
  simp only [oneOr, sealDepth, sealV_tup, mapM_seal_cons, mapM_seal_nil, sealV_int, sealV_bool, Option.bind_some, Option.map_some, tri]
theorem seek_take {l : List Sch} {nm : List UInt8} {i : Nat} (hi : i < l.length) : 0 ≤ seekS (l.take i) nm (l.take i).length 0 ↔ ∃ k, k < i ∧ (l.getD k Sch.none).name = nm := by
  have hli : (l.take i).length = i := by simp; omega
  rw [hli]; unfold seekS; rw [firstQ_pos]
  constructor
  · rintro ⟨j, _, h2, h3⟩
    have h3 := of_decide_eq_true h3
    rw [takeS_getD l (by omega)] at h3
    exact ⟨j, by omega, h3⟩
  · rintro ⟨j, h2, h3⟩
    exact ⟨j, by omega, by omega, by rw [takeS_getD l h2]; exact decide_eq_true h3⟩
theorem isCell_C {v : V} {cs : List Col} (h : IsC v cs) : v.isCell = true := by rcases h with ⟨rfl, _⟩ | rfl <;> rfl
theorem checkall_call (v : V) (l : List Sch) (hv : IsS v l) (ok : OkS l) (hl : l.length ≤ 1000) (hs : ∀ i, i < l.length → ShortS (l.getD i Sch.none)) (σ : S) : callFn env (ev env) 27 [v] σ = some (tri (allE l), σ) := by
  refine callFn_pure rfl rfl (by simp [V.closed, closed_S hv ok]) at27 rfl (by simp [Tryd.f27]) (by simp [Tryd.f27]) (G_start ?_) σ
  by_cases h16 : (16 : Int) < (l.length : Int)
  · have he : (4, 16, -1) = allE l := by unfold allE; rw [if_pos (by omega)]
    simp -implicitDefEqProofs only [Tryd.f27, Zaa, Zab, Zac, Zad, Zae, Zaf, Zag, Zah, Zai, Zaj, Zak, Zal, Zam, Zan, Zao, Zap, Zaq, Zar, Zas, Zat, Zau, Zav, Zaw, Zax, Zay, Zaz, Zba, Zbb, Zbc, Zbd, Zbe, Zbf, Zbg, Zbh, Zbi, Zbj, Zbk, Zbl, Zbm, Zbn, Zbo, Zbp, Zbq, Zbr, Zbs, Zbt, Zbu, Zbv, Zbw, Zbx, Zby, Zbz, Zca, Zcb, Zcc, Zcd, Zce, Zcf, Zcg, evalT, Zch, Nat.reduceLT, Nat.reduceEqDiff, if_true, if_false, reduceIte, true_and, Zci, Zcj, map_ite', Zck, bind_ite', Zcl, Zcm, Zcn, Zco, Zcp, Zcq, Zcr, Zcs, Zct, Zcu, Zcv, Zcw, Zcx, Zcy, Zcz, Zda, Zdb, Zdc, Zdd, Zde, Zdf, Zdg, ofVal, ofCell, argT, List.getD_cons_zero, List.getD_cons_succ, List.getElem?_toArray, List.getElem?_cons_zero, List.getElem?_cons_succ, List.nil_append, List.cons_append, List.append_nil, resT, Zdh, Zdi, Nat.mul_one, Zdj, Zdk, Zdl, Zdm, Zdn, Zdo, Zdp, Zdq, Zdr, Zds, Zdt, setT, Zdu, Zdv, Zdw, Zdx, Zdy, List.append_eq, Zdz, Zea, Zeb, Zec, Zed, Zee, Zef, Zeg, Zeh, Nat.add_zero, Zei, Zej, Zek, Zel, Zem, Zen, Int.toNat_natCast, Bool.false_eq_true, Int.reduceEq, Int.reduceLT, Int.reduceLE, Int.reduceNeg, not_false_eq_true, and_self, Zeo, Zep, Int.natCast_one, Int.cast_ofNat_Int, not_true_eq_false, decide_true, decide_false, true_implies, false_implies, Int.toNat_zero, List.length_cons, List.length_nil, Nat.zero_add, mb, Nat.reduceBEq, Bool.false_and, Bool.and_false, Zeq, tys, stb, Zer, Zes, Zet, Zeu, Zev, Zew, Bool.or_false, Bool.false_or, Bool.true_and, Bool.or_true, Bool.true_or, Zex, Zey, tys2, tys3, tys4, empty_mk, len_S hv, h16]
    exact seal_tri _ _ _ _ _ he
  have he : allE l = firstA l l.length 0 := by unfold allE; rw [if_neg (by omega)]
  simp -implicitDefEqProofs only [Tryd.f27, Zaa, Zab, Zac, Zad, Zae, Zaf, Zag, Zah, Zai, Zaj, Zak, Zal, Zam, Zan, Zao, Zap, Zaq, Zar, Zas, Zat, Zau, Zav, Zaw, Zax, Zay, Zaz, Zba, Zbb, Zbc, Zbd, Zbe, Zbf, Zbg, Zbh, Zbi, Zbj, Zbk, Zbl, Zbm, Zbn, Zbo, Zbp, Zbq, Zbr, Zbs, Zbt, Zbu, Zbv, Zbw, Zbx, Zby, Zbz, Zca, Zcb, Zcc, Zcd, Zce, Zcf, Zcg, evalT, Zch, Nat.reduceLT, Nat.reduceEqDiff, if_true, if_false, reduceIte, true_and, Zci, Zcj, map_ite', Zck, bind_ite', Zcl, Zcm, Zcn, Zco, Zcp, Zcq, Zcr, Zcs, Zct, Zcu, Zcv, Zcw, Zcx, Zcy, Zcz, Zda, Zdb, Zdc, Zdd, Zde, Zdf, Zdg, ofVal, ofCell, argT, List.getD_cons_zero, List.getD_cons_succ, List.getElem?_toArray, List.getElem?_cons_zero, List.getElem?_cons_succ, List.nil_append, List.cons_append, List.append_nil, resT, Zdh, Zdi, Nat.mul_one, Zdj, Zdk, Zdl, Zdm, Zdn, Zdo, Zdp, Zdq, Zdr, Zds, Zdt, setT, Zdu, Zdv, Zdw, Zdx, Zdy, List.append_eq, Zdz, Zea, Zeb, Zec, Zed, Zee, Zef, Zeg, Zeh, Nat.add_zero, Zei, Zej, Zek, Zel, Zem, Zen, Int.toNat_natCast, Bool.false_eq_true, Int.reduceEq, Int.reduceLT, Int.reduceLE, Int.reduceNeg, not_false_eq_true, and_self, Zeo, Zep, Int.natCast_one, Int.cast_ofNat_Int, not_true_eq_false, decide_true, decide_false, true_implies, false_implies, Int.toNat_zero, List.length_cons, List.length_nil, Nat.zero_add, mb, Nat.reduceBEq, Bool.false_and, Bool.and_false, Zeq, tys, stb, Zer, Zes, Zet, Zeu, Zev, Zew, Bool.or_false, Bool.false_or, Bool.true_and, Bool.or_true, Bool.true_or, Zex, Zey, tys2, tys3, tys4, empty_mk, len_S hv, h16]
  refine loop_rule (fun m T D σ => D = [] ∧ T 0 = v ∧ T 14 = v ∧ T 15 = .int .i64 l.length ∧ ∃ (i : Nat) (X : List AObj), σ = ⟨X, []⟩ ∧ T 16 = .int .i64 i ∧ i ≤ l.length ∧ m = l.length - i ∧ allE l = firstA l (l.length - i) i) ?_ _ _ _ _ ⟨rfl, rfl, rfl, rfl, 0, [], rfl, rfl, by omega, rfl, he⟩
  clear he
  rintro m T D σ ⟨rfl, t0, t14, t15, i, X, rfl, t16, hi, rfl, hf⟩
  refine G_start ?_
  by_cases hlt : i < l.length
  · have c1 : (i : Int) < (l.length : Int) := by omega
    have e1 : IntKind.i64.wrap ((i : Int) + 1) = ((i + 1 : Nat) : Int) := by rw [wrap_i64 (by omega) (by omega)]; omega
    have hx := idx_S hv hlt
    obtain ⟨hcc, hok⟩ := ok.at hlt
    obtain ⟨hs1, hs2, hs3⟩ := hs i hlt
    have hic := isCell_C hcc
    obtain ⟨u, hu, hcu⟩ := slice_S hv hlt
    have oku : OkS (l.take i) := fun c h => ok c (List.mem_of_mem_take h)
    have hF := find_call (l.getD i Sch.none).name u (l.take i) hcu oku (by simp; omega)
    obtain ⟨q, hq⟩ : ∃ q, l.length - i = q + 1 := ⟨l.length - i - 1, by omega⟩
    have hq2 : q = l.length - (i + 1) := by omega
    have hstep : firstA l (l.length - i) i = if (checkS l i).1 = 0 then (if ∃ k, k < i ∧ (l.getD k Sch.none).name = (l.getD i Sch.none).name then (8, (i : Int), -1) else firstA l q (i + 1)) else ((checkS l i).1, (i : Int), (checkS l i).2) := by rw [hq]; rfl
    rw [hstep] at hf
    have hC := check_call (l.getD i Sch.none).name (l.getD i Sch.none).pub (l.getD i Sch.none).many (l.getD i Sch.none).cv (l.getD i Sch.none).cs hcc hok hs1 hs2 hs3
    change ∀ σ, _ = some (V.tup [.int .i64 (checkS l i).1, .int .i64 (checkS l i).2], σ) at hC
    by_cases hz : (checkS l i).1 = 0
    · rw [if_pos hz] at hf
      simp only [hz] at hC
      by_cases hk : 0 ≤ seekS (l.take i) (l.getD i Sch.none).name (l.take i).length 0
      · rw [if_pos ((seek_take hlt).1 hk)] at hf
        simp -implicitDefEqProofs only [Zaa, Zab, Zac, Zad, Zae, Zaf, Zag, Zah, Zai, Zaj, Zak, Zal, Zam, Zan, Zao, Zap, Zaq, Zar, Zas, Zat, Zau, Zav, Zaw, Zax, Zay, Zaz, Zba, Zbb, Zbc, Zbd, Zbe, Zbf, Zbg, Zbh, Zbi, Zbj, Zbk, Zbl, Zbm, Zbn, Zbo, Zbp, Zbq, Zbr, Zbs, Zbt, Zbu, Zbv, Zbw, Zbx, Zby, Zbz, Zca, Zcb, Zcc, Zcd, Zce, Zcf, Zcg, evalT, Zch, Nat.reduceLT, Nat.reduceEqDiff, if_true, if_false, reduceIte, true_and, Zci, Zcj, map_ite', Zck, bind_ite', Zcl, Zcm, Zcn, Zco, Zcp, Zcq, Zcr, Zcs, Zct, Zcu, Zcv, Zcw, Zcx, Zcy, Zcz, Zda, Zdb, Zdc, Zdd, Zde, Zdf, Zdg, ofVal, ofCell, argT, List.getD_cons_zero, List.getD_cons_succ, List.getElem?_toArray, List.getElem?_cons_zero, List.getElem?_cons_succ, List.nil_append, List.cons_append, List.append_nil, resT, Zdh, Zdi, Nat.mul_one, Zdj, Zdk, Zdl, Zdm, Zdn, Zdo, Zdp, Zdq, Zdr, Zds, Zdt, setT, Zdu, Zdv, Zdw, Zdx, Zdy, List.append_eq, Zdz, Zea, Zeb, Zec, Zed, Zee, Zef, Zeg, Zeh, Nat.add_zero, Zei, Zej, Zek, Zel, Zem, Zen, Int.toNat_natCast, Bool.false_eq_true, Int.reduceEq, Int.reduceLT, Int.reduceLE, Int.reduceNeg, not_false_eq_true, and_self, Zeo, Zep, Int.natCast_one, Int.cast_ofNat_Int, not_true_eq_false, decide_true, decide_false, true_implies, false_implies, Int.toNat_zero, List.length_cons, List.length_nil, Nat.zero_add, mb, Nat.reduceBEq, Bool.false_and, Bool.and_false, Zeq, tys, stb, Zer, Zes, Zet, Zeu, Zev, Zew, Bool.or_false, Bool.false_or, Bool.true_and, Bool.or_true, Bool.true_or, Zex, Zey, tys2, tys3, tys4, t0, t14, t15, t16, c1, e1, hx, agg29, load4_rptr, z29, heap_end, set_end, storeList, List.take_zero, List.drop_zero, List.drop_succ_cons, List.drop_nil, List.all_cons, List.all_nil, isCell_str, isCell_int, isCell_bool, hic, Zeg, Nat.reduceAdd, Nat.reduceLeDiff, load4_end, hC, opT_slice, optO_none, optO_some, hu, hF, foundV, hk]
        exact ⟨by kernel_rfl, seal_tri _ _ _ _ _ hf.symm⟩
      · rw [if_neg (fun h => hk ((seek_take hlt).2 h)), hq2] at hf
        simp -implicitDefEqProofs only [Zaa, Zab, Zac, Zad, Zae, Zaf, Zag, Zah, Zai, Zaj, Zak, Zal, Zam, Zan, Zao, Zap, Zaq, Zar, Zas, Zat, Zau, Zav, Zaw, Zax, Zay, Zaz, Zba, Zbb, Zbc, Zbd, Zbe, Zbf, Zbg, Zbh, Zbi, Zbj, Zbk, Zbl, Zbm, Zbn, Zbo, Zbp, Zbq, Zbr, Zbs, Zbt, Zbu, Zbv, Zbw, Zbx, Zby, Zbz, Zca, Zcb, Zcc, Zcd, Zce, Zcf, Zcg, evalT, Zch, Nat.reduceLT, Nat.reduceEqDiff, if_true, if_false, reduceIte, true_and, Zci, Zcj, map_ite', Zck, bind_ite', Zcl, Zcm, Zcn, Zco, Zcp, Zcq, Zcr, Zcs, Zct, Zcu, Zcv, Zcw, Zcx, Zcy, Zcz, Zda, Zdb, Zdc, Zdd, Zde, Zdf, Zdg, ofVal, ofCell, argT, List.getD_cons_zero, List.getD_cons_succ, List.getElem?_toArray, List.getElem?_cons_zero, List.getElem?_cons_succ, List.nil_append, List.cons_append, List.append_nil, resT, Zdh, Zdi, Nat.mul_one, Zdj, Zdk, Zdl, Zdm, Zdn, Zdo, Zdp, Zdq, Zdr, Zds, Zdt, setT, Zdu, Zdv, Zdw, Zdx, Zdy, List.append_eq, Zdz, Zea, Zeb, Zec, Zed, Zee, Zef, Zeg, Zeh, Nat.add_zero, Zei, Zej, Zek, Zel, Zem, Zen, Int.toNat_natCast, Bool.false_eq_true, Int.reduceEq, Int.reduceLT, Int.reduceLE, Int.reduceNeg, not_false_eq_true, and_self, Zeo, Zep, Int.natCast_one, Int.cast_ofNat_Int, not_true_eq_false, decide_true, decide_false, true_implies, false_implies, Int.toNat_zero, List.length_cons, List.length_nil, Nat.zero_add, mb, Nat.reduceBEq, Bool.false_and, Bool.and_false, Zeq, tys, stb, Zer, Zes, Zet, Zeu, Zev, Zew, Bool.or_false, Bool.false_or, Bool.true_and, Bool.or_true, Bool.true_or, Zex, Zey, tys2, tys3, tys4, t0, t14, t15, t16, c1, e1, hx, agg29, load4_rptr, z29, heap_end, set_end, storeList, List.take_zero, List.drop_zero, List.drop_succ_cons, List.drop_nil, List.all_cons, List.all_nil, isCell_str, isCell_int, isCell_bool, hic, Zeg, Nat.reduceAdd, Nat.reduceLeDiff, load4_end, hC, opT_slice, optO_none, optO_some, hu, hF, foundV, hk]
        exact ⟨by kernel_rfl, l.length - (i + 1), by omega, i + 1, _, rfl, rfl, by omega, rfl, hf⟩
    · rw [if_neg hz] at hf
      simp -implicitDefEqProofs only [Zaa, Zab, Zac, Zad, Zae, Zaf, Zag, Zah, Zai, Zaj, Zak, Zal, Zam, Zan, Zao, Zap, Zaq, Zar, Zas, Zat, Zau, Zav, Zaw, Zax, Zay, Zaz, Zba, Zbb, Zbc, Zbd, Zbe, Zbf, Zbg, Zbh, Zbi, Zbj, Zbk, Zbl, Zbm, Zbn, Zbo, Zbp, Zbq, Zbr, Zbs, Zbt, Zbu, Zbv, Zbw, Zbx, Zby, Zbz, Zca, Zcb, Zcc, Zcd, Zce, Zcf, Zcg, evalT, Zch, Nat.reduceLT, Nat.reduceEqDiff, if_true, if_false, reduceIte, true_and, Zci, Zcj, map_ite', Zck, bind_ite', Zcl, Zcm, Zcn, Zco, Zcp, Zcq, Zcr, Zcs, Zct, Zcu, Zcv, Zcw, Zcx, Zcy, Zcz, Zda, Zdb, Zdc, Zdd, Zde, Zdf, Zdg, ofVal, ofCell, argT, List.getD_cons_zero, List.getD_cons_succ, List.getElem?_toArray, List.getElem?_cons_zero, List.getElem?_cons_succ, List.nil_append, List.cons_append, List.append_nil, resT, Zdh, Zdi, Nat.mul_one, Zdj, Zdk, Zdl, Zdm, Zdn, Zdo, Zdp, Zdq, Zdr, Zds, Zdt, setT, Zdu, Zdv, Zdw, Zdx, Zdy, List.append_eq, Zdz, Zea, Zeb, Zec, Zed, Zee, Zef, Zeg, Zeh, Nat.add_zero, Zei, Zej, Zek, Zel, Zem, Zen, Int.toNat_natCast, Bool.false_eq_true, Int.reduceEq, Int.reduceLT, Int.reduceLE, Int.reduceNeg, not_false_eq_true, and_self, Zeo, Zep, Int.natCast_one, Int.cast_ofNat_Int, not_true_eq_false, decide_true, decide_false, true_implies, false_implies, Int.toNat_zero, List.length_cons, List.length_nil, Nat.zero_add, mb, Nat.reduceBEq, Bool.false_and, Bool.and_false, Zeq, tys, stb, Zer, Zes, Zet, Zeu, Zev, Zew, Bool.or_false, Bool.false_or, Bool.true_and, Bool.or_true, Bool.true_or, Zex, Zey, tys2, tys3, tys4, t0, t14, t15, t16, c1, e1, hx, agg29, load4_rptr, z29, heap_end, set_end, storeList, List.take_zero, List.drop_zero, List.drop_succ_cons, List.drop_nil, List.all_cons, List.all_nil, isCell_str, isCell_int, isCell_bool, hic, Zeg, Nat.reduceAdd, Nat.reduceLeDiff, load4_end, hC, hz]
      exact seal_tri _ _ _ _ _ hf.symm
  · have hi2 : i = l.length := by omega
    subst hi2
    have c1 : ¬ (l.length : Int) < (l.length : Int) := by omega
    rw [Nat.sub_self] at hf
    simp -implicitDefEqProofs only [Zaa, Zab, Zac, Zad, Zae, Zaf, Zag, Zah, Zai, Zaj, Zak, Zal, Zam, Zan, Zao, Zap, Zaq, Zar, Zas, Zat, Zau, Zav, Zaw, Zax, Zay, Zaz, Zba, Zbb, Zbc, Zbd, Zbe, Zbf, Zbg, Zbh, Zbi, Zbj, Zbk, Zbl, Zbm, Zbn, Zbo, Zbp, Zbq, Zbr, Zbs, Zbt, Zbu, Zbv, Zbw, Zbx, Zby, Zbz, Zca, Zcb, Zcc, Zcd, Zce, Zcf, Zcg, evalT, Zch, Nat.reduceLT, Nat.reduceEqDiff, if_true, if_false, reduceIte, true_and, Zci, Zcj, map_ite', Zck, bind_ite', Zcl, Zcm, Zcn, Zco, Zcp, Zcq, Zcr, Zcs, Zct, Zcu, Zcv, Zcw, Zcx, Zcy, Zcz, Zda, Zdb, Zdc, Zdd, Zde, Zdf, Zdg, ofVal, ofCell, argT, List.getD_cons_zero, List.getD_cons_succ, List.getElem?_toArray, List.getElem?_cons_zero, List.getElem?_cons_succ, List.nil_append, List.cons_append, List.append_nil, resT, Zdh, Zdi, Nat.mul_one, Zdj, Zdk, Zdl, Zdm, Zdn, Zdo, Zdp, Zdq, Zdr, Zds, Zdt, setT, Zdu, Zdv, Zdw, Zdx, Zdy, List.append_eq, Zdz, Zea, Zeb, Zec, Zed, Zee, Zef, Zeg, Zeh, Nat.add_zero, Zei, Zej, Zek, Zel, Zem, Zen, Int.toNat_natCast, Bool.false_eq_true, Int.reduceEq, Int.reduceLT, Int.reduceLE, Int.reduceNeg, not_false_eq_true, and_self, Zeo, Zep, Int.natCast_one, Int.cast_ofNat_Int, not_true_eq_false, decide_true, decide_false, true_implies, false_implies, Int.toNat_zero, List.length_cons, List.length_nil, Nat.zero_add, mb, Nat.reduceBEq, Bool.false_and, Bool.and_false, Zeq, tys, stb, Zer, Zes, Zet, Zeu, Zev, Zew, Bool.or_false, Bool.false_or, Bool.true_and, Bool.or_true, Bool.true_or, Zex, Zey, t0, t14, t15, t16, c1]
    exact seal_tri _ _ _ _ _ hf.symm

theorem checkallref_call (v : V) (l : List Sch) (hv : IsS v l) (ok : OkS l) (hl : l.length ≤ 1000) (hs : ∀ i, i < l.length → ShortS (l.getD i Sch.none)) (σ : S) : callFn env (ev env) 28 [v] σ = some (tri (allE l), σ) := by
  refine callFn_pure rfl rfl (by simp [V.closed, closed_S hv ok]) at28 rfl (by simp [Tryd.f28]) (by simp [Tryd.f28]) (G_start ?_) σ
  by_cases h16 : (16 : Int) < (l.length : Int)
  · have he : (4, 16, -1) = allE l := by unfold allE; rw [if_pos (by omega)]
    simp -implicitDefEqProofs only [Tryd.f28, Zaa, Zab, Zac, Zad, Zae, Zaf, Zag, Zah, Zai, Zaj, Zak, Zal, Zam, Zan, Zao, Zap, Zaq, Zar, Zas, Zat, Zau, Zav, Zaw, Zax, Zay, Zaz, Zba, Zbb, Zbc, Zbd, Zbe, Zbf, Zbg, Zbh, Zbi, Zbj, Zbk, Zbl, Zbm, Zbn, Zbo, Zbp, Zbq, Zbr, Zbs, Zbt, Zbu, Zbv, Zbw, Zbx, Zby, Zbz, Zca, Zcb, Zcc, Zcd, Zce, Zcf, Zcg, evalT, Zch, Nat.reduceLT, Nat.reduceEqDiff, if_true, if_false, reduceIte, true_and, Zci, Zcj, map_ite', Zck, bind_ite', Zcl, Zcm, Zcn, Zco, Zcp, Zcq, Zcr, Zcs, Zct, Zcu, Zcv, Zcw, Zcx, Zcy, Zcz, Zda, Zdb, Zdc, Zdd, Zde, Zdf, Zdg, ofVal, ofCell, argT, List.getD_cons_zero, List.getD_cons_succ, List.getElem?_toArray, List.getElem?_cons_zero, List.getElem?_cons_succ, List.nil_append, List.cons_append, List.append_nil, resT, Zdh, Zdi, Nat.mul_one, Zdj, Zdk, Zdl, Zdm, Zdn, Zdo, Zdp, Zdq, Zdr, Zds, Zdt, setT, Zdu, Zdv, Zdw, Zdx, Zdy, List.append_eq, Zdz, Zea, Zeb, Zec, Zed, Zee, Zef, Zeg, Zeh, Nat.add_zero, Zei, Zej, Zek, Zel, Zem, Zen, Int.toNat_natCast, Bool.false_eq_true, Int.reduceEq, Int.reduceLT, Int.reduceLE, Int.reduceNeg, not_false_eq_true, and_self, Zeo, Zep, Int.natCast_one, Int.cast_ofNat_Int, not_true_eq_false, decide_true, decide_false, true_implies, false_implies, Int.toNat_zero, List.length_cons, List.length_nil, Nat.zero_add, mb, Nat.reduceBEq, Bool.false_and, Bool.and_false, Zeq, tys, stb, Zer, Zes, Zet, Zeu, Zev, Zew, Bool.or_false, Bool.false_or, Bool.true_and, Bool.or_true, Bool.true_or, Zex, Zey, tys2, tys3, tys4, empty_mk, len_S hv, h16]
    exact seal_tri _ _ _ _ _ he
  have he : allE l = firstA l l.length 0 := by unfold allE; rw [if_neg (by omega)]
  simp -implicitDefEqProofs only [Tryd.f28, Zaa, Zab, Zac, Zad, Zae, Zaf, Zag, Zah, Zai, Zaj, Zak, Zal, Zam, Zan, Zao, Zap, Zaq, Zar, Zas, Zat, Zau, Zav, Zaw, Zax, Zay, Zaz, Zba, Zbb, Zbc, Zbd, Zbe, Zbf, Zbg, Zbh, Zbi, Zbj, Zbk, Zbl, Zbm, Zbn, Zbo, Zbp, Zbq, Zbr, Zbs, Zbt, Zbu, Zbv, Zbw, Zbx, Zby, Zbz, Zca, Zcb, Zcc, Zcd, Zce, Zcf, Zcg, evalT, Zch, Nat.reduceLT, Nat.reduceEqDiff, if_true, if_false, reduceIte, true_and, Zci, Zcj, map_ite', Zck, bind_ite', Zcl, Zcm, Zcn, Zco, Zcp, Zcq, Zcr, Zcs, Zct, Zcu, Zcv, Zcw, Zcx, Zcy, Zcz, Zda, Zdb, Zdc, Zdd, Zde, Zdf, Zdg, ofVal, ofCell, argT, List.getD_cons_zero, List.getD_cons_succ, List.getElem?_toArray, List.getElem?_cons_zero, List.getElem?_cons_succ, List.nil_append, List.cons_append, List.append_nil, resT, Zdh, Zdi, Nat.mul_one, Zdj, Zdk, Zdl, Zdm, Zdn, Zdo, Zdp, Zdq, Zdr, Zds, Zdt, setT, Zdu, Zdv, Zdw, Zdx, Zdy, List.append_eq, Zdz, Zea, Zeb, Zec, Zed, Zee, Zef, Zeg, Zeh, Nat.add_zero, Zei, Zej, Zek, Zel, Zem, Zen, Int.toNat_natCast, Bool.false_eq_true, Int.reduceEq, Int.reduceLT, Int.reduceLE, Int.reduceNeg, not_false_eq_true, and_self, Zeo, Zep, Int.natCast_one, Int.cast_ofNat_Int, not_true_eq_false, decide_true, decide_false, true_implies, false_implies, Int.toNat_zero, List.length_cons, List.length_nil, Nat.zero_add, mb, Nat.reduceBEq, Bool.false_and, Bool.and_false, Zeq, tys, stb, Zer, Zes, Zet, Zeu, Zev, Zew, Bool.or_false, Bool.false_or, Bool.true_and, Bool.or_true, Bool.true_or, Zex, Zey, tys2, tys3, tys4, empty_mk, len_S hv, h16]
  refine loop_rule (fun m T D σ => D = [] ∧ T 0 = v ∧ ∃ (i : Nat), σ = ⟨[], []⟩ ∧ T 5 = .int .i64 i ∧ i ≤ l.length ∧ m = l.length - i ∧ allE l = firstA l (l.length - i) i) ?_ _ _ _ _ ⟨rfl, rfl, 0, rfl, rfl, by omega, rfl, he⟩
  clear he
  rintro m T D σ ⟨rfl, t0, i, rfl, t5, hi, rfl, hf⟩
  refine G_start ?_
  by_cases hlt : i < l.length
  · have c1 : (i : Int) < (l.length : Int) := by omega
    have e1 : IntKind.i64.wrap ((i : Int) + 1) = ((i + 1 : Nat) : Int) := by rw [wrap_i64 (by omega) (by omega)]; omega
    have hx := idx_S hv hlt
    obtain ⟨hcc, hok⟩ := ok.at hlt
    obtain ⟨hs1, hs2, hs3⟩ := hs i hlt
    obtain ⟨q, hq⟩ : ∃ q, l.length - i = q + 1 := ⟨l.length - i - 1, by omega⟩
    have hq2 : q = l.length - (i + 1) := by omega
    have hstep : firstA l (l.length - i) i = if (checkS l i).1 = 0 then (if ∃ k, k < i ∧ (l.getD k Sch.none).name = (l.getD i Sch.none).name then (8, (i : Int), -1) else firstA l q (i + 1)) else ((checkS l i).1, (i : Int), (checkS l i).2) := by rw [hq]; rfl
    rw [hstep] at hf
    have hC := checkref_call (l.getD i Sch.none).name (l.getD i Sch.none).pub (l.getD i Sch.none).many (l.getD i Sch.none).cv (l.getD i Sch.none).cs hcc hok hs1 hs2 hs3
    change ∀ σ, _ = some (V.tup [.int .i64 (checkS l i).1, .int .i64 (checkS l i).2], σ) at hC
    by_cases hz : (checkS l i).1 = 0
    · rw [if_pos hz] at hf
      simp only [hz] at hC
      simp -implicitDefEqProofs only [Zaa, Zab, Zac, Zad, Zae, Zaf, Zag, Zah, Zai, Zaj, Zak, Zal, Zam, Zan, Zao, Zap, Zaq, Zar, Zas, Zat, Zau, Zav, Zaw, Zax, Zay, Zaz, Zba, Zbb, Zbc, Zbd, Zbe, Zbf, Zbg, Zbh, Zbi, Zbj, Zbk, Zbl, Zbm, Zbn, Zbo, Zbp, Zbq, Zbr, Zbs, Zbt, Zbu, Zbv, Zbw, Zbx, Zby, Zbz, Zca, Zcb, Zcc, Zcd, Zce, Zcf, Zcg, evalT, Zch, Nat.reduceLT, Nat.reduceEqDiff, if_true, if_false, reduceIte, true_and, Zci, Zcj, map_ite', Zck, bind_ite', Zcl, Zcm, Zcn, Zco, Zcp, Zcq, Zcr, Zcs, Zct, Zcu, Zcv, Zcw, Zcx, Zcy, Zcz, Zda, Zdb, Zdc, Zdd, Zde, Zdf, Zdg, ofVal, ofCell, argT, List.getD_cons_zero, List.getD_cons_succ, List.getElem?_toArray, List.getElem?_cons_zero, List.getElem?_cons_succ, List.nil_append, List.cons_append, List.append_nil, resT, Zdh, Zdi, Nat.mul_one, Zdj, Zdk, Zdl, Zdm, Zdn, Zdo, Zdp, Zdq, Zdr, Zds, Zdt, setT, Zdu, Zdv, Zdw, Zdx, Zdy, List.append_eq, Zdz, Zea, Zeb, Zec, Zed, Zee, Zef, Zeg, Zeh, Nat.add_zero, Zei, Zej, Zek, Zel, Zem, Zen, Int.toNat_natCast, Bool.false_eq_true, Int.reduceEq, Int.reduceLT, Int.reduceLE, Int.reduceNeg, not_false_eq_true, and_self, Zeo, Zep, Int.natCast_one, Int.cast_ofNat_Int, not_true_eq_false, decide_true, decide_false, true_implies, false_implies, Int.toNat_zero, List.length_cons, List.length_nil, Nat.zero_add, mb, Nat.reduceBEq, Bool.false_and, Bool.and_false, Zeq, tys, stb, Zer, Zes, Zet, Zeu, Zev, Zew, Bool.or_false, Bool.false_or, Bool.true_and, Bool.or_true, Bool.true_or, Zex, Zey, tys2, tys3, tys4, t0, t5, c1, e1, len_S hv, hx, agg29, load4_rptr, hC]
      refine loop_rule (fun m T D σ => D = [] ∧ σ = ⟨[], []⟩ ∧ T 0 = v ∧ T 5 = .int .i64 i ∧ ∃ k : Nat, T 8 = .int .i64 k ∧ k ≤ i ∧ m = i - k ∧ ∀ j, j < k → (l.getD j Sch.none).name ≠ (l.getD i Sch.none).name) ?_ _ _ _ _ ⟨rfl, rfl, t0, t5, 0, rfl, by omega, rfl, fun j h1 => by omega⟩
      rintro m T D σ ⟨rfl, rfl, t0, t5, k, t8, hk, rfl, hno⟩
      refine G_start ?_
      by_cases hlt2 : k < i
      · have c3 : (k : Int) < (i : Int) := by omega
        have e2 : IntKind.i64.wrap ((k : Int) + 1) = ((k + 1 : Nat) : Int) := by rw [wrap_i64 (by omega) (by omega)]; omega
        have hy := idx_S hv (show k < l.length by omega)
        by_cases hn : (l.getD k Sch.none).name = (l.getD i Sch.none).name
        · rw [if_pos ⟨k, hlt2, hn⟩] at hf
          simp -implicitDefEqProofs only [Zaa, Zab, Zac, Zad, Zae, Zaf, Zag, Zah, Zai, Zaj, Zak, Zal, Zam, Zan, Zao, Zap, Zaq, Zar, Zas, Zat, Zau, Zav, Zaw, Zax, Zay, Zaz, Zba, Zbb, Zbc, Zbd, Zbe, Zbf, Zbg, Zbh, Zbi, Zbj, Zbk, Zbl, Zbm, Zbn, Zbo, Zbp, Zbq, Zbr, Zbs, Zbt, Zbu, Zbv, Zbw, Zbx, Zby, Zbz, Zca, Zcb, Zcc, Zcd, Zce, Zcf, Zcg, evalT, Zch, Nat.reduceLT, Nat.reduceEqDiff, if_true, if_false, reduceIte, true_and, Zci, Zcj, map_ite', Zck, bind_ite', Zcl, Zcm, Zcn, Zco, Zcp, Zcq, Zcr, Zcs, Zct, Zcu, Zcv, Zcw, Zcx, Zcy, Zcz, Zda, Zdb, Zdc, Zdd, Zde, Zdf, Zdg, ofVal, ofCell, argT, List.getD_cons_zero, List.getD_cons_succ, List.getElem?_toArray, List.getElem?_cons_zero, List.getElem?_cons_succ, List.nil_append, List.cons_append, List.append_nil, resT, Zdh, Zdi, Nat.mul_one, Zdj, Zdk, Zdl, Zdm, Zdn, Zdo, Zdp, Zdq, Zdr, Zds, Zdt, setT, Zdu, Zdv, Zdw, Zdx, Zdy, List.append_eq, Zdz, Zea, Zeb, Zec, Zed, Zee, Zef, Zeg, Zeh, Nat.add_zero, Zei, Zej, Zek, Zel, Zem, Zen, Int.toNat_natCast, Bool.false_eq_true, Int.reduceEq, Int.reduceLT, Int.reduceLE, Int.reduceNeg, not_false_eq_true, and_self, Zeo, Zep, Int.natCast_one, Int.cast_ofNat_Int, not_true_eq_false, decide_true, decide_false, true_implies, false_implies, Int.toNat_zero, List.length_cons, List.length_nil, Nat.zero_add, mb, Nat.reduceBEq, Bool.false_and, Bool.and_false, Zeq, tys, stb, Zer, Zes, Zet, Zeu, Zev, Zew, Bool.or_false, Bool.false_or, Bool.true_and, Bool.or_true, Bool.true_or, Zex, Zey, tys2, tys3, tys4, t0, t5, t8, c3, e2, hx, hy, load_hd, vBin_seql, hn]
          exact ⟨by kernel_rfl, seal_tri _ _ _ _ _ hf.symm⟩
        · simp -implicitDefEqProofs only [Zaa, Zab, Zac, Zad, Zae, Zaf, Zag, Zah, Zai, Zaj, Zak, Zal, Zam, Zan, Zao, Zap, Zaq, Zar, Zas, Zat, Zau, Zav, Zaw, Zax, Zay, Zaz, Zba, Zbb, Zbc, Zbd, Zbe, Zbf, Zbg, Zbh, Zbi, Zbj, Zbk, Zbl, Zbm, Zbn, Zbo, Zbp, Zbq, Zbr, Zbs, Zbt, Zbu, Zbv, Zbw, Zbx, Zby, Zbz, Zca, Zcb, Zcc, Zcd, Zce, Zcf, Zcg, evalT, Zch, Nat.reduceLT, Nat.reduceEqDiff, if_true, if_false, reduceIte, true_and, Zci, Zcj, map_ite', Zck, bind_ite', Zcl, Zcm, Zcn, Zco, Zcp, Zcq, Zcr, Zcs, Zct, Zcu, Zcv, Zcw, Zcx, Zcy, Zcz, Zda, Zdb, Zdc, Zdd, Zde, Zdf, Zdg, ofVal, ofCell, argT, List.getD_cons_zero, List.getD_cons_succ, List.getElem?_toArray, List.getElem?_cons_zero, List.getElem?_cons_succ, List.nil_append, List.cons_append, List.append_nil, resT, Zdh, Zdi, Nat.mul_one, Zdj, Zdk, Zdl, Zdm, Zdn, Zdo, Zdp, Zdq, Zdr, Zds, Zdt, setT, Zdu, Zdv, Zdw, Zdx, Zdy, List.append_eq, Zdz, Zea, Zeb, Zec, Zed, Zee, Zef, Zeg, Zeh, Nat.add_zero, Zei, Zej, Zek, Zel, Zem, Zen, Int.toNat_natCast, Bool.false_eq_true, Int.reduceEq, Int.reduceLT, Int.reduceLE, Int.reduceNeg, not_false_eq_true, and_self, Zeo, Zep, Int.natCast_one, Int.cast_ofNat_Int, not_true_eq_false, decide_true, decide_false, true_implies, false_implies, Int.toNat_zero, List.length_cons, List.length_nil, Nat.zero_add, mb, Nat.reduceBEq, Bool.false_and, Bool.and_false, Zeq, tys, stb, Zer, Zes, Zet, Zeu, Zev, Zew, Bool.or_false, Bool.false_or, Bool.true_and, Bool.or_true, Bool.true_or, Zex, Zey, tys2, tys3, tys4, t0, t5, t8, c3, e2, hx, hy, load_hd, vBin_seql, hn]
          exact ⟨by kernel_rfl, i - (k + 1), by omega, k + 1, rfl, by omega, rfl, fun j hj => by
            rcases Nat.lt_or_ge j k with h2 | h2
            · exact hno j h2
            · have : j = k := by omega
              subst this; exact hn⟩
      · have hk2 : k = i := by omega
        subst hk2
        have c3 : ¬ (k : Int) < (k : Int) := by omega
        rw [if_neg (by rintro ⟨j, h1, h2⟩; exact hno j h1 h2), hq2] at hf
        simp -implicitDefEqProofs only [Zaa, Zab, Zac, Zad, Zae, Zaf, Zag, Zah, Zai, Zaj, Zak, Zal, Zam, Zan, Zao, Zap, Zaq, Zar, Zas, Zat, Zau, Zav, Zaw, Zax, Zay, Zaz, Zba, Zbb, Zbc, Zbd, Zbe, Zbf, Zbg, Zbh, Zbi, Zbj, Zbk, Zbl, Zbm, Zbn, Zbo, Zbp, Zbq, Zbr, Zbs, Zbt, Zbu, Zbv, Zbw, Zbx, Zby, Zbz, Zca, Zcb, Zcc, Zcd, Zce, Zcf, Zcg, evalT, Zch, Nat.reduceLT, Nat.reduceEqDiff, if_true, if_false, reduceIte, true_and, Zci, Zcj, map_ite', Zck, bind_ite', Zcl, Zcm, Zcn, Zco, Zcp, Zcq, Zcr, Zcs, Zct, Zcu, Zcv, Zcw, Zcx, Zcy, Zcz, Zda, Zdb, Zdc, Zdd, Zde, Zdf, Zdg, ofVal, ofCell, argT, List.getD_cons_zero, List.getD_cons_succ, List.getElem?_toArray, List.getElem?_cons_zero, List.getElem?_cons_succ, List.nil_append, List.cons_append, List.append_nil, resT, Zdh, Zdi, Nat.mul_one, Zdj, Zdk, Zdl, Zdm, Zdn, Zdo, Zdp, Zdq, Zdr, Zds, Zdt, setT, Zdu, Zdv, Zdw, Zdx, Zdy, List.append_eq, Zdz, Zea, Zeb, Zec, Zed, Zee, Zef, Zeg, Zeh, Nat.add_zero, Zei, Zej, Zek, Zel, Zem, Zen, Int.toNat_natCast, Bool.false_eq_true, Int.reduceEq, Int.reduceLT, Int.reduceLE, Int.reduceNeg, not_false_eq_true, and_self, Zeo, Zep, Int.natCast_one, Int.cast_ofNat_Int, not_true_eq_false, decide_true, decide_false, true_implies, false_implies, Int.toNat_zero, List.length_cons, List.length_nil, Nat.zero_add, mb, Nat.reduceBEq, Bool.false_and, Bool.and_false, Zeq, tys, stb, Zer, Zes, Zet, Zeu, Zev, Zew, Bool.or_false, Bool.false_or, Bool.true_and, Bool.or_true, Bool.true_or, Zex, Zey, tys2, tys3, tys4, t0, t5, t8, c3, e1]
        exact ⟨l.length - (k + 1), by omega, k + 1, rfl, by omega, rfl, hf⟩
    · rw [if_neg hz] at hf
      simp -implicitDefEqProofs only [Zaa, Zab, Zac, Zad, Zae, Zaf, Zag, Zah, Zai, Zaj, Zak, Zal, Zam, Zan, Zao, Zap, Zaq, Zar, Zas, Zat, Zau, Zav, Zaw, Zax, Zay, Zaz, Zba, Zbb, Zbc, Zbd, Zbe, Zbf, Zbg, Zbh, Zbi, Zbj, Zbk, Zbl, Zbm, Zbn, Zbo, Zbp, Zbq, Zbr, Zbs, Zbt, Zbu, Zbv, Zbw, Zbx, Zby, Zbz, Zca, Zcb, Zcc, Zcd, Zce, Zcf, Zcg, evalT, Zch, Nat.reduceLT, Nat.reduceEqDiff, if_true, if_false, reduceIte, true_and, Zci, Zcj, map_ite', Zck, bind_ite', Zcl, Zcm, Zcn, Zco, Zcp, Zcq, Zcr, Zcs, Zct, Zcu, Zcv, Zcw, Zcx, Zcy, Zcz, Zda, Zdb, Zdc, Zdd, Zde, Zdf, Zdg, ofVal, ofCell, argT, List.getD_cons_zero, List.getD_cons_succ, List.getElem?_toArray, List.getElem?_cons_zero, List.getElem?_cons_succ, List.nil_append, List.cons_append, List.append_nil, resT, Zdh, Zdi, Nat.mul_one, Zdj, Zdk, Zdl, Zdm, Zdn, Zdo, Zdp, Zdq, Zdr, Zds, Zdt, setT, Zdu, Zdv, Zdw, Zdx, Zdy, List.append_eq, Zdz, Zea, Zeb, Zec, Zed, Zee, Zef, Zeg, Zeh, Nat.add_zero, Zei, Zej, Zek, Zel, Zem, Zen, Int.toNat_natCast, Bool.false_eq_true, Int.reduceEq, Int.reduceLT, Int.reduceLE, Int.reduceNeg, not_false_eq_true, and_self, Zeo, Zep, Int.natCast_one, Int.cast_ofNat_Int, not_true_eq_false, decide_true, decide_false, true_implies, false_implies, Int.toNat_zero, List.length_cons, List.length_nil, Nat.zero_add, mb, Nat.reduceBEq, Bool.false_and, Bool.and_false, Zeq, tys, stb, Zer, Zes, Zet, Zeu, Zev, Zew, Bool.or_false, Bool.false_or, Bool.true_and, Bool.or_true, Bool.true_or, Zex, Zey, tys2, tys3, tys4, t0, t5, c1, e1, len_S hv, hx, agg29, load4_rptr, hC, hz]
      exact seal_tri _ _ _ _ _ hf.symm
  · have hi2 : i = l.length := by omega
    subst hi2
    have c1 : ¬ (l.length : Int) < (l.length : Int) := by omega
    rw [Nat.sub_self] at hf
    simp -implicitDefEqProofs only [Zaa, Zab, Zac, Zad, Zae, Zaf, Zag, Zah, Zai, Zaj, Zak, Zal, Zam, Zan, Zao, Zap, Zaq, Zar, Zas, Zat, Zau, Zav, Zaw, Zax, Zay, Zaz, Zba, Zbb, Zbc, Zbd, Zbe, Zbf, Zbg, Zbh, Zbi, Zbj, Zbk, Zbl, Zbm, Zbn, Zbo, Zbp, Zbq, Zbr, Zbs, Zbt, Zbu, Zbv, Zbw, Zbx, Zby, Zbz, Zca, Zcb, Zcc, Zcd, Zce, Zcf, Zcg, evalT, Zch, Nat.reduceLT, Nat.reduceEqDiff, if_true, if_false, reduceIte, true_and, Zci, Zcj, map_ite', Zck, bind_ite', Zcl, Zcm, Zcn, Zco, Zcp, Zcq, Zcr, Zcs, Zct, Zcu, Zcv, Zcw, Zcx, Zcy, Zcz, Zda, Zdb, Zdc, Zdd, Zde, Zdf, Zdg, ofVal, ofCell, argT, List.getD_cons_zero, List.getD_cons_succ, List.getElem?_toArray, List.getElem?_cons_zero, List.getElem?_cons_succ, List.nil_append, List.cons_append, List.append_nil, resT, Zdh, Zdi, Nat.mul_one, Zdj, Zdk, Zdl, Zdm, Zdn, Zdo, Zdp, Zdq, Zdr, Zds, Zdt, setT, Zdu, Zdv, Zdw, Zdx, Zdy, List.append_eq, Zdz, Zea, Zeb, Zec, Zed, Zee, Zef, Zeg, Zeh, Nat.add_zero, Zei, Zej, Zek, Zel, Zem, Zen, Int.toNat_natCast, Bool.false_eq_true, Int.reduceEq, Int.reduceLT, Int.reduceLE, Int.reduceNeg, not_false_eq_true, and_self, Zeo, Zep, Int.natCast_one, Int.cast_ofNat_Int, not_true_eq_false, decide_true, decide_false, true_implies, false_implies, Int.toNat_zero, List.length_cons, List.length_nil, Nat.zero_add, mb, Nat.reduceBEq, Bool.false_and, Bool.and_false, Zeq, tys, stb, Zer, Zes, Zet, Zeu, Zev, Zew, Bool.or_false, Bool.false_or, Bool.true_and, Bool.or_true, Bool.true_or, Zex, Zey, tys4, t0, t5, c1, len_S hv]
    exact seal_tri _ _ _ _ _ hf.symm
end Go.Proofs.YtbikmhpobflfeaaDoor

namespace Go.Proofs.YtbikmhpobflfeaaDoor
open Go.Ab
set_option maxRecDepth 100000
set_option linter.unusedSimpArgs false
set_option linter.unusedVariables false
/-! ### arguments -/
def GoodC (c : Col) : Prop := IsW c.w c.ws ∧ c.name.length < 2 ^ 63 ∧ c.ws.length < 2 ^ 63 ∧ ∀ i, i < c.ws.length → (c.ws.getD i []).length < 2 ^ 63
def GoodS (s : Sch) : Prop := IsC s.cv s.cs ∧ (∀ c ∈ s.cs, GoodC c) ∧ s.name.length < 2 ^ 63 ∧ s.cs.length < 2 ^ 63
theorem flat1 : ∀ ss : List (List UInt8), (ss.map fun s => [V.str s]).flatten = ss.map V.str
  | [] => rfl
  | s :: ss => by simp only [List.map_cons, List.flatten_cons, flat1 ss]; rfl
theorem maxLen_lt : maxLen < 2 ^ 63 := by decide
theorem tyd_W {w : V} {k : Nat} (h : Tyd env.P (k + 2) 24 [w]) : ∃ ws, IsW w ws ∧ ws.length < 2 ^ 63 ∧ ∀ i, i < ws.length → (ws.getD i []).length < 2 ^ 63 := by
  rcases tyd_slice h u24 with h | ⟨vss, h, hl, _, ht⟩
  · simp only [List.cons.injEq, and_true] at h
    exact ⟨[], .inl ⟨h, rfl⟩, by simp, fun i h => by simp at h⟩
  · simp only [List.cons.injEq, and_true] at h
    obtain ⟨ss, rfl⟩ := tyd_map (f := fun s : {s : List UInt8 // s.length ≤ maxLen} => [V.str s.1]) (fun x hx => by
      obtain ⟨s, rfl, hs⟩ := tyd_str hx u9; exact ⟨⟨s, hs⟩, rfl⟩) ht
    have e : (ss.map fun s => [V.str s.1]) = ((ss.map (·.1)).map fun s => [V.str s]) := by simp
    have hm := maxLen_lt
    refine ⟨ss.map (·.1), .inr ?_, by simp only [List.length_map] at hl ⊢; omega, fun i hi => ?_⟩
    · rw [h, e, flat1]; simp
    · simp only [List.length_map] at hi
      have := ss[i].2
      simp only [List.getD, List.getElem?_map, List.getElem?_eq_getElem hi, Option.map_some, Option.getD_some]
      omega
theorem fts44 : fieldTs env.P 44 = some [9, 3, 3, 24] := by kernel_rfl
theorem fts29 : fieldTs env.P 29 = some [9, 4, 3, 27] := by kernel_rfl
theorem tyd_C {x : List V} {k : Nat} (h : Tyd env.P (k + 3) 44 x) : ∃ c : {c : Col // GoodC c}, x = c.1.cells := by
  have h := tyd_struct h fts44
  obtain ⟨a, r, rfl, ha, b, r2, rfl, hb, c, r3, rfl, hc, d, r4, rfl, hd, rfl⟩ := h
  obtain ⟨s, rfl, hs⟩ := tyd_str ha u9
  obtain ⟨n, rfl, _⟩ := tyd_int hb u3
  obtain ⟨m, rfl, _⟩ := tyd_int hc u3
  have hd1 : ∃ w, d = [w] := by
    rcases tyd_slice hd u24 with h | ⟨_, h, _⟩ <;> exact ⟨_, h⟩
  obtain ⟨w, rfl⟩ := hd1
  obtain ⟨ws, hw, h1, h2⟩ := tyd_W hd
  have hm := maxLen_lt
  exact ⟨⟨⟨s, n, m, w, ws⟩, hw, by simp only; omega, h1, h2⟩, rfl⟩
theorem flatCg (cs : List {c : Col // GoodC c}) : (cs.map fun c => c.1.cells).flatten = flatC (cs.map (·.1)) := by simp only [flatC, List.map_map]; rfl
theorem tyd_CS {v : V} {k : Nat} (h : Tyd env.P (k + 4) 27 [v]) : ∃ cs, IsC v cs ∧ (∀ c ∈ cs, GoodC c) ∧ cs.length < 2 ^ 63 := by
  rcases tyd_slice h u27 with h | ⟨vss, h, hl, _, ht⟩
  · simp only [List.cons.injEq, and_true] at h
    exact ⟨[], .inl ⟨h, rfl⟩, fun c h => by simp at h, by simp⟩
  · simp only [List.cons.injEq, and_true] at h
    obtain ⟨cs, rfl⟩ := tyd_map (f := fun c : {c : Col // GoodC c} => c.1.cells) (fun x hx => tyd_C hx) ht
    have hm := maxLen_lt
    refine ⟨cs.map (·.1), .inr ?_, fun c hc => ?_, by simp only [List.length_map] at hl ⊢; omega⟩
    · rw [h, flatCg]; simp
    · obtain ⟨a, _, rfl⟩ := List.mem_map.1 hc; exact a.2
theorem tyd_S {x : List V} {k : Nat} (h : Tyd env.P (k + 5) 29 x) : ∃ s : {s : Sch // GoodS s}, x = s.1.cells := by
  have h := tyd_struct h fts29
  obtain ⟨a, r, rfl, ha, b, r2, rfl, hb, c, r3, rfl, hc, d, r4, rfl, hd, rfl⟩ := h
  obtain ⟨s, rfl, hs⟩ := tyd_str ha u9
  obtain ⟨n, rfl⟩ := tyd_bool hb u4
  obtain ⟨m, rfl, _⟩ := tyd_int hc u3
  have hd1 : ∃ w, d = [w] := by
    rcases tyd_slice hd u27 with h | ⟨_, h, _⟩ <;> exact ⟨_, h⟩
  obtain ⟨w, rfl⟩ := hd1
  obtain ⟨ws, hw, h1, h2⟩ := tyd_CS hd
  have hm := maxLen_lt
  exact ⟨⟨⟨s, n, m, w, ws⟩, hw, h1, by simp only; omega, h2⟩, rfl⟩
theorem flatSg (cs : List {c : Sch // GoodS c}) : (cs.map fun c => c.1.cells).flatten = flatS (cs.map (·.1)) := by simp only [flatS, List.map_map]; rfl
theorem tyd_SS {v : V} {k : Nat} (h : Tyd env.P (k + 6) 36 [v]) : ∃ l, IsS v l ∧ (∀ c ∈ l, GoodS c) ∧ l.length < 2 ^ 63 := by
  rcases tyd_slice h tys4 with h | ⟨vss, h, hl, _, ht⟩
  · simp only [List.cons.injEq, and_true] at h
    exact ⟨[], .inl ⟨h, rfl⟩, fun c h => by simp at h, by simp⟩
  · simp only [List.cons.injEq, and_true] at h
    obtain ⟨cs, rfl⟩ := tyd_map (f := fun c : {c : Sch // GoodS c} => c.1.cells) (fun x hx => tyd_S hx) ht
    have hm := maxLen_lt
    refine ⟨cs.map (·.1), .inr ?_, fun c hc => ?_, by simp only [List.length_map] at hl ⊢; omega⟩
    · rw [h, flatSg]; simp
    · obtain ⟨a, _, rfl⟩ := List.mem_map.1 hc; exact a.2
theorem GoodS.okC {s : Sch} (h : GoodS s) : OkC s.cs := fun c hc => (h.2.1 c hc).1
theorem getD_mem {α : Type} {l : List α} {d : α} {i : Nat} (h : i < l.length) : l.getD i d ∈ l := by simp [List.getD, h]
theorem GoodS.short {s : Sch} (h : GoodS s) (hv : ¬ Vast s.cs) : ShortS s := by
  have h2 : ¬ 100 < s.cs.length := fun q => hv (.inr q)
  refine ⟨h.2.2.1, by omega, fun i hi => ?_⟩
  have hg := h.2.1 _ (getD_mem (d := Col.none) hi)
  have h3 : ¬ 100 < (s.cs.getD i Col.none).ws.length := fun q => hv (.inl ⟨i, hi, q⟩)
  exact ⟨hg.2.1, by omega, hg.2.2.2⟩

theorem at5 : env.P.funcs[5]? = some Tryd.f5 := by kernel_rfl
open Classical in
theorem all_found (v : V) (l : List Sch) (nm : List UInt8) (hv : IsS v l) (hg : ∀ c ∈ l, GoodS c) (hl : l.length < 2 ^ 63) : Go.Ab.Found env 5 [v, .str nm] := by
  refine found_of_wp at5 rfl (by simp [Tryd.f5]) (by simp [Tryd.f5]) (G_start ?_)
  have ok : OkS l := fun s hs => ⟨(hg s hs).1, (hg s hs).okC⟩
  simp -implicitDefEqProofs only [Tryd.f5, Zaa, Zab, Zac, Zad, Zae, Zaf, Zag, Zah, Zai, Zaj, Zak, Zal, Zam, Zan, Zao, Zap, Zaq, Zar, Zas, Zat, Zau, Zav, Zaw, Zax, Zay, Zaz, Zba, Zbb, Zbc, Zbd, Zbe, Zbf, Zbg, Zbh, Zbi, Zbj, Zbk, Zbl, Zbm, Zbn, Zbo, Zbp, Zbq, Zbr, Zbs, Zbt, Zbu, Zbv, Zbw, Zbx, Zby, Zbz, Zca, Zcb, Zcc, Zcd, Zce, Zcf, Zcg, evalT, Zch, Nat.reduceLT, Nat.reduceEqDiff, if_true, if_false, reduceIte, true_and, Zci, Zcj, map_ite', Zck, bind_ite', Zcl, Zcm, Zcn, Zco, Zcp, Zcq, Zcr, Zcs, Zct, Zcu, Zcv, Zcw, Zcx, Zcy, Zcz, Zda, Zdb, Zdc, Zdd, Zde, Zdf, Zdg, ofVal, ofCell, argT, List.getD_cons_zero, List.getD_cons_succ, List.getElem?_toArray, List.getElem?_cons_zero, List.getElem?_cons_succ, List.nil_append, List.cons_append, List.append_nil, resT, Zdh, Zdi, Nat.mul_one, Zdj, Zdk, Zdl, Zdm, Zdn, Zdo, Zdp, Zdq, Zdr, Zds, Zdt, setT, Zdu, Zdv, Zdw, Zdx, Zdy, List.append_eq, Zdz, Zea, Zeb, Zec, Zed, Zee, Zef, Zeg, Zeh, Nat.add_zero, Zei, Zej, Zek, Zel, Zem, Zen, Int.toNat_natCast, Bool.false_eq_true, Int.reduceEq, Int.reduceLT, Int.reduceLE, Int.reduceNeg, not_false_eq_true, and_self, Zeo, Zep, Int.natCast_one, Int.cast_ofNat_Int, not_true_eq_false, decide_true, decide_false, true_implies, false_implies, Int.toNat_zero, List.length_cons, List.length_nil, Nat.zero_add, mb, Nat.reduceBEq, Bool.false_and, Bool.and_false, Zeq, tys, stb, Zer, Zes, Zet, Zeu, Zev, Zew, Bool.or_false, Bool.false_or, Bool.true_and, Bool.or_true, Bool.true_or, Zex, Zey, tys2, tys3, tys4, empty_mk]
  refine loop_rule (fun m T D σ => D = [] ∧ T 0 = v ∧ T 1 = .str nm ∧ σ = ⟨[], []⟩ ∧ ∃ (i : Nat), T 5 = .int .i64 i ∧ i ≤ l.length ∧ m = l.length - i ∧ ∀ j, j < i → ¬ Vast (l.getD j Sch.none).cs) ?_ _ _ _ _ ⟨rfl, rfl, rfl, rfl, 0, rfl, by omega, rfl, fun j h => by omega⟩
  rintro m T D σ ⟨rfl, t0, t1, rfl, i, t5, hi, rfl, hno⟩
  refine G_start ?_
  by_cases hgo : i < l.length ∧ i < 21
  · obtain ⟨hlt, h21⟩ := hgo
    have c1 : (i : Int) < (l.length : Int) := by omega
    have c2 : (i : Int) < 21 := by omega
    have e1 : IntKind.i64.wrap ((i : Int) + 1) = ((i + 1 : Nat) : Int) := by rw [wrap_i64 (by omega) (by omega)]; omega
    have hx := idx_S hv hlt
    have hgs := hg _ (getD_mem (d := Sch.none) hlt)
    have hV := vast_call (l.getD i Sch.none).name (l.getD i Sch.none).pub (l.getD i Sch.none).many (l.getD i Sch.none).cv (l.getD i Sch.none).cs hgs.1 hgs.okC hgs.2.2.2
    by_cases hvast : Vast (l.getD i Sch.none).cs
    · simp only [hvast, decide_true] at hV
      simp -implicitDefEqProofs only [Zaa, Zab, Zac, Zad, Zae, Zaf, Zag, Zah, Zai, Zaj, Zak, Zal, Zam, Zan, Zao, Zap, Zaq, Zar, Zas, Zat, Zau, Zav, Zaw, Zax, Zay, Zaz, Zba, Zbb, Zbc, Zbd, Zbe, Zbf, Zbg, Zbh, Zbi, Zbj, Zbk, Zbl, Zbm, Zbn, Zbo, Zbp, Zbq, Zbr, Zbs, Zbt, Zbu, Zbv, Zbw, Zbx, Zby, Zbz, Zca, Zcb, Zcc, Zcd, Zce, Zcf, Zcg, evalT, Zch, Nat.reduceLT, Nat.reduceEqDiff, if_true, if_false, reduceIte, true_and, Zci, Zcj, map_ite', Zck, bind_ite', Zcl, Zcm, Zcn, Zco, Zcp, Zcq, Zcr, Zcs, Zct, Zcu, Zcv, Zcw, Zcx, Zcy, Zcz, Zda, Zdb, Zdc, Zdd, Zde, Zdf, Zdg, ofVal, ofCell, argT, List.getD_cons_zero, List.getD_cons_succ, List.getElem?_toArray, List.getElem?_cons_zero, List.getElem?_cons_succ, List.nil_append, List.cons_append, List.append_nil, resT, Zdh, Zdi, Nat.mul_one, Zdj, Zdk, Zdl, Zdm, Zdn, Zdo, Zdp, Zdq, Zdr, Zds, Zdt, setT, Zdu, Zdv, Zdw, Zdx, Zdy, List.append_eq, Zdz, Zea, Zeb, Zec, Zed, Zee, Zef, Zeg, Zeh, Nat.add_zero, Zei, Zej, Zek, Zel, Zem, Zen, Int.toNat_natCast, Bool.false_eq_true, Int.reduceEq, Int.reduceLT, Int.reduceLE, Int.reduceNeg, not_false_eq_true, and_self, Zeo, Zep, Int.natCast_one, Int.cast_ofNat_Int, not_true_eq_false, decide_true, decide_false, true_implies, false_implies, Int.toNat_zero, List.length_cons, List.length_nil, Nat.zero_add, mb, Nat.reduceBEq, Bool.false_and, Bool.and_false, Zeq, tys, stb, Zer, Zes, Zet, Zeu, Zev, Zew, Bool.or_false, Bool.false_or, Bool.true_and, Bool.or_true, Bool.true_or, Zex, Zey, tys2, tys3, tys4, t0, t1, t5, c1, c2, e1, len_S hv, hx, agg29, load4_rptr, hV, awake_call]
      simp [oneOr]
    · simp only [hvast, decide_false] at hV
      simp -implicitDefEqProofs only [Zaa, Zab, Zac, Zad, Zae, Zaf, Zag, Zah, Zai, Zaj, Zak, Zal, Zam, Zan, Zao, Zap, Zaq, Zar, Zas, Zat, Zau, Zav, Zaw, Zax, Zay, Zaz, Zba, Zbb, Zbc, Zbd, Zbe, Zbf, Zbg, Zbh, Zbi, Zbj, Zbk, Zbl, Zbm, Zbn, Zbo, Zbp, Zbq, Zbr, Zbs, Zbt, Zbu, Zbv, Zbw, Zbx, Zby, Zbz, Zca, Zcb, Zcc, Zcd, Zce, Zcf, Zcg, evalT, Zch, Nat.reduceLT, Nat.reduceEqDiff, if_true, if_false, reduceIte, true_and, Zci, Zcj, map_ite', Zck, bind_ite', Zcl, Zcm, Zcn, Zco, Zcp, Zcq, Zcr, Zcs, Zct, Zcu, Zcv, Zcw, Zcx, Zcy, Zcz, Zda, Zdb, Zdc, Zdd, Zde, Zdf, Zdg, ofVal, ofCell, argT, List.getD_cons_zero, List.getD_cons_succ, List.getElem?_toArray, List.getElem?_cons_zero, List.getElem?_cons_succ, List.nil_append, List.cons_append, List.append_nil, resT, Zdh, Zdi, Nat.mul_one, Zdj, Zdk, Zdl, Zdm, Zdn, Zdo, Zdp, Zdq, Zdr, Zds, Zdt, setT, Zdu, Zdv, Zdw, Zdx, Zdy, List.append_eq, Zdz, Zea, Zeb, Zec, Zed, Zee, Zef, Zeg, Zeh, Nat.add_zero, Zei, Zej, Zek, Zel, Zem, Zen, Int.toNat_natCast, Bool.false_eq_true, Int.reduceEq, Int.reduceLT, Int.reduceLE, Int.reduceNeg, not_false_eq_true, and_self, Zeo, Zep, Int.natCast_one, Int.cast_ofNat_Int, not_true_eq_false, decide_true, decide_false, true_implies, false_implies, Int.toNat_zero, List.length_cons, List.length_nil, Nat.zero_add, mb, Nat.reduceBEq, Bool.false_and, Bool.and_false, Zeq, tys, stb, Zer, Zes, Zet, Zeu, Zev, Zew, Bool.or_false, Bool.false_or, Bool.true_and, Bool.or_true, Bool.true_or, Zex, Zey, tys2, tys3, tys4, t0, t1, t5, c1, c2, e1, len_S hv, hx, agg29, load4_rptr, hV, awake_call]
      exact ⟨l.length - (i + 1), by omega, i + 1, rfl, by omega, rfl, fun j hj => by
        rcases Nat.lt_or_ge j i with h2 | h2
        · exact hno j h2
        · have : j = i := by omega
          subst this; exact hvast⟩
  have key : ∀ Q : Prop, ((i : Int) < (l.length : Int) → ¬ (i : Int) < 21 → Q) → (¬ (i : Int) < (l.length : Int) → Q) → Q := fun Q a b => by
    by_cases h : i < l.length
    · exact a (by omega) (by omega)
    · exact b (by omega)
  by_cases h20 : (20 : Int) < (l.length : Int)
  · refine key _ (fun c1 c2 => ?_) (fun c1 => ?_)
    · simp -implicitDefEqProofs only [Zaa, Zab, Zac, Zad, Zae, Zaf, Zag, Zah, Zai, Zaj, Zak, Zal, Zam, Zan, Zao, Zap, Zaq, Zar, Zas, Zat, Zau, Zav, Zaw, Zax, Zay, Zaz, Zba, Zbb, Zbc, Zbd, Zbe, Zbf, Zbg, Zbh, Zbi, Zbj, Zbk, Zbl, Zbm, Zbn, Zbo, Zbp, Zbq, Zbr, Zbs, Zbt, Zbu, Zbv, Zbw, Zbx, Zby, Zbz, Zca, Zcb, Zcc, Zcd, Zce, Zcf, Zcg, evalT, Zch, Nat.reduceLT, Nat.reduceEqDiff, if_true, if_false, reduceIte, true_and, Zci, Zcj, map_ite', Zck, bind_ite', Zcl, Zcm, Zcn, Zco, Zcp, Zcq, Zcr, Zcs, Zct, Zcu, Zcv, Zcw, Zcx, Zcy, Zcz, Zda, Zdb, Zdc, Zdd, Zde, Zdf, Zdg, ofVal, ofCell, argT, List.getD_cons_zero, List.getD_cons_succ, List.getElem?_toArray, List.getElem?_cons_zero, List.getElem?_cons_succ, List.nil_append, List.cons_append, List.append_nil, resT, Zdh, Zdi, Nat.mul_one, Zdj, Zdk, Zdl, Zdm, Zdn, Zdo, Zdp, Zdq, Zdr, Zds, Zdt, setT, Zdu, Zdv, Zdw, Zdx, Zdy, List.append_eq, Zdz, Zea, Zeb, Zec, Zed, Zee, Zef, Zeg, Zeh, Nat.add_zero, Zei, Zej, Zek, Zel, Zem, Zen, Int.toNat_natCast, Bool.false_eq_true, Int.reduceEq, Int.reduceLT, Int.reduceLE, Int.reduceNeg, not_false_eq_true, and_self, Zeo, Zep, Int.natCast_one, Int.cast_ofNat_Int, not_true_eq_false, decide_true, decide_false, true_implies, false_implies, Int.toNat_zero, List.length_cons, List.length_nil, Nat.zero_add, mb, Nat.reduceBEq, Bool.false_and, Bool.and_false, Zeq, tys, stb, Zer, Zes, Zet, Zeu, Zev, Zew, Bool.or_false, Bool.false_or, Bool.true_and, Bool.or_true, Bool.true_or, Zex, Zey, tys2, tys3, tys4, t0, t1, t5, c1, c2, len_S hv, awake_call, h20]
      simp [oneOr]
    · simp -implicitDefEqProofs only [Zaa, Zab, Zac, Zad, Zae, Zaf, Zag, Zah, Zai, Zaj, Zak, Zal, Zam, Zan, Zao, Zap, Zaq, Zar, Zas, Zat, Zau, Zav, Zaw, Zax, Zay, Zaz, Zba, Zbb, Zbc, Zbd, Zbe, Zbf, Zbg, Zbh, Zbi, Zbj, Zbk, Zbl, Zbm, Zbn, Zbo, Zbp, Zbq, Zbr, Zbs, Zbt, Zbu, Zbv, Zbw, Zbx, Zby, Zbz, Zca, Zcb, Zcc, Zcd, Zce, Zcf, Zcg, evalT, Zch, Nat.reduceLT, Nat.reduceEqDiff, if_true, if_false, reduceIte, true_and, Zci, Zcj, map_ite', Zck, bind_ite', Zcl, Zcm, Zcn, Zco, Zcp, Zcq, Zcr, Zcs, Zct, Zcu, Zcv, Zcw, Zcx, Zcy, Zcz, Zda, Zdb, Zdc, Zdd, Zde, Zdf, Zdg, ofVal, ofCell, argT, List.getD_cons_zero, List.getD_cons_succ, List.getElem?_toArray, List.getElem?_cons_zero, List.getElem?_cons_succ, List.nil_append, List.cons_append, List.append_nil, resT, Zdh, Zdi, Nat.mul_one, Zdj, Zdk, Zdl, Zdm, Zdn, Zdo, Zdp, Zdq, Zdr, Zds, Zdt, setT, Zdu, Zdv, Zdw, Zdx, Zdy, List.append_eq, Zdz, Zea, Zeb, Zec, Zed, Zee, Zef, Zeg, Zeh, Nat.add_zero, Zei, Zej, Zek, Zel, Zem, Zen, Int.toNat_natCast, Bool.false_eq_true, Int.reduceEq, Int.reduceLT, Int.reduceLE, Int.reduceNeg, not_false_eq_true, and_self, Zeo, Zep, Int.natCast_one, Int.cast_ofNat_Int, not_true_eq_false, decide_true, decide_false, true_implies, false_implies, Int.toNat_zero, List.length_cons, List.length_nil, Nat.zero_add, mb, Nat.reduceBEq, Bool.false_and, Bool.and_false, Zeq, tys, stb, Zer, Zes, Zet, Zeu, Zev, Zew, Bool.or_false, Bool.false_or, Bool.true_and, Bool.or_true, Bool.true_or, Zex, Zey, tys2, tys3, tys4, t0, t1, t5, c1, len_S hv, awake_call, h20]
      simp [oneOr]
  have hi2 : i = l.length := by omega
  subst hi2
  have c1 : ¬ (l.length : Int) < (l.length : Int) := by omega
  have hs : ∀ i, i < l.length → ShortS (l.getD i Sch.none) := fun i hi => (hg _ (getD_mem (d := Sch.none) hi)).short (hno i hi)
  clear key
  have hA := checkall_call v l hv ok (by omega) hs
  have hB := checkallref_call v l hv ok (by omega) hs
  have hC := find_call nm v l hv ok (by omega)
  have hD := findref_call nm v l hv ok (by omega)
  unfold tri at hA hB
  unfold foundV at hC hD
  generalize (allE l).1 = r1 at *
  generalize (allE l).2.1 = r2 at *
  generalize (allE l).2.2 = r3 at *
  generalize (if 0 ≤ seekS l nm l.length 0 then seekS l nm l.length 0 else 0) = r4 at *
  generalize decide (0 ≤ seekS l nm l.length 0) = r5 at *
  simp -implicitDefEqProofs only [Zaa, Zab, Zac, Zad, Zae, Zaf, Zag, Zah, Zai, Zaj, Zak, Zal, Zam, Zan, Zao, Zap, Zaq, Zar, Zas, Zat, Zau, Zav, Zaw, Zax, Zay, Zaz, Zba, Zbb, Zbc, Zbd, Zbe, Zbf, Zbg, Zbh, Zbi, Zbj, Zbk, Zbl, Zbm, Zbn, Zbo, Zbp, Zbq, Zbr, Zbs, Zbt, Zbu, Zbv, Zbw, Zbx, Zby, Zbz, Zca, Zcb, Zcc, Zcd, Zce, Zcf, Zcg, evalT, Zch, Nat.reduceLT, Nat.reduceEqDiff, if_true, if_false, reduceIte, true_and, Zci, Zcj, map_ite', Zck, bind_ite', Zcl, Zcm, Zcn, Zco, Zcp, Zcq, Zcr, Zcs, Zct, Zcu, Zcv, Zcw, Zcx, Zcy, Zcz, Zda, Zdb, Zdc, Zdd, Zde, Zdf, Zdg, ofVal, ofCell, argT, List.getD_cons_zero, List.getD_cons_succ, List.getElem?_toArray, List.getElem?_cons_zero, List.getElem?_cons_succ, List.nil_append, List.cons_append, List.append_nil, resT, Zdh, Zdi, Nat.mul_one, Zdj, Zdk, Zdl, Zdm, Zdn, Zdo, Zdp, Zdq, Zdr, Zds, Zdt, setT, Zdu, Zdv, Zdw, Zdx, Zdy, List.append_eq, Zdz, Zea, Zeb, Zec, Zed, Zee, Zef, Zeg, Zeh, Nat.add_zero, Zei, Zej, Zek, Zel, Zem, Zen, Int.toNat_natCast, Bool.false_eq_true, Int.reduceEq, Int.reduceLT, Int.reduceLE, Int.reduceNeg, not_false_eq_true, and_self, Zeo, Zep, Int.natCast_one, Int.cast_ofNat_Int, not_true_eq_false, decide_true, decide_false, true_implies, false_implies, Int.toNat_zero, List.length_cons, List.length_nil, Nat.zero_add, mb, Nat.reduceBEq, Bool.false_and, Bool.and_false, Zeq, tys, stb, Zer, Zes, Zet, Zeu, Zev, Zew, Bool.or_false, Bool.false_or, Bool.true_and, Bool.or_true, Bool.true_or, Zex, Zey, tys2, tys3, tys4, t0, t1, t5, c1, len_S hv, awake_call, h20, hA, hB, hC, hD]
  refine loop_rule (fun m T D σ => D = [] ∧ T 0 = v ∧ T 1 = .str nm ∧ σ = ⟨[], []⟩ ∧ ∃ (i : Nat), T 16 = .int .i64 i ∧ i ≤ l.length ∧ m = l.length - i) ?_ _ _ _ _ ⟨rfl, t0, t1, rfl, 0, rfl, by omega, rfl⟩
  clear t0 t1 t5 T
  rintro m T D σ ⟨rfl, t0, t1, rfl, i, t16, hi, rfl⟩
  refine G_start ?_
  by_cases hlt : i < l.length
  · have c1 : (i : Int) < (l.length : Int) := by omega
    have e1 : IntKind.i64.wrap ((i : Int) + 1) = ((i + 1 : Nat) : Int) := by rw [wrap_i64 (by omega) (by omega)]; omega
    have hx := idx_S hv hlt
    have hgs := hg _ (getD_mem (d := Sch.none) hlt)
    have hsh := hs i hlt
    have hA := column2_call nm (.str (l.getD i Sch.none).name) (.bool (l.getD i Sch.none).pub) (.int .i64 (l.getD i Sch.none).many) rfl rfl rfl (l.getD i Sch.none).cv (l.getD i Sch.none).cs hgs.1 hgs.okC hsh.2.1
    have hB := columnref2_call nm (.str (l.getD i Sch.none).name) (.bool (l.getD i Sch.none).pub) (.int .i64 (l.getD i Sch.none).many) rfl rfl rfl (l.getD i Sch.none).cv (l.getD i Sch.none).cs hgs.1 hgs.okC hsh.2.1
    unfold foundV at hA hB
    generalize hw1 : seekC (l.getD i Sch.none).cs nm (l.getD i Sch.none).cs.length 0 = w1 at hA hB
    generalize (if 0 ≤ w1 then w1 else 0) = w2 at hA hB
    generalize decide (0 ≤ w1) = w3 at hA hB
    simp -implicitDefEqProofs only [Zaa, Zab, Zac, Zad, Zae, Zaf, Zag, Zah, Zai, Zaj, Zak, Zal, Zam, Zan, Zao, Zap, Zaq, Zar, Zas, Zat, Zau, Zav, Zaw, Zax, Zay, Zaz, Zba, Zbb, Zbc, Zbd, Zbe, Zbf, Zbg, Zbh, Zbi, Zbj, Zbk, Zbl, Zbm, Zbn, Zbo, Zbp, Zbq, Zbr, Zbs, Zbt, Zbu, Zbv, Zbw, Zbx, Zby, Zbz, Zca, Zcb, Zcc, Zcd, Zce, Zcf, Zcg, evalT, Zch, Nat.reduceLT, Nat.reduceEqDiff, if_true, if_false, reduceIte, true_and, Zci, Zcj, map_ite', Zck, bind_ite', Zcl, Zcm, Zcn, Zco, Zcp, Zcq, Zcr, Zcs, Zct, Zcu, Zcv, Zcw, Zcx, Zcy, Zcz, Zda, Zdb, Zdc, Zdd, Zde, Zdf, Zdg, ofVal, ofCell, argT, List.getD_cons_zero, List.getD_cons_succ, List.getElem?_toArray, List.getElem?_cons_zero, List.getElem?_cons_succ, List.nil_append, List.cons_append, List.append_nil, resT, Zdh, Zdi, Nat.mul_one, Zdj, Zdk, Zdl, Zdm, Zdn, Zdo, Zdp, Zdq, Zdr, Zds, Zdt, setT, Zdu, Zdv, Zdw, Zdx, Zdy, List.append_eq, Zdz, Zea, Zeb, Zec, Zed, Zee, Zef, Zeg, Zeh, Nat.add_zero, Zei, Zej, Zek, Zel, Zem, Zen, Int.toNat_natCast, Bool.false_eq_true, Int.reduceEq, Int.reduceLT, Int.reduceLE, Int.reduceNeg, not_false_eq_true, and_self, Zeo, Zep, Int.natCast_one, Int.cast_ofNat_Int, not_true_eq_false, decide_true, decide_false, true_implies, false_implies, Int.toNat_zero, List.length_cons, List.length_nil, Nat.zero_add, mb, Nat.reduceBEq, Bool.false_and, Bool.and_false, Zeq, tys, stb, Zer, Zes, Zet, Zeu, Zev, Zew, Bool.or_false, Bool.false_or, Bool.true_and, Bool.or_true, Bool.true_or, Zex, Zey, tys2, tys3, tys4, t0, t1, t16, c1, e1, len_S hv, hx, agg29, load4_rptr, hA, hB]
    exact ⟨l.length - (i + 1), by omega, i + 1, rfl, by omega, rfl⟩
  · have hi2 : i = l.length := by omega
    subst hi2
    have c1 : ¬ (l.length : Int) < (l.length : Int) := by omega
    simp -implicitDefEqProofs only [Zaa, Zab, Zac, Zad, Zae, Zaf, Zag, Zah, Zai, Zaj, Zak, Zal, Zam, Zan, Zao, Zap, Zaq, Zar, Zas, Zat, Zau, Zav, Zaw, Zax, Zay, Zaz, Zba, Zbb, Zbc, Zbd, Zbe, Zbf, Zbg, Zbh, Zbi, Zbj, Zbk, Zbl, Zbm, Zbn, Zbo, Zbp, Zbq, Zbr, Zbs, Zbt, Zbu, Zbv, Zbw, Zbx, Zby, Zbz, Zca, Zcb, Zcc, Zcd, Zce, Zcf, Zcg, evalT, Zch, Nat.reduceLT, Nat.reduceEqDiff, if_true, if_false, reduceIte, true_and, Zci, Zcj, map_ite', Zck, bind_ite', Zcl, Zcm, Zcn, Zco, Zcp, Zcq, Zcr, Zcs, Zct, Zcu, Zcv, Zcw, Zcx, Zcy, Zcz, Zda, Zdb, Zdc, Zdd, Zde, Zdf, Zdg, ofVal, ofCell, argT, List.getD_cons_zero, List.getD_cons_succ, List.getElem?_toArray, List.getElem?_cons_zero, List.getElem?_cons_succ, List.nil_append, List.cons_append, List.append_nil, resT, Zdh, Zdi, Nat.mul_one, Zdj, Zdk, Zdl, Zdm, Zdn, Zdo, Zdp, Zdq, Zdr, Zds, Zdt, setT, Zdu, Zdv, Zdw, Zdx, Zdy, List.append_eq, Zdz, Zea, Zeb, Zec, Zed, Zee, Zef, Zeg, Zeh, Nat.add_zero, Zei, Zej, Zek, Zel, Zem, Zen, Int.toNat_natCast, Bool.false_eq_true, Int.reduceEq, Int.reduceLT, Int.reduceLE, Int.reduceNeg, not_false_eq_true, and_self, Zeo, Zep, Int.natCast_one, Int.cast_ofNat_Int, not_true_eq_false, decide_true, decide_false, true_implies, false_implies, Int.toNat_zero, List.length_cons, List.length_nil, Nat.zero_add, mb, Nat.reduceBEq, Bool.false_and, Bool.and_false, Zeq, tys, stb, Zer, Zes, Zet, Zeu, Zev, Zew, Bool.or_false, Bool.false_or, Bool.true_and, Bool.or_true, Bool.true_or, Zex, Zey, tys2, tys3, tys4, t0, t1, t16, c1, len_S hv, awake_call]
    simp [oneOr]
theorem all_foundt {u0 u1 : V} (h0 : Tyd Tryd.prog 8 36 [u0]) (h1 : Tyd Tryd.prog 8 9 [u1]) : Go.Ab.Found env 5 [u0, u1] := by
  obtain ⟨l, hv, hg, hl⟩ := tyd_SS (k := 2) h0
  obtain ⟨s, e, _⟩ := tyd_str (k := 7) h1 u9
  simp only [List.cons.injEq, and_true] at e
  subst e
  exact all_found u0 l s hv hg hl
end Go.Proofs.YtbikmhpobflfeaaDoor
