/- Proved here: the scanner. Conditions: those of each theorem; no statement of the seat is proved in this text. -/
import Derived.Test.YtbikmhpobflfeaaDoorTkA
namespace Go.Proofs.YtbikmhpobflfeaaDoor
open Go.Ab
set_option maxRecDepth 100000
set_option linter.unusedSimpArgs false
set_option linter.unusedVariables false
def X99 (s : List UInt8) (L : List AObj) (ts : List Nat) (p i : Nat) (v : V) : Prop := ∃ o, callFn env (ev env) 99 [.ptr p 0, .int .i64 (i : Nat)] ⟨L, ts⟩ = some (v, ⟨L ++ o, ts⟩)
theorem nx_l00 (s : List UInt8) (hl : s.length ≤ 2 ^ 30) (L : List AObj) (ts : List Nat) (p : Nat) (hp : L[p]? = some (.cells (scnL s) 91)) (i : Nat) (hi : i < s.length) (hc : clsN (s.getD i 0).toNat = 2) (x : List UInt8) (e : Nat) (hx : x = subS s i e) (he : e = endW s [2, 3, 4] i) (h1 : ¬ x ∈ N.wordsW) (h2 : ¬ 20 < e - i) :
    X99 s L ts p i (.tup [.agg [.int .i64 1, .str x, .int .i64 0, .int .i64 i], .int .i64 e, .int .i64 0]) := by
  have c2 : (0 : Int) ≤ (i : Int) ∧ (i : Int) < (s.length : Int) := by omega
  have hp2 : ∀ o, (L ++ o)[p]? = some (.cells (scnL s) 91) := fun o => get_app hp o
  have hb := endW_le s [2, 3, 4] i (by omega)
  rw [← he] at hb
  have hsl := slice_s s i e hb.1 hb.2
  have hlen := subS_len s i e hb.2
  rw [← hx] at hsl hlen
  have hrun := fun (o : List AObj) => run_call s hl (L ++ o) ts p (hp2 o) [2, 3, 4] 3 rfl .full ne_full (by decide) i (by omega)
  rw [← he] at hrun
  have h3 : ¬ (20 : Int) < (x.length : Int) := by omega
  refine ⟨[.cells [.int .i64 1, .str x, .int .i64 0, .int .i64 i] 52], ?_⟩
  refine callFn_eq rfl rfl at99 rfl (by simp [Tryd.f99]) (by simp [Tryd.f99]) (G_start ?_)
  simp -implicitDefEqProofs only [Tryd.f99, Zaa, Zab, Zac, Zad, Zae, Zaf, Zag, Zah, Zai, Zaj, Zak, Zal, Zam, Zan, Zao, Zap, Zaq, Zar, Zas, Zat, Zau, Zav, Zaw, Zax, Zay, Zaz, Zba, Zbb, Zbc, Zbd, Zbe, Zbf, Zbg, Zbh, Zbi, Zbj, Zbk, Zbl, Zbm, Zbn, Zbo, Zbp, Zbq, Zbr, Zbs, Zbt, Zbu, Zbv, Zbw, Zbx, Zby, Zbz, Zca, Zcb, Zcc, Zcd, Zce, Zcf, Zcg, evalT, Zch, Nat.reduceLT, Nat.reduceEqDiff, if_true, if_false, reduceIte, true_and, Zci, Zcj, map_ite', Zck, bind_ite', Zcl, Zcm, Zcn, Zco, Zcp, Zcq, Zcr, Zcs, Zct, Zcu, Zcv, Zcw, Zcx, Zcy, Zcz, Zda, Zdb, Zdc, Zdd, Zde, Zdf, Zdg, ofVal, ofCell, argT, List.getD_cons_zero, List.getD_cons_succ, List.getElem?_toArray, List.getElem?_cons_zero, List.getElem?_cons_succ, List.nil_append, List.cons_append, List.append_nil, resT, Zdh, Zdi, Nat.mul_one, Zdj, Zdk, Zdl, Zdm, Zdn, Zdo, Zdp, Zdq, Zdr, Zds, Zdt, setT, Zdu, Zdv, Zdw, Zdx, Zdy, List.append_eq, Zdz, Zea, Zeb, Zec, Zed, Zee, Zef, Zeg, Zeh, Nat.add_zero, Zei, Zej, Zek, Zel, Zem, Zen, Int.toNat_natCast, Bool.false_eq_true, Int.reduceEq, Int.reduceLT, Int.reduceLE, Int.reduceNeg, not_false_eq_true, and_self, Zeo, Zep, Int.natCast_one, Int.cast_ofNat_Int, not_true_eq_false, decide_true, decide_false, true_implies, false_implies, Int.toNat_zero, List.length_cons, List.length_nil, Nat.zero_add, mb, Nat.reduceBEq, Bool.false_and, Bool.and_false, Zeq, tys, stb, Zer, Zes, Zet, Zeu, Zev, Zew, Bool.or_false, Bool.false_or, Bool.true_and, Bool.or_true, Bool.true_or, Zex, Zey, storeList, List.take_zero, List.take_succ_cons, List.drop_zero, List.drop_succ_cons, List.drop_nil, List.all_cons, List.all_nil, List.set_cons_zero, List.set_cons_succ, cells_hsl, isCell_hsl, Nat.reduceAdd, Nat.reduceLeDiff, hp, hp2, zv52, c2, opT_nilCheck, nilO_ptr, fo0, fo2, fo520, aload9, aload87, scn_str _ p s (hp2 _), scn_cls _ p s (hp2 _), u88, idx_cls, len_str, opT_index, indexO_str u9, Int.toNat_natCast, Nat.zero_add, mb99, opT_rowO, opT_slice, optO_none, optO_some, isCell_int, isCell_str, heap_end, set_end, ld52e, oneOr, hc, row2, hrun, hsl, build52t, res_call2, contains_call N.wordsW .unk ne_unk (by decide), h1, h2, h3]
  first | exact ⟨by kernel_rfl, trivial⟩ | exact ⟨by kernel_rfl, rfl, rfl⟩ | exact ⟨by kernel_rfl, rfl⟩
theorem nx_l01 (s : List UInt8) (hl : s.length ≤ 2 ^ 30) (L : List AObj) (ts : List Nat) (p : Nat) (hp : L[p]? = some (.cells (scnL s) 91)) (i : Nat) (hi : i < s.length) (hc : clsN (s.getD i 0).toNat = 2) (x : List UInt8) (e : Nat) (hx : x = subS s i e) (he : e = endW s [2, 3, 4] i) (h1 : ¬ x ∈ N.wordsW) (h2 : 20 < e - i) :
    X99 s L ts p i (.tup [.agg [.int .i64 1, .str x, .int .i64 0, .int .i64 i], .int .i64 e, .int .i64 19]) := by
  have c2 : (0 : Int) ≤ (i : Int) ∧ (i : Int) < (s.length : Int) := by omega
  have hp2 : ∀ o, (L ++ o)[p]? = some (.cells (scnL s) 91) := fun o => get_app hp o
  have hb := endW_le s [2, 3, 4] i (by omega)
  rw [← he] at hb
  have hsl := slice_s s i e hb.1 hb.2
  have hlen := subS_len s i e hb.2
  rw [← hx] at hsl hlen
  have hrun := fun (o : List AObj) => run_call s hl (L ++ o) ts p (hp2 o) [2, 3, 4] 3 rfl .full ne_full (by decide) i (by omega)
  rw [← he] at hrun
  have h3 : (20 : Int) < (x.length : Int) := by omega
  refine ⟨[.cells [.int .i64 1, .str x, .int .i64 0, .int .i64 i] 52], ?_⟩
  refine callFn_eq rfl rfl at99 rfl (by simp [Tryd.f99]) (by simp [Tryd.f99]) (G_start ?_)
  simp -implicitDefEqProofs only [Tryd.f99, Zaa, Zab, Zac, Zad, Zae, Zaf, Zag, Zah, Zai, Zaj, Zak, Zal, Zam, Zan, Zao, Zap, Zaq, Zar, Zas, Zat, Zau, Zav, Zaw, Zax, Zay, Zaz, Zba, Zbb, Zbc, Zbd, Zbe, Zbf, Zbg, Zbh, Zbi, Zbj, Zbk, Zbl, Zbm, Zbn, Zbo, Zbp, Zbq, Zbr, Zbs, Zbt, Zbu, Zbv, Zbw, Zbx, Zby, Zbz, Zca, Zcb, Zcc, Zcd, Zce, Zcf, Zcg, evalT, Zch, Nat.reduceLT, Nat.reduceEqDiff, if_true, if_false, reduceIte, true_and, Zci, Zcj, map_ite', Zck, bind_ite', Zcl, Zcm, Zcn, Zco, Zcp, Zcq, Zcr, Zcs, Zct, Zcu, Zcv, Zcw, Zcx, Zcy, Zcz, Zda, Zdb, Zdc, Zdd, Zde, Zdf, Zdg, ofVal, ofCell, argT, List.getD_cons_zero, List.getD_cons_succ, List.getElem?_toArray, List.getElem?_cons_zero, List.getElem?_cons_succ, List.nil_append, List.cons_append, List.append_nil, resT, Zdh, Zdi, Nat.mul_one, Zdj, Zdk, Zdl, Zdm, Zdn, Zdo, Zdp, Zdq, Zdr, Zds, Zdt, setT, Zdu, Zdv, Zdw, Zdx, Zdy, List.append_eq, Zdz, Zea, Zeb, Zec, Zed, Zee, Zef, Zeg, Zeh, Nat.add_zero, Zei, Zej, Zek, Zel, Zem, Zen, Int.toNat_natCast, Bool.false_eq_true, Int.reduceEq, Int.reduceLT, Int.reduceLE, Int.reduceNeg, not_false_eq_true, and_self, Zeo, Zep, Int.natCast_one, Int.cast_ofNat_Int, not_true_eq_false, decide_true, decide_false, true_implies, false_implies, Int.toNat_zero, List.length_cons, List.length_nil, Nat.zero_add, mb, Nat.reduceBEq, Bool.false_and, Bool.and_false, Zeq, tys, stb, Zer, Zes, Zet, Zeu, Zev, Zew, Bool.or_false, Bool.false_or, Bool.true_and, Bool.or_true, Bool.true_or, Zex, Zey, storeList, List.take_zero, List.take_succ_cons, List.drop_zero, List.drop_succ_cons, List.drop_nil, List.all_cons, List.all_nil, List.set_cons_zero, List.set_cons_succ, cells_hsl, isCell_hsl, Nat.reduceAdd, Nat.reduceLeDiff, hp, hp2, zv52, c2, opT_nilCheck, nilO_ptr, fo0, fo2, fo520, aload9, aload87, scn_str _ p s (hp2 _), scn_cls _ p s (hp2 _), u88, idx_cls, len_str, opT_index, indexO_str u9, Int.toNat_natCast, Nat.zero_add, mb99, opT_rowO, opT_slice, optO_none, optO_some, isCell_int, isCell_str, heap_end, set_end, ld52e, oneOr, hc, row2, hrun, hsl, build52t, res_call2, contains_call N.wordsW .unk ne_unk (by decide), h1, h2, h3]
  first | exact ⟨by kernel_rfl, trivial⟩ | exact ⟨by kernel_rfl, rfl, rfl⟩ | exact ⟨by kernel_rfl, rfl⟩
theorem nx_l10 (s : List UInt8) (hl : s.length ≤ 2 ^ 30) (L : List AObj) (ts : List Nat) (p : Nat) (hp : L[p]? = some (.cells (scnL s) 91)) (i : Nat) (hi : i < s.length) (hc : clsN (s.getD i 0).toNat = 2) (x : List UInt8) (e : Nat) (hx : x = subS s i e) (he : e = endW s [2, 3, 4] i) (h1 : x ∈ N.wordsW) (h2 : ¬ 20 < e - i) :
    X99 s L ts p i (.tup [.agg [.int .i64 2, .str x, .int .i64 0, .int .i64 i], .int .i64 e, .int .i64 0]) := by
  have c2 : (0 : Int) ≤ (i : Int) ∧ (i : Int) < (s.length : Int) := by omega
  have hp2 : ∀ o, (L ++ o)[p]? = some (.cells (scnL s) 91) := fun o => get_app hp o
  have hb := endW_le s [2, 3, 4] i (by omega)
  rw [← he] at hb
  have hsl := slice_s s i e hb.1 hb.2
  have hlen := subS_len s i e hb.2
  rw [← hx] at hsl hlen
  have hrun := fun (o : List AObj) => run_call s hl (L ++ o) ts p (hp2 o) [2, 3, 4] 3 rfl .full ne_full (by decide) i (by omega)
  rw [← he] at hrun
  have h3 : ¬ (20 : Int) < (x.length : Int) := by omega
  refine ⟨[.cells [.int .i64 2, .str x, .int .i64 0, .int .i64 i] 52], ?_⟩
  refine callFn_eq rfl rfl at99 rfl (by simp [Tryd.f99]) (by simp [Tryd.f99]) (G_start ?_)
  simp -implicitDefEqProofs only [Tryd.f99, Zaa, Zab, Zac, Zad, Zae, Zaf, Zag, Zah, Zai, Zaj, Zak, Zal, Zam, Zan, Zao, Zap, Zaq, Zar, Zas, Zat, Zau, Zav, Zaw, Zax, Zay, Zaz, Zba, Zbb, Zbc, Zbd, Zbe, Zbf, Zbg, Zbh, Zbi, Zbj, Zbk, Zbl, Zbm, Zbn, Zbo, Zbp, Zbq, Zbr, Zbs, Zbt, Zbu, Zbv, Zbw, Zbx, Zby, Zbz, Zca, Zcb, Zcc, Zcd, Zce, Zcf, Zcg, evalT, Zch, Nat.reduceLT, Nat.reduceEqDiff, if_true, if_false, reduceIte, true_and, Zci, Zcj, map_ite', Zck, bind_ite', Zcl, Zcm, Zcn, Zco, Zcp, Zcq, Zcr, Zcs, Zct, Zcu, Zcv, Zcw, Zcx, Zcy, Zcz, Zda, Zdb, Zdc, Zdd, Zde, Zdf, Zdg, ofVal, ofCell, argT, List.getD_cons_zero, List.getD_cons_succ, List.getElem?_toArray, List.getElem?_cons_zero, List.getElem?_cons_succ, List.nil_append, List.cons_append, List.append_nil, resT, Zdh, Zdi, Nat.mul_one, Zdj, Zdk, Zdl, Zdm, Zdn, Zdo, Zdp, Zdq, Zdr, Zds, Zdt, setT, Zdu, Zdv, Zdw, Zdx, Zdy, List.append_eq, Zdz, Zea, Zeb, Zec, Zed, Zee, Zef, Zeg, Zeh, Nat.add_zero, Zei, Zej, Zek, Zel, Zem, Zen, Int.toNat_natCast, Bool.false_eq_true, Int.reduceEq, Int.reduceLT, Int.reduceLE, Int.reduceNeg, not_false_eq_true, and_self, Zeo, Zep, Int.natCast_one, Int.cast_ofNat_Int, not_true_eq_false, decide_true, decide_false, true_implies, false_implies, Int.toNat_zero, List.length_cons, List.length_nil, Nat.zero_add, mb, Nat.reduceBEq, Bool.false_and, Bool.and_false, Zeq, tys, stb, Zer, Zes, Zet, Zeu, Zev, Zew, Bool.or_false, Bool.false_or, Bool.true_and, Bool.or_true, Bool.true_or, Zex, Zey, storeList, List.take_zero, List.take_succ_cons, List.drop_zero, List.drop_succ_cons, List.drop_nil, List.all_cons, List.all_nil, List.set_cons_zero, List.set_cons_succ, cells_hsl, isCell_hsl, Nat.reduceAdd, Nat.reduceLeDiff, hp, hp2, zv52, c2, opT_nilCheck, nilO_ptr, fo0, fo2, fo520, aload9, aload87, scn_str _ p s (hp2 _), scn_cls _ p s (hp2 _), u88, idx_cls, len_str, opT_index, indexO_str u9, Int.toNat_natCast, Nat.zero_add, mb99, opT_rowO, opT_slice, optO_none, optO_some, isCell_int, isCell_str, heap_end, set_end, ld52e, oneOr, hc, row2, hrun, hsl, build52t, res_call2, contains_call N.wordsW .unk ne_unk (by decide), h1, h2, h3]
  first | exact ⟨by kernel_rfl, trivial⟩ | exact ⟨by kernel_rfl, rfl, rfl⟩ | exact ⟨by kernel_rfl, rfl⟩
theorem nx_l11 (s : List UInt8) (hl : s.length ≤ 2 ^ 30) (L : List AObj) (ts : List Nat) (p : Nat) (hp : L[p]? = some (.cells (scnL s) 91)) (i : Nat) (hi : i < s.length) (hc : clsN (s.getD i 0).toNat = 2) (x : List UInt8) (e : Nat) (hx : x = subS s i e) (he : e = endW s [2, 3, 4] i) (h1 : x ∈ N.wordsW) (h2 : 20 < e - i) :
    X99 s L ts p i (.tup [.agg [.int .i64 2, .str x, .int .i64 0, .int .i64 i], .int .i64 e, .int .i64 19]) := by
  have c2 : (0 : Int) ≤ (i : Int) ∧ (i : Int) < (s.length : Int) := by omega
  have hp2 : ∀ o, (L ++ o)[p]? = some (.cells (scnL s) 91) := fun o => get_app hp o
  have hb := endW_le s [2, 3, 4] i (by omega)
  rw [← he] at hb
  have hsl := slice_s s i e hb.1 hb.2
  have hlen := subS_len s i e hb.2
  rw [← hx] at hsl hlen
  have hrun := fun (o : List AObj) => run_call s hl (L ++ o) ts p (hp2 o) [2, 3, 4] 3 rfl .full ne_full (by decide) i (by omega)
  rw [← he] at hrun
  have h3 : (20 : Int) < (x.length : Int) := by omega
  refine ⟨[.cells [.int .i64 2, .str x, .int .i64 0, .int .i64 i] 52], ?_⟩
  refine callFn_eq rfl rfl at99 rfl (by simp [Tryd.f99]) (by simp [Tryd.f99]) (G_start ?_)
  simp -implicitDefEqProofs only [Tryd.f99, Zaa, Zab, Zac, Zad, Zae, Zaf, Zag, Zah, Zai, Zaj, Zak, Zal, Zam, Zan, Zao, Zap, Zaq, Zar, Zas, Zat, Zau, Zav, Zaw, Zax, Zay, Zaz, Zba, Zbb, Zbc, Zbd, Zbe, Zbf, Zbg, Zbh, Zbi, Zbj, Zbk, Zbl, Zbm, Zbn, Zbo, Zbp, Zbq, Zbr, Zbs, Zbt, Zbu, Zbv, Zbw, Zbx, Zby, Zbz, Zca, Zcb, Zcc, Zcd, Zce, Zcf, Zcg, evalT, Zch, Nat.reduceLT, Nat.reduceEqDiff, if_true, if_false, reduceIte, true_and, Zci, Zcj, map_ite', Zck, bind_ite', Zcl, Zcm, Zcn, Zco, Zcp, Zcq, Zcr, Zcs, Zct, Zcu, Zcv, Zcw, Zcx, Zcy, Zcz, Zda, Zdb, Zdc, Zdd, Zde, Zdf, Zdg, ofVal, ofCell, argT, List.getD_cons_zero, List.getD_cons_succ, List.getElem?_toArray, List.getElem?_cons_zero, List.getElem?_cons_succ, List.nil_append, List.cons_append, List.append_nil, resT, Zdh, Zdi, Nat.mul_one, Zdj, Zdk, Zdl, Zdm, Zdn, Zdo, Zdp, Zdq, Zdr, Zds, Zdt, setT, Zdu, Zdv, Zdw, Zdx, Zdy, List.append_eq, Zdz, Zea, Zeb, Zec, Zed, Zee, Zef, Zeg, Zeh, Nat.add_zero, Zei, Zej, Zek, Zel, Zem, Zen, Int.toNat_natCast, Bool.false_eq_true, Int.reduceEq, Int.reduceLT, Int.reduceLE, Int.reduceNeg, not_false_eq_true, and_self, Zeo, Zep, Int.natCast_one, Int.cast_ofNat_Int, not_true_eq_false, decide_true, decide_false, true_implies, false_implies, Int.toNat_zero, List.length_cons, List.length_nil, Nat.zero_add, mb, Nat.reduceBEq, Bool.false_and, Bool.and_false, Zeq, tys, stb, Zer, Zes, Zet, Zeu, Zev, Zew, Bool.or_false, Bool.false_or, Bool.true_and, Bool.or_true, Bool.true_or, Zex, Zey, storeList, List.take_zero, List.take_succ_cons, List.drop_zero, List.drop_succ_cons, List.drop_nil, List.all_cons, List.all_nil, List.set_cons_zero, List.set_cons_succ, cells_hsl, isCell_hsl, Nat.reduceAdd, Nat.reduceLeDiff, hp, hp2, zv52, c2, opT_nilCheck, nilO_ptr, fo0, fo2, fo520, aload9, aload87, scn_str _ p s (hp2 _), scn_cls _ p s (hp2 _), u88, idx_cls, len_str, opT_index, indexO_str u9, Int.toNat_natCast, Nat.zero_add, mb99, opT_rowO, opT_slice, optO_none, optO_some, isCell_int, isCell_str, heap_end, set_end, ld52e, oneOr, hc, row2, hrun, hsl, build52t, res_call2, contains_call N.wordsW .unk ne_unk (by decide), h1, h2, h3]
  first | exact ⟨by kernel_rfl, trivial⟩ | exact ⟨by kernel_rfl, rfl, rfl⟩ | exact ⟨by kernel_rfl, rfl⟩
theorem nx_d (s : List UInt8) (hl : s.length ≤ 2 ^ 30) (L : List AObj) (ts : List Nat) (p : Nat) (hp : L[p]? = some (.cells (scnL s) 91)) (i : Nat) (hi : i < s.length) (hc : clsN (s.getD i 0).toNat = 3) (e : Nat) (he : e = endW s [3] i) (t : Tok) (x : Int) (hv : numV (subS s i e) i = tokE t x) :
    X99 s L ts p i (.tup [.agg [.int .i64 t.kind, .str t.text, .int .i64 t.n, .int .i64 t.pos], .int .i64 e, .int .i64 x]) := by
  have c2 : (0 : Int) ≤ (i : Int) ∧ (i : Int) < (s.length : Int) := by omega
  have hp2 : ∀ o, (L ++ o)[p]? = some (.cells (scnL s) 91) := fun o => get_app hp o
  have hb := endW_le s [3] i (by omega)
  have hb2 := endW_lt s [3] i hi (by rw [hc]; decide)
  have hdg := digits_dg s i (by omega)
  rw [← he] at hb hb2 hdg
  have hsl := slice_s s i e hb.1 hb.2
  have hlen := subS_len s i e hb.2
  have hrun := fun (o : List AObj) => run_call s hl (L ++ o) ts p (hp2 o) [3] 1 rfl .full ne_full (by decide) i (by omega)
  rw [← he] at hrun
  have hnum := number_call (subS s i e) i hdg (fun h => by rw [h] at hlen; simp at hlen; omega) (by omega)
  rw [hv] at hnum
  unfold tokE YtbikmhpobflfeaaDoor.aggT at hnum
  have hc2 : ((3 : Int) = 2) = False := eq_false (by omega)
  refine ⟨[.cells [.int .i64 t.kind, .str t.text, .int .i64 t.n, .int .i64 t.pos] 52], ?_⟩
  refine callFn_eq rfl rfl at99 rfl (by simp [Tryd.f99]) (by simp [Tryd.f99]) (G_start ?_)
  simp -implicitDefEqProofs only [Tryd.f99, Zaa, Zab, Zac, Zad, Zae, Zaf, Zag, Zah, Zai, Zaj, Zak, Zal, Zam, Zan, Zao, Zap, Zaq, Zar, Zas, Zat, Zau, Zav, Zaw, Zax, Zay, Zaz, Zba, Zbb, Zbc, Zbd, Zbe, Zbf, Zbg, Zbh, Zbi, Zbj, Zbk, Zbl, Zbm, Zbn, Zbo, Zbp, Zbq, Zbr, Zbs, Zbt, Zbu, Zbv, Zbw, Zbx, Zby, Zbz, Zca, Zcb, Zcc, Zcd, Zce, Zcf, Zcg, evalT, Zch, Nat.reduceLT, Nat.reduceEqDiff, if_true, if_false, reduceIte, true_and, Zci, Zcj, map_ite', Zck, bind_ite', Zcl, Zcm, Zcn, Zco, Zcp, Zcq, Zcr, Zcs, Zct, Zcu, Zcv, Zcw, Zcx, Zcy, Zcz, Zda, Zdb, Zdc, Zdd, Zde, Zdf, Zdg, ofVal, ofCell, argT, List.getD_cons_zero, List.getD_cons_succ, List.getElem?_toArray, List.getElem?_cons_zero, List.getElem?_cons_succ, List.nil_append, List.cons_append, List.append_nil, resT, Zdh, Zdi, Nat.mul_one, Zdj, Zdk, Zdl, Zdm, Zdn, Zdo, Zdp, Zdq, Zdr, Zds, Zdt, setT, Zdu, Zdv, Zdw, Zdx, Zdy, List.append_eq, Zdz, Zea, Zeb, Zec, Zed, Zee, Zef, Zeg, Zeh, Nat.add_zero, Zei, Zej, Zek, Zel, Zem, Zen, Int.toNat_natCast, Bool.false_eq_true, Int.reduceEq, Int.reduceLT, Int.reduceLE, Int.reduceNeg, not_false_eq_true, and_self, Zeo, Zep, Int.natCast_one, Int.cast_ofNat_Int, not_true_eq_false, decide_true, decide_false, true_implies, false_implies, Int.toNat_zero, List.length_cons, List.length_nil, Nat.zero_add, mb, Nat.reduceBEq, Bool.false_and, Bool.and_false, Zeq, tys, stb, Zer, Zes, Zet, Zeu, Zev, Zew, Bool.or_false, Bool.false_or, Bool.true_and, Bool.or_true, Bool.true_or, Zex, Zey, storeList, List.take_zero, List.take_succ_cons, List.drop_zero, List.drop_succ_cons, List.drop_nil, List.all_cons, List.all_nil, List.set_cons_zero, List.set_cons_succ, cells_hsl, isCell_hsl, Nat.reduceAdd, Nat.reduceLeDiff, hp, hp2, zv52, c2, opT_nilCheck, nilO_ptr, fo0, fo2, fo520, aload9, aload87, scn_str _ p s (hp2 _), scn_cls _ p s (hp2 _), u88, idx_cls, len_str, opT_index, indexO_str u9, Int.toNat_natCast, Nat.zero_add, mb99, opT_rowO, opT_slice, optO_none, optO_some, isCell_int, isCell_str, heap_end, set_end, ld52e, oneOr, hc, hc2, row1, hrun, hsl, hnum, Zeg]
  first | exact ⟨by kernel_rfl, trivial⟩ | exact ⟨by kernel_rfl, rfl, rfl⟩ | exact ⟨by kernel_rfl, rfl⟩
theorem nx_q0 (s : List UInt8) (hl : s.length ≤ 2 ^ 30) (L : List AObj) (ts : List Nat) (p : Nat) (hp : L[p]? = some (.cells (scnL s) 91)) (i : Nat) (hi : i < s.length) (hc : clsN (s.getD i 0).toNat = 5) (e : Nat) (he : e = endW s [2, 3, 4] (i + 1)) (h1 : ¬ e < s.length) :
    X99 s L ts p i (.tup [.agg [.int .i64 0, .str [], .int .i64 0, .int .i64 0], .int .i64 e, .int .i64 11]) := by
  have c2 : (0 : Int) ≤ (i : Int) ∧ (i : Int) < (s.length : Int) := by omega
  have hp2 : ∀ o, (L ++ o)[p]? = some (.cells (scnL s) 91) := fun o => get_app hp o
  have hb := endW_le s [2, 3, 4] (i + 1) (by omega)
  rw [← he] at hb
  have hsl := slice_s s (i + 1) e hb.1 hb.2
  have hrun := fun (o : List AObj) => run_call s hl (L ++ o) ts p (hp2 o) [2, 3, 4] 3 rfl .full ne_full (by decide) (i + 1) (by omega)
  rw [← he] at hrun
  have hc2 : ((5 : Int) = 2) = False := eq_false (by omega)
  have hc3 : ((5 : Int) = 3) = False := eq_false (by omega)
  have e1 : IntKind.i64.wrap ((i : Int) + 1) = ((i + 1 : Nat) : Int) := by rw [wrap_i64 (by omega) (by omega)]; omega
  have g1 : (s.length : Int) ≤ (e : Int) := by omega
  refine ⟨[.cells [.int .i64 0, .str [], .int .i64 0, .int .i64 0] 52], ?_⟩
  refine callFn_eq rfl rfl at99 rfl (by simp [Tryd.f99]) (by simp [Tryd.f99]) (G_start ?_)
  simp -implicitDefEqProofs only [Tryd.f99, Zaa, Zab, Zac, Zad, Zae, Zaf, Zag, Zah, Zai, Zaj, Zak, Zal, Zam, Zan, Zao, Zap, Zaq, Zar, Zas, Zat, Zau, Zav, Zaw, Zax, Zay, Zaz, Zba, Zbb, Zbc, Zbd, Zbe, Zbf, Zbg, Zbh, Zbi, Zbj, Zbk, Zbl, Zbm, Zbn, Zbo, Zbp, Zbq, Zbr, Zbs, Zbt, Zbu, Zbv, Zbw, Zbx, Zby, Zbz, Zca, Zcb, Zcc, Zcd, Zce, Zcf, Zcg, evalT, Zch, Nat.reduceLT, Nat.reduceEqDiff, if_true, if_false, reduceIte, true_and, Zci, Zcj, map_ite', Zck, bind_ite', Zcl, Zcm, Zcn, Zco, Zcp, Zcq, Zcr, Zcs, Zct, Zcu, Zcv, Zcw, Zcx, Zcy, Zcz, Zda, Zdb, Zdc, Zdd, Zde, Zdf, Zdg, ofVal, ofCell, argT, List.getD_cons_zero, List.getD_cons_succ, List.getElem?_toArray, List.getElem?_cons_zero, List.getElem?_cons_succ, List.nil_append, List.cons_append, List.append_nil, resT, Zdh, Zdi, Nat.mul_one, Zdj, Zdk, Zdl, Zdm, Zdn, Zdo, Zdp, Zdq, Zdr, Zds, Zdt, setT, Zdu, Zdv, Zdw, Zdx, Zdy, List.append_eq, Zdz, Zea, Zeb, Zec, Zed, Zee, Zef, Zeg, Zeh, Nat.add_zero, Zei, Zej, Zek, Zel, Zem, Zen, Int.toNat_natCast, Bool.false_eq_true, Int.reduceEq, Int.reduceLT, Int.reduceLE, Int.reduceNeg, not_false_eq_true, and_self, Zeo, Zep, Int.natCast_one, Int.cast_ofNat_Int, not_true_eq_false, decide_true, decide_false, true_implies, false_implies, Int.toNat_zero, List.length_cons, List.length_nil, Nat.zero_add, mb, Nat.reduceBEq, Bool.false_and, Bool.and_false, Zeq, tys, stb, Zer, Zes, Zet, Zeu, Zev, Zew, Bool.or_false, Bool.false_or, Bool.true_and, Bool.or_true, Bool.true_or, Zex, Zey, storeList, List.take_zero, List.take_succ_cons, List.drop_zero, List.drop_succ_cons, List.drop_nil, List.all_cons, List.all_nil, List.set_cons_zero, List.set_cons_succ, cells_hsl, isCell_hsl, Nat.reduceAdd, Nat.reduceLeDiff, hp, hp2, zv52, c2, opT_nilCheck, nilO_ptr, fo0, fo2, fo520, aload9, aload87, scn_str _ p s (hp2 _), scn_cls _ p s (hp2 _), u88, idx_cls, len_str, opT_index, indexO_str u9, Int.toNat_natCast, Nat.zero_add, mb99, opT_rowO, opT_slice, optO_none, optO_some, isCell_int, isCell_str, heap_end, set_end, ld52e, oneOr, hc, hc2, hc3, e1, row2, hrun, hsl, g1]
  first | exact ⟨by kernel_rfl, trivial⟩ | exact ⟨by kernel_rfl, rfl, rfl⟩ | exact ⟨by kernel_rfl, rfl⟩
theorem nx_q1 (s : List UInt8) (hl : s.length ≤ 2 ^ 30) (L : List AObj) (ts : List Nat) (p : Nat) (hp : L[p]? = some (.cells (scnL s) 91)) (i : Nat) (hi : i < s.length) (hc : clsN (s.getD i 0).toNat = 5) (e : Nat) (he : e = endW s [2, 3, 4] (i + 1)) (h1 : e < s.length) (h2 : ¬ (s.getD e 0).toNat = 39) :
    X99 s L ts p i (.tup [.agg [.int .i64 0, .str [], .int .i64 0, .int .i64 0], .int .i64 e, .int .i64 11]) := by
  have c2 : (0 : Int) ≤ (i : Int) ∧ (i : Int) < (s.length : Int) := by omega
  have hp2 : ∀ o, (L ++ o)[p]? = some (.cells (scnL s) 91) := fun o => get_app hp o
  have hb := endW_le s [2, 3, 4] (i + 1) (by omega)
  rw [← he] at hb
  have hsl := slice_s s (i + 1) e hb.1 hb.2
  have hrun := fun (o : List AObj) => run_call s hl (L ++ o) ts p (hp2 o) [2, 3, 4] 3 rfl .full ne_full (by decide) (i + 1) (by omega)
  rw [← he] at hrun
  have hc2 : ((5 : Int) = 2) = False := eq_false (by omega)
  have hc3 : ((5 : Int) = 3) = False := eq_false (by omega)
  have e1 : IntKind.i64.wrap ((i : Int) + 1) = ((i + 1 : Nat) : Int) := by rw [wrap_i64 (by omega) (by omega)]; omega
  have g1 : ¬ (s.length : Int) ≤ (e : Int) := by omega
  have c3 : (0 : Int) ≤ (e : Int) ∧ (e : Int) < (s.length : Int) := by omega
  have g2 : (((s.getD e 0).toNat : Int) = 39) = False := eq_false (by omega)
  refine ⟨[.cells [.int .i64 0, .str [], .int .i64 0, .int .i64 0] 52], ?_⟩
  refine callFn_eq rfl rfl at99 rfl (by simp [Tryd.f99]) (by simp [Tryd.f99]) (G_start ?_)
  simp -implicitDefEqProofs only [Tryd.f99, Zaa, Zab, Zac, Zad, Zae, Zaf, Zag, Zah, Zai, Zaj, Zak, Zal, Zam, Zan, Zao, Zap, Zaq, Zar, Zas, Zat, Zau, Zav, Zaw, Zax, Zay, Zaz, Zba, Zbb, Zbc, Zbd, Zbe, Zbf, Zbg, Zbh, Zbi, Zbj, Zbk, Zbl, Zbm, Zbn, Zbo, Zbp, Zbq, Zbr, Zbs, Zbt, Zbu, Zbv, Zbw, Zbx, Zby, Zbz, Zca, Zcb, Zcc, Zcd, Zce, Zcf, Zcg, evalT, Zch, Nat.reduceLT, Nat.reduceEqDiff, if_true, if_false, reduceIte, true_and, Zci, Zcj, map_ite', Zck, bind_ite', Zcl, Zcm, Zcn, Zco, Zcp, Zcq, Zcr, Zcs, Zct, Zcu, Zcv, Zcw, Zcx, Zcy, Zcz, Zda, Zdb, Zdc, Zdd, Zde, Zdf, Zdg, ofVal, ofCell, argT, List.getD_cons_zero, List.getD_cons_succ, List.getElem?_toArray, List.getElem?_cons_zero, List.getElem?_cons_succ, List.nil_append, List.cons_append, List.append_nil, resT, Zdh, Zdi, Nat.mul_one, Zdj, Zdk, Zdl, Zdm, Zdn, Zdo, Zdp, Zdq, Zdr, Zds, Zdt, setT, Zdu, Zdv, Zdw, Zdx, Zdy, List.append_eq, Zdz, Zea, Zeb, Zec, Zed, Zee, Zef, Zeg, Zeh, Nat.add_zero, Zei, Zej, Zek, Zel, Zem, Zen, Int.toNat_natCast, Bool.false_eq_true, Int.reduceEq, Int.reduceLT, Int.reduceLE, Int.reduceNeg, not_false_eq_true, and_self, Zeo, Zep, Int.natCast_one, Int.cast_ofNat_Int, not_true_eq_false, decide_true, decide_false, true_implies, false_implies, Int.toNat_zero, List.length_cons, List.length_nil, Nat.zero_add, mb, Nat.reduceBEq, Bool.false_and, Bool.and_false, Zeq, tys, stb, Zer, Zes, Zet, Zeu, Zev, Zew, Bool.or_false, Bool.false_or, Bool.true_and, Bool.or_true, Bool.true_or, Zex, Zey, storeList, List.take_zero, List.take_succ_cons, List.drop_zero, List.drop_succ_cons, List.drop_nil, List.all_cons, List.all_nil, List.set_cons_zero, List.set_cons_succ, cells_hsl, isCell_hsl, Nat.reduceAdd, Nat.reduceLeDiff, hp, hp2, zv52, c2, opT_nilCheck, nilO_ptr, fo0, fo2, fo520, aload9, aload87, scn_str _ p s (hp2 _), scn_cls _ p s (hp2 _), u88, idx_cls, len_str, opT_index, indexO_str u9, Int.toNat_natCast, Nat.zero_add, mb99, opT_rowO, opT_slice, optO_none, optO_some, isCell_int, isCell_str, heap_end, set_end, ld52e, oneOr, hc, hc2, hc3, e1, row2, hrun, hsl, g1, c3, g2]
  first | exact ⟨by kernel_rfl, trivial⟩ | exact ⟨by kernel_rfl, rfl, rfl⟩ | exact ⟨by kernel_rfl, rfl⟩
theorem nx_q2 (s : List UInt8) (hl : s.length ≤ 2 ^ 30) (L : List AObj) (ts : List Nat) (p : Nat) (hp : L[p]? = some (.cells (scnL s) 91)) (i : Nat) (hi : i < s.length) (hc : clsN (s.getD i 0).toNat = 5) (e : Nat) (he : e = endW s [2, 3, 4] (i + 1)) (h1 : e < s.length) (h2 : (s.getD e 0).toNat = 39) (h3 : ¬ N.IsName (subS s (i + 1) e)) :
    X99 s L ts p i (.tup [.agg [.int .i64 0, .str [], .int .i64 0, .int .i64 0], .int .i64 e, .int .i64 11]) := by
  have c2 : (0 : Int) ≤ (i : Int) ∧ (i : Int) < (s.length : Int) := by omega
  have hp2 : ∀ o, (L ++ o)[p]? = some (.cells (scnL s) 91) := fun o => get_app hp o
  have hb := endW_le s [2, 3, 4] (i + 1) (by omega)
  rw [← he] at hb
  have hsl := slice_s s (i + 1) e hb.1 hb.2
  have hrun := fun (o : List AObj) => run_call s hl (L ++ o) ts p (hp2 o) [2, 3, 4] 3 rfl .full ne_full (by decide) (i + 1) (by omega)
  rw [← he] at hrun
  have hc2 : ((5 : Int) = 2) = False := eq_false (by omega)
  have hc3 : ((5 : Int) = 3) = False := eq_false (by omega)
  have e1 : IntKind.i64.wrap ((i : Int) + 1) = ((i + 1 : Nat) : Int) := by rw [wrap_i64 (by omega) (by omega)]; omega
  have g1 : ¬ (s.length : Int) ≤ (e : Int) := by omega
  have c3 : (0 : Int) ≤ (e : Int) ∧ (e : Int) < (s.length : Int) := by omega
  have g2 : (((s.getD e 0).toNat : Int) = 39) = True := eq_true (by omega)
  have hnm := N.name_call (subS s (i + 1) e) (by rw [subS_len _ _ _ hb.2]; omega)
  refine ⟨[.cells [.int .i64 0, .str [], .int .i64 0, .int .i64 0] 52], ?_⟩
  refine callFn_eq rfl rfl at99 rfl (by simp [Tryd.f99]) (by simp [Tryd.f99]) (G_start ?_)
  simp -implicitDefEqProofs only [Tryd.f99, Zaa, Zab, Zac, Zad, Zae, Zaf, Zag, Zah, Zai, Zaj, Zak, Zal, Zam, Zan, Zao, Zap, Zaq, Zar, Zas, Zat, Zau, Zav, Zaw, Zax, Zay, Zaz, Zba, Zbb, Zbc, Zbd, Zbe, Zbf, Zbg, Zbh, Zbi, Zbj, Zbk, Zbl, Zbm, Zbn, Zbo, Zbp, Zbq, Zbr, Zbs, Zbt, Zbu, Zbv, Zbw, Zbx, Zby, Zbz, Zca, Zcb, Zcc, Zcd, Zce, Zcf, Zcg, evalT, Zch, Nat.reduceLT, Nat.reduceEqDiff, if_true, if_false, reduceIte, true_and, Zci, Zcj, map_ite', Zck, bind_ite', Zcl, Zcm, Zcn, Zco, Zcp, Zcq, Zcr, Zcs, Zct, Zcu, Zcv, Zcw, Zcx, Zcy, Zcz, Zda, Zdb, Zdc, Zdd, Zde, Zdf, Zdg, ofVal, ofCell, argT, List.getD_cons_zero, List.getD_cons_succ, List.getElem?_toArray, List.getElem?_cons_zero, List.getElem?_cons_succ, List.nil_append, List.cons_append, List.append_nil, resT, Zdh, Zdi, Nat.mul_one, Zdj, Zdk, Zdl, Zdm, Zdn, Zdo, Zdp, Zdq, Zdr, Zds, Zdt, setT, Zdu, Zdv, Zdw, Zdx, Zdy, List.append_eq, Zdz, Zea, Zeb, Zec, Zed, Zee, Zef, Zeg, Zeh, Nat.add_zero, Zei, Zej, Zek, Zel, Zem, Zen, Int.toNat_natCast, Bool.false_eq_true, Int.reduceEq, Int.reduceLT, Int.reduceLE, Int.reduceNeg, not_false_eq_true, and_self, Zeo, Zep, Int.natCast_one, Int.cast_ofNat_Int, not_true_eq_false, decide_true, decide_false, true_implies, false_implies, Int.toNat_zero, List.length_cons, List.length_nil, Nat.zero_add, mb, Nat.reduceBEq, Bool.false_and, Bool.and_false, Zeq, tys, stb, Zer, Zes, Zet, Zeu, Zev, Zew, Bool.or_false, Bool.false_or, Bool.true_and, Bool.or_true, Bool.true_or, Zex, Zey, storeList, List.take_zero, List.take_succ_cons, List.drop_zero, List.drop_succ_cons, List.drop_nil, List.all_cons, List.all_nil, List.set_cons_zero, List.set_cons_succ, cells_hsl, isCell_hsl, Nat.reduceAdd, Nat.reduceLeDiff, hp, hp2, zv52, c2, opT_nilCheck, nilO_ptr, fo0, fo2, fo520, aload9, aload87, scn_str _ p s (hp2 _), scn_cls _ p s (hp2 _), u88, idx_cls, len_str, opT_index, indexO_str u9, Int.toNat_natCast, Nat.zero_add, mb99, opT_rowO, opT_slice, optO_none, optO_some, isCell_int, isCell_str, heap_end, set_end, ld52e, oneOr, hc, hc2, hc3, e1, row2, hrun, hsl, g1, c3, g2, hnm, h3]
  first | exact ⟨by kernel_rfl, trivial⟩ | exact ⟨by kernel_rfl, rfl, rfl⟩ | exact ⟨by kernel_rfl, rfl⟩
theorem nx_q3 (s : List UInt8) (hl : s.length ≤ 2 ^ 30) (L : List AObj) (ts : List Nat) (p : Nat) (hp : L[p]? = some (.cells (scnL s) 91)) (i : Nat) (hi : i < s.length) (hc : clsN (s.getD i 0).toNat = 5) (e : Nat) (he : e = endW s [2, 3, 4] (i + 1)) (h1 : e < s.length) (h2 : (s.getD e 0).toNat = 39) (h3 : N.IsName (subS s (i + 1) e)) :
    X99 s L ts p i (.tup [.agg [.int .i64 4, .str (subS s (i + 1) e), .int .i64 0, .int .i64 i], .int .i64 (e + 1 : Nat), .int .i64 0]) := by
  have c2 : (0 : Int) ≤ (i : Int) ∧ (i : Int) < (s.length : Int) := by omega
  have hp2 : ∀ o, (L ++ o)[p]? = some (.cells (scnL s) 91) := fun o => get_app hp o
  have hb := endW_le s [2, 3, 4] (i + 1) (by omega)
  rw [← he] at hb
  have hsl := slice_s s (i + 1) e hb.1 hb.2
  have hrun := fun (o : List AObj) => run_call s hl (L ++ o) ts p (hp2 o) [2, 3, 4] 3 rfl .full ne_full (by decide) (i + 1) (by omega)
  rw [← he] at hrun
  have hc2 : ((5 : Int) = 2) = False := eq_false (by omega)
  have hc3 : ((5 : Int) = 3) = False := eq_false (by omega)
  have e1 : IntKind.i64.wrap ((i : Int) + 1) = ((i + 1 : Nat) : Int) := by rw [wrap_i64 (by omega) (by omega)]; omega
  have g1 : ¬ (s.length : Int) ≤ (e : Int) := by omega
  have c3 : (0 : Int) ≤ (e : Int) ∧ (e : Int) < (s.length : Int) := by omega
  have g2 : (((s.getD e 0).toNat : Int) = 39) = True := eq_true (by omega)
  have hnm := N.name_call (subS s (i + 1) e) (by rw [subS_len _ _ _ hb.2]; omega)
  have e3 : IntKind.i64.wrap ((e : Int) + 1) = ((e + 1 : Nat) : Int) := by rw [wrap_i64 (by omega) (by omega)]; omega
  refine ⟨[.cells [.int .i64 4, .str (subS s (i + 1) e), .int .i64 0, .int .i64 i] 52], ?_⟩
  refine callFn_eq rfl rfl at99 rfl (by simp [Tryd.f99]) (by simp [Tryd.f99]) (G_start ?_)
  simp -implicitDefEqProofs only [Tryd.f99, Zaa, Zab, Zac, Zad, Zae, Zaf, Zag, Zah, Zai, Zaj, Zak, Zal, Zam, Zan, Zao, Zap, Zaq, Zar, Zas, Zat, Zau, Zav, Zaw, Zax, Zay, Zaz, Zba, Zbb, Zbc, Zbd, Zbe, Zbf, Zbg, Zbh, Zbi, Zbj, Zbk, Zbl, Zbm, Zbn, Zbo, Zbp, Zbq, Zbr, Zbs, Zbt, Zbu, Zbv, Zbw, Zbx, Zby, Zbz, Zca, Zcb, Zcc, Zcd, Zce, Zcf, Zcg, evalT, Zch, Nat.reduceLT, Nat.reduceEqDiff, if_true, if_false, reduceIte, true_and, Zci, Zcj, map_ite', Zck, bind_ite', Zcl, Zcm, Zcn, Zco, Zcp, Zcq, Zcr, Zcs, Zct, Zcu, Zcv, Zcw, Zcx, Zcy, Zcz, Zda, Zdb, Zdc, Zdd, Zde, Zdf, Zdg, ofVal, ofCell, argT, List.getD_cons_zero, List.getD_cons_succ, List.getElem?_toArray, List.getElem?_cons_zero, List.getElem?_cons_succ, List.nil_append, List.cons_append, List.append_nil, resT, Zdh, Zdi, Nat.mul_one, Zdj, Zdk, Zdl, Zdm, Zdn, Zdo, Zdp, Zdq, Zdr, Zds, Zdt, setT, Zdu, Zdv, Zdw, Zdx, Zdy, List.append_eq, Zdz, Zea, Zeb, Zec, Zed, Zee, Zef, Zeg, Zeh, Nat.add_zero, Zei, Zej, Zek, Zel, Zem, Zen, Int.toNat_natCast, Bool.false_eq_true, Int.reduceEq, Int.reduceLT, Int.reduceLE, Int.reduceNeg, not_false_eq_true, and_self, Zeo, Zep, Int.natCast_one, Int.cast_ofNat_Int, not_true_eq_false, decide_true, decide_false, true_implies, false_implies, Int.toNat_zero, List.length_cons, List.length_nil, Nat.zero_add, mb, Nat.reduceBEq, Bool.false_and, Bool.and_false, Zeq, tys, stb, Zer, Zes, Zet, Zeu, Zev, Zew, Bool.or_false, Bool.false_or, Bool.true_and, Bool.or_true, Bool.true_or, Zex, Zey, storeList, List.take_zero, List.take_succ_cons, List.drop_zero, List.drop_succ_cons, List.drop_nil, List.all_cons, List.all_nil, List.set_cons_zero, List.set_cons_succ, cells_hsl, isCell_hsl, Nat.reduceAdd, Nat.reduceLeDiff, hp, hp2, zv52, c2, opT_nilCheck, nilO_ptr, fo0, fo2, fo520, aload9, aload87, scn_str _ p s (hp2 _), scn_cls _ p s (hp2 _), u88, idx_cls, len_str, opT_index, indexO_str u9, Int.toNat_natCast, Nat.zero_add, mb99, opT_rowO, opT_slice, optO_none, optO_some, isCell_int, isCell_str, heap_end, set_end, ld52e, oneOr, hc, hc2, hc3, e1, row2, hrun, hsl, g1, c3, g2, hnm, h3, e3, build52t]
  first | exact ⟨by kernel_rfl, trivial⟩ | exact ⟨by kernel_rfl, rfl, rfl⟩ | exact ⟨by kernel_rfl, rfl⟩
theorem nx_s0 (s : List UInt8) (hl : s.length ≤ 2 ^ 30) (L : List AObj) (ts : List Nat) (p : Nat) (hp : L[p]? = some (.cells (scnL s) 91)) (i : Nat) (hi : i < s.length) (k2 : ¬ clsN (s.getD i 0).toNat = 2) (k3 : ¬ clsN (s.getD i 0).toNat = 3) (k5 : ¬ clsN (s.getD i 0).toNat = 5) (x : List UInt8) (hx : sgW s i 2 = (x, false)) :
    X99 s L ts p i (.tup [.agg [.int .i64 0, .str [], .int .i64 0, .int .i64 0], .int .i64 i, .int .i64 11]) := by
  have c2 : (0 : Int) ≤ (i : Int) ∧ (i : Int) < (s.length : Int) := by omega
  have hp2 : ∀ o, (L ++ o)[p]? = some (.cells (scnL s) 91) := fun o => get_app hp o
  have hsg := fun (o : List AObj) => signat_call s hl (L ++ o) ts p (hp2 o) i (by omega)
  have hlen := sgW_len s i 2
  rw [hx] at hsg hlen
  simp only [sgV] at hsg hlen
  refine ⟨[.cells [.int .i64 0, .str [], .int .i64 0, .int .i64 0] 52], ?_⟩
  refine callFn_eq rfl rfl at99 rfl (by simp [Tryd.f99]) (by simp [Tryd.f99]) (G_start ?_)
  simp -implicitDefEqProofs only [Tryd.f99, Zaa, Zab, Zac, Zad, Zae, Zaf, Zag, Zah, Zai, Zaj, Zak, Zal, Zam, Zan, Zao, Zap, Zaq, Zar, Zas, Zat, Zau, Zav, Zaw, Zax, Zay, Zaz, Zba, Zbb, Zbc, Zbd, Zbe, Zbf, Zbg, Zbh, Zbi, Zbj, Zbk, Zbl, Zbm, Zbn, Zbo, Zbp, Zbq, Zbr, Zbs, Zbt, Zbu, Zbv, Zbw, Zbx, Zby, Zbz, Zca, Zcb, Zcc, Zcd, Zce, Zcf, Zcg, evalT, Zch, Nat.reduceLT, Nat.reduceEqDiff, if_true, if_false, reduceIte, true_and, Zci, Zcj, map_ite', Zck, bind_ite', Zcl, Zcm, Zcn, Zco, Zcp, Zcq, Zcr, Zcs, Zct, Zcu, Zcv, Zcw, Zcx, Zcy, Zcz, Zda, Zdb, Zdc, Zdd, Zde, Zdf, Zdg, ofVal, ofCell, argT, List.getD_cons_zero, List.getD_cons_succ, List.getElem?_toArray, List.getElem?_cons_zero, List.getElem?_cons_succ, List.nil_append, List.cons_append, List.append_nil, resT, Zdh, Zdi, Nat.mul_one, Zdj, Zdk, Zdl, Zdm, Zdn, Zdo, Zdp, Zdq, Zdr, Zds, Zdt, setT, Zdu, Zdv, Zdw, Zdx, Zdy, List.append_eq, Zdz, Zea, Zeb, Zec, Zed, Zee, Zef, Zeg, Zeh, Nat.add_zero, Zei, Zej, Zek, Zel, Zem, Zen, Int.toNat_natCast, Bool.false_eq_true, Int.reduceEq, Int.reduceLT, Int.reduceLE, Int.reduceNeg, not_false_eq_true, and_self, Zeo, Zep, Int.natCast_one, Int.cast_ofNat_Int, not_true_eq_false, decide_true, decide_false, true_implies, false_implies, Int.toNat_zero, List.length_cons, List.length_nil, Nat.zero_add, mb, Nat.reduceBEq, Bool.false_and, Bool.and_false, Zeq, tys, stb, Zer, Zes, Zet, Zeu, Zev, Zew, Bool.or_false, Bool.false_or, Bool.true_and, Bool.or_true, Bool.true_or, Zex, Zey, storeList, List.take_zero, List.take_succ_cons, List.drop_zero, List.drop_succ_cons, List.drop_nil, List.all_cons, List.all_nil, List.set_cons_zero, List.set_cons_succ, cells_hsl, isCell_hsl, Nat.reduceAdd, Nat.reduceLeDiff, hp, hp2, zv52, c2, opT_nilCheck, nilO_ptr, fo0, fo2, fo520, aload9, aload87, scn_str _ p s (hp2 _), scn_cls _ p s (hp2 _), u88, idx_cls, len_str, opT_index, indexO_str u9, Int.toNat_natCast, Nat.zero_add, mb99, opT_rowO, opT_slice, optO_none, optO_some, isCell_int, isCell_str, heap_end, set_end, ld52e, oneOr, k2, k3, k5, hsg]
  first | exact ⟨by kernel_rfl, trivial⟩ | exact ⟨by kernel_rfl, rfl, rfl⟩ | exact ⟨by kernel_rfl, rfl⟩
theorem nx_s1 (s : List UInt8) (hl : s.length ≤ 2 ^ 30) (L : List AObj) (ts : List Nat) (p : Nat) (hp : L[p]? = some (.cells (scnL s) 91)) (i : Nat) (hi : i < s.length) (k2 : ¬ clsN (s.getD i 0).toNat = 2) (k3 : ¬ clsN (s.getD i 0).toNat = 3) (k5 : ¬ clsN (s.getD i 0).toNat = 5) (x : List UInt8) (hx : sgW s i 2 = (x, true)) :
    X99 s L ts p i (.tup [.agg [.int .i64 5, .str x, .int .i64 0, .int .i64 i], .int .i64 (i + x.length : Nat), .int .i64 0]) := by
  have c2 : (0 : Int) ≤ (i : Int) ∧ (i : Int) < (s.length : Int) := by omega
  have hp2 : ∀ o, (L ++ o)[p]? = some (.cells (scnL s) 91) := fun o => get_app hp o
  have hsg := fun (o : List AObj) => signat_call s hl (L ++ o) ts p (hp2 o) i (by omega)
  have hlen := sgW_len s i 2
  rw [hx] at hsg hlen
  simp only [sgV] at hsg hlen
  have e1 : IntKind.i64.wrap ((i : Int) + (x.length : Int)) = ((i + x.length : Nat) : Int) := by rw [wrap_i64 (by omega) (by omega)]; omega
  refine ⟨[.cells [.int .i64 5, .str x, .int .i64 0, .int .i64 i] 52], ?_⟩
  refine callFn_eq rfl rfl at99 rfl (by simp [Tryd.f99]) (by simp [Tryd.f99]) (G_start ?_)
  simp -implicitDefEqProofs only [Tryd.f99, Zaa, Zab, Zac, Zad, Zae, Zaf, Zag, Zah, Zai, Zaj, Zak, Zal, Zam, Zan, Zao, Zap, Zaq, Zar, Zas, Zat, Zau, Zav, Zaw, Zax, Zay, Zaz, Zba, Zbb, Zbc, Zbd, Zbe, Zbf, Zbg, Zbh, Zbi, Zbj, Zbk, Zbl, Zbm, Zbn, Zbo, Zbp, Zbq, Zbr, Zbs, Zbt, Zbu, Zbv, Zbw, Zbx, Zby, Zbz, Zca, Zcb, Zcc, Zcd, Zce, Zcf, Zcg, evalT, Zch, Nat.reduceLT, Nat.reduceEqDiff, if_true, if_false, reduceIte, true_and, Zci, Zcj, map_ite', Zck, bind_ite', Zcl, Zcm, Zcn, Zco, Zcp, Zcq, Zcr, Zcs, Zct, Zcu, Zcv, Zcw, Zcx, Zcy, Zcz, Zda, Zdb, Zdc, Zdd, Zde, Zdf, Zdg, ofVal, ofCell, argT, List.getD_cons_zero, List.getD_cons_succ, List.getElem?_toArray, List.getElem?_cons_zero, List.getElem?_cons_succ, List.nil_append, List.cons_append, List.append_nil, resT, Zdh, Zdi, Nat.mul_one, Zdj, Zdk, Zdl, Zdm, Zdn, Zdo, Zdp, Zdq, Zdr, Zds, Zdt, setT, Zdu, Zdv, Zdw, Zdx, Zdy, List.append_eq, Zdz, Zea, Zeb, Zec, Zed, Zee, Zef, Zeg, Zeh, Nat.add_zero, Zei, Zej, Zek, Zel, Zem, Zen, Int.toNat_natCast, Bool.false_eq_true, Int.reduceEq, Int.reduceLT, Int.reduceLE, Int.reduceNeg, not_false_eq_true, and_self, Zeo, Zep, Int.natCast_one, Int.cast_ofNat_Int, not_true_eq_false, decide_true, decide_false, true_implies, false_implies, Int.toNat_zero, List.length_cons, List.length_nil, Nat.zero_add, mb, Nat.reduceBEq, Bool.false_and, Bool.and_false, Zeq, tys, stb, Zer, Zes, Zet, Zeu, Zev, Zew, Bool.or_false, Bool.false_or, Bool.true_and, Bool.or_true, Bool.true_or, Zex, Zey, storeList, List.take_zero, List.take_succ_cons, List.drop_zero, List.drop_succ_cons, List.drop_nil, List.all_cons, List.all_nil, List.set_cons_zero, List.set_cons_succ, cells_hsl, isCell_hsl, Nat.reduceAdd, Nat.reduceLeDiff, hp, hp2, zv52, c2, opT_nilCheck, nilO_ptr, fo0, fo2, fo520, aload9, aload87, scn_str _ p s (hp2 _), scn_cls _ p s (hp2 _), u88, idx_cls, len_str, opT_index, indexO_str u9, Int.toNat_natCast, Nat.zero_add, mb99, opT_rowO, opT_slice, optO_none, optO_some, isCell_int, isCell_str, heap_end, set_end, ld52e, oneOr, k2, k3, k5, hsg, e1, build52t]
  first | exact ⟨by kernel_rfl, trivial⟩ | exact ⟨by kernel_rfl, rfl, rfl⟩ | exact ⟨by kernel_rfl, rfl⟩

end Go.Proofs.YtbikmhpobflfeaaDoor
namespace Go.Proofs.YtbikmhpobflfeaaDoor
open Go.Ab
set_option maxRecDepth 100000
set_option linter.unusedSimpArgs false
set_option linter.unusedVariables false
def Tok.zero : Tok := ⟨0, [], 0, 0⟩
/-- the next token: the token, where it ends, the error -/
def nextP (s : List UInt8) (i : Nat) : Tok × Nat × Int :=
  if clsN (s.getD i 0).toNat = 2 then
    (⟨if subS s i (endW s [2, 3, 4] i) ∈ N.wordsW then 2 else 1, subS s i (endW s [2, 3, 4] i), 0, i⟩, endW s [2, 3, 4] i, if 20 < endW s [2, 3, 4] i - i then 19 else 0)
  else if clsN (s.getD i 0).toNat = 3 then
    if 1 < (subS s i (endW s [3] i)).length ∧ ((subS s i (endW s [3] i)).getD 0 0).toNat = 48 then (.zero, endW s [3] i, 11)
    else if 1000000000 < decV 0 (subS s i (endW s [3] i)) then (.zero, endW s [3] i, 2)
    else (⟨3, subS s i (endW s [3] i), decV 0 (subS s i (endW s [3] i)), i⟩, endW s [3] i, 0)
  else if clsN (s.getD i 0).toNat = 5 then
    if endW s [2, 3, 4] (i + 1) < s.length ∧ (s.getD (endW s [2, 3, 4] (i + 1)) 0).toNat = 39 ∧ N.IsName (subS s (i + 1) (endW s [2, 3, 4] (i + 1))) then (⟨4, subS s (i + 1) (endW s [2, 3, 4] (i + 1)), 0, i⟩, endW s [2, 3, 4] (i + 1) + 1, 0)
    else (.zero, endW s [2, 3, 4] (i + 1), 11)
  else if (sgW s i 2).2 = true then (⟨5, (sgW s i 2).1, 0, i⟩, i + (sgW s i 2).1.length, 0)
  else (.zero, i, 11)
def nextV (r : Tok × Nat × Int) : V := .tup [.agg [.int .i64 r.1.kind, .str r.1.text, .int .i64 r.1.n, .int .i64 r.1.pos], .int .i64 r.2.1, .int .i64 r.2.2]
theorem next_call (s : List UInt8) (hl : s.length ≤ 2 ^ 30) (L : List AObj) (ts : List Nat) (p : Nat) (hp : L[p]? = some (.cells (scnL s) 91)) (i : Nat) (hi : i < s.length) :
    X99 s L ts p i (nextV (nextP s i)) := by
  unfold nextP
  by_cases k2 : clsN (s.getD i 0).toNat = 2
  · rw [if_pos k2]
    by_cases h1 : subS s i (endW s [2, 3, 4] i) ∈ N.wordsW
    · rw [if_pos h1]
      by_cases h2 : 20 < endW s [2, 3, 4] i - i
      · rw [if_pos h2]; exact nx_l11 s hl L ts p hp i hi k2 _ _ rfl rfl h1 h2
      · rw [if_neg h2]; exact nx_l10 s hl L ts p hp i hi k2 _ _ rfl rfl h1 h2
    · rw [if_neg h1]
      by_cases h2 : 20 < endW s [2, 3, 4] i - i
      · rw [if_pos h2]; exact nx_l01 s hl L ts p hp i hi k2 _ _ rfl rfl h1 h2
      · rw [if_neg h2]; exact nx_l00 s hl L ts p hp i hi k2 _ _ rfl rfl h1 h2
  rw [if_neg k2]
  by_cases k3 : clsN (s.getD i 0).toNat = 3
  · rw [if_pos k3]
    have hd := fun t x => nx_d s hl L ts p hp i hi k3 _ rfl t x
    unfold numV at hd
    by_cases h1 : 1 < (subS s i (endW s [3] i)).length ∧ ((subS s i (endW s [3] i)).getD 0 0).toNat = 48
    · rw [if_pos h1] at hd ⊢; exact hd _ _ rfl
    · rw [if_neg h1] at hd ⊢
      by_cases h2 : 1000000000 < decV 0 (subS s i (endW s [3] i))
      · rw [if_pos h2] at hd ⊢; exact hd _ _ rfl
      · rw [if_neg h2] at hd ⊢; exact hd _ _ rfl
  rw [if_neg k3]
  by_cases k5 : clsN (s.getD i 0).toNat = 5
  · rw [if_pos k5]
    by_cases h : endW s [2, 3, 4] (i + 1) < s.length ∧ (s.getD (endW s [2, 3, 4] (i + 1)) 0).toNat = 39 ∧ N.IsName (subS s (i + 1) (endW s [2, 3, 4] (i + 1)))
    · rw [if_pos h]; exact nx_q3 s hl L ts p hp i hi k5 _ rfl h.1 h.2.1 h.2.2
    · rw [if_neg h]
      by_cases h1 : endW s [2, 3, 4] (i + 1) < s.length
      · by_cases h2 : (s.getD (endW s [2, 3, 4] (i + 1)) 0).toNat = 39
        · exact nx_q2 s hl L ts p hp i hi k5 _ rfl h1 h2 fun h3 => h ⟨h1, h2, h3⟩
        · exact nx_q1 s hl L ts p hp i hi k5 _ rfl h1 h2
      · exact nx_q0 s hl L ts p hp i hi k5 _ rfl h1
  rw [if_neg k5]
  cases hb : (sgW s i 2).2
  · rw [if_neg (by simp)]
    exact nx_s0 s hl L ts p hp i hi k2 k3 k5 (sgW s i 2).1 (by rw [← hb])
  · rw [if_pos rfl]
    exact nx_s1 s hl L ts p hp i hi k2 k3 k5 (sgW s i 2).1 (by rw [← hb])
/-- a token moves the place, where there is no error; never past the end -/
theorem next_le (s : List UInt8) (i : Nat) (hi : i < s.length) : i ≤ (nextP s i).2.1 ∧ (nextP s i).2.1 ≤ s.length ∧ ((nextP s i).2.2 = 0 → i < (nextP s i).2.1) := by
  have b1 := endW_le s [2, 3, 4] i (by omega)
  have b2 := endW_le s [3] i (by omega)
  have b3 := endW_le s [2, 3, 4] (i + 1) (by omega)
  unfold nextP
  by_cases k2 : clsN (s.getD i 0).toNat = 2
  · rw [if_pos k2]
    have := endW_lt s [2, 3, 4] i hi (by rw [k2]; decide)
    exact ⟨b1.1, b1.2, fun _ => this⟩
  rw [if_neg k2]
  by_cases k3 : clsN (s.getD i 0).toNat = 3
  · rw [if_pos k3]
    have := endW_lt s [3] i hi (by rw [k3]; decide)
    split
    · exact ⟨b2.1, b2.2, fun _ => this⟩
    · split <;> exact ⟨b2.1, b2.2, fun _ => this⟩
  rw [if_neg k3]
  by_cases k5 : clsN (s.getD i 0).toNat = 5
  · rw [if_pos k5]
    split
    · rename_i h; exact ⟨by simp only; omega, by simp only; omega, fun _ => by simp only; omega⟩
    · exact ⟨by simp only; omega, by simp only; omega, fun _ => by simp only; omega⟩
  rw [if_neg k5]
  split
  · rename_i h
    have : ∀ w, (sgW s i w).2 = true → 1 ≤ (sgW s i w).1.length ∧ i + (sgW s i w).1.length ≤ s.length := by
      intro w
      induction w with
      | zero => intro h; simp [sgW] at h
      | succ w ih =>
        simp only [sgW]
        split
        · rename_i h; intro _; simp only [subS_len _ _ _ h.1]; omega
        · exact ih
    have := this 2 h
    exact ⟨by simp only; omega, by simp only; omega, fun _ => by simp only; omega⟩
  · exact ⟨by simp only; omega, by simp only; omega, fun h => by simp at h⟩

end Go.Proofs.YtbikmhpobflfeaaDoor
namespace Go.Proofs.YtbikmhpobflfeaaDoor
open Go.Ab
set_option maxRecDepth 100000
set_option linter.unusedSimpArgs false
set_option linter.unusedVariables false
/-- the tokens from a place on; the first fault and its place -/
def scanP (s : List UInt8) : Nat → Nat → Int → List Tok → List Tok × Option (Int × Nat)
  | 0, _, _, acc => (acc, none)
  | m + 1, i, last, acc =>
    if i < s.length then
      if (nextP s i).2.2 = 0 then
        if (nextP s i).1.kind ≠ 5 ∧ last = i then (acc, some (11, i))
        else scanP s m (endW s [1] (nextP s i).2.1) (if (nextP s i).1.kind ≠ 5 then (nextP s i).2.1 else -1) (acc ++ [(nextP s i).1])
      else (acc, some ((nextP s i).2.2, i))
    else (acc, none)
def tokV (t : Tok) : V := .agg [.int .i64 t.kind, .str t.text, .int .i64 t.n, .int .i64 t.pos]
/-- what a yield is: it keeps what lies below the base, takes tokens, and ends the loop at a fault -/
structure Yl (y : V) (base : Nat) (p b : Nat) (s : List UInt8) (P : List Tok → S → Prop) (R : Int → Nat → S → Prop) : Prop where
  low : ∀ acc σ σ', (∀ q, q < base → σ'.heap[q]? = σ.heap[q]?) → σ'.toks = σ.toks → base ≤ σ'.heap.length → P acc σ → P acc σ'
  len : ∀ acc σ, P acc σ → base ≤ σ.heap.length
  hp : ∀ acc σ, P acc σ → σ.heap[p]? = some (.cells (scnL s) 91)
  hb : ∀ acc σ, P acc σ → σ.heap[b]? = some (.cells [.ptr p 0] 86)
  ok : ∀ acc σ t, acc.length ≤ 4000 → P acc σ → ∃ σ', callV env (ev env) y [tokV t, .int .i64 0] σ = some (.bool true, σ') ∧ P (acc ++ [t]) σ' ∧ ∀ q, base ≤ q → q < σ.heap.length → σ'.heap[q]? = σ.heap[q]?
  err : ∀ acc σ i x, x ≠ 0 → acc.length ≤ 4000 → P acc σ → ∃ σ', callV env (ev env) y [tokV ⟨0, [], 0, (i : Nat)⟩, .int .i64 x] σ = some (.bool false, σ') ∧ R x i σ'
theorem at97 : env.P.funcs[97]? = some Tryd.f97 := by kernel_rfl
theorem row3 : rowO env 134 1 [(0, .int .i64 1)] = some (.row (([1] : List Int).map (V.int .i64)) 1 .full) := by kernel_rfl
theorem mb97 (r : Nat) : env.mutb 97 r = false := rfl
theorem build52p (p : Int) : buildO env 52 [(3, .int .i64 p)] = some (.agg [.int .i64 0, .str [], .int .i64 0, .int .i64 p]) := by kernel_rfl
theorem aload3 (h : List AObj) (p : V) : aload env h 3 p = (loadCellsV h 1 p).bind (·[0]?) := aload_one (by kernel_rfl)
theorem aload86 (h : List AObj) (p : V) : aload env h 86 p = (loadCellsV h 1 p).bind (·[0]?) := aload_one (by kernel_rfl)
theorem kind_end (L : List AObj) (a b c d : V) (t : TypeId) : (loadCellsV (L ++ [.cells [a, b, c, d] t]) 1 (.ptr L.length 0)).bind (·[0]?) = some a := by
  rw [Zdk, heap_end]; rfl
theorem one_cell {h : List AObj} {b : Nat} {v : V} {t : TypeId} (hb : h[b]? = some (.cells [v] t)) : (loadCellsV h 1 (.ptr b 0)).bind (·[0]?) = some v := by
  rw [Zdk, hb]; rfl

end Go.Proofs.YtbikmhpobflfeaaDoor
namespace Go.Proofs.YtbikmhpobflfeaaDoor
open Go.Ab
set_option maxRecDepth 100000
set_option linter.unusedSimpArgs false
set_option linter.unusedVariables false
theorem loop97 : loopB 0 (bodyOf Tryd.f97) = loopB 0 (bodyOf Tryd.f97) := rfl
theorem turn_5 {y : V} {base p b : Nat} {s : List UInt8} {P : List Tok → S → Prop} {R : Int → Nat → S → Prop} (hY : Yl y base p b s P R) (hl : s.length ≤ 2 ^ 30) (Q : Post) (T : Tm) (L : List AObj) (ts : List Nat) (acc : List Tok) (ha : acc.length ≤ 4000) (hP : P acc ⟨L, ts⟩) (i : Nat) (hi : i < s.length) (last : Int)
    (t0 : T 0 = y) (t1 : T 1 = .ptr b 0) (t3 : T 3 = .int .i64 last) (t4 : T 4 = .int .i64 (i : Nat))
    (t : Tok) (e : Nat) (hn : nextP s i = (t, e, 0)) (hk : t.kind = 5)
    (h : ∀ T' σ', T' 0 = y → T' 1 = .ptr b 0 → T' 3 = .int .i64 (-1) → T' 4 = .int .i64 (endW s [1] e : Nat) → P (acc ++ [t]) σ' → Q.norm T' [] σ') :
    G env 97 none 54 Q [] (loopB 0 (bodyOf Tryd.f97)) T [] ⟨L, ts⟩ := by
  simp only [bodyOf, Tryd.f97, Option.getD_some, loopB, blkC, Option.or, Nat.reduceEqDiff, if_false, if_true, reduceIte]
  have he := next_le s i hi
  rw [hn] at he
  simp only at he
  have c1 : (i : Int) < (s.length : Int) := by omega
  have hb1 := one_cell (hY.hb _ _ hP)
  have hs1 := scn_str L p s (hY.hp _ _ hP)
  simp only at hb1 hs1
  have hbl : base ≤ L.length := hY.len _ _ hP
  obtain ⟨o, hX⟩ := next_call s hl L ts p (hY.hp _ _ hP) i hi
  rw [hn] at hX
  simp only [nextV] at hX
  have hlow : ∀ c q, q < base → (L ++ o ++ [c] : List AObj)[q]? = L[q]? := fun c q hq => by
    rw [List.append_assoc, List.getElem?_append_left (by omega)]
  have hlen : L.length ≤ (L ++ o).length := by simp
  have hPc : ∀ c, P acc ⟨L ++ o ++ [c], ts⟩ := fun c => hY.low acc ⟨L, ts⟩ ⟨L ++ o ++ [c], ts⟩ (hlow c) rfl (by simp only [List.length_append, List.length_cons] at *; omega) hP
  generalize L ++ o = L1 at *
  obtain ⟨⟨L2, ts2⟩, hy, hP2, hfr⟩ := hY.ok acc ⟨L1 ++ [.cells [.int .i64 t.kind, .str t.text, .int .i64 t.n, .int .i64 t.pos] 52], ts⟩ t ha (hPc _)
  unfold tokV at hy
  have hb2 := one_cell (hY.hb _ _ hP2)
  simp only at hb2 hfr
  have hcell : L2[L1.length]? = some (.cells [.int .i64 t.kind, .str t.text, .int .i64 t.n, .int .i64 t.pos] 52) := by
    rw [hfr L1.length (by omega) (by simp)]; simp
  have hk3 : (loadCellsV L2 1 (.ptr L1.length 0)).bind (·[0]?) = some (.int .i64 t.kind) := by rw [Zdk, hcell]; rfl
  have hrun := run_call s hl L2 ts2 p (hY.hp _ _ hP2) [1] 1 rfl .full ne_full (by decide) e he.2.1
  rw [hk] at hy hk3
  simp -implicitDefEqProofs only [Zaa, Zab, Zac, Zad, Zae, Zaf, Zag, Zah, Zai, Zaj, Zak, Zal, Zam, Zan, Zao, Zap, Zaq, Zar, Zas, Zat, Zau, Zav, Zaw, Zax, Zay, Zaz, Zba, Zbb, Zbc, Zbd, Zbe, Zbf, Zbg, Zbh, Zbi, Zbj, Zbk, Zbl, Zbm, Zbn, Zbo, Zbp, Zbq, Zbr, Zbs, Zbt, Zbu, Zbv, Zbw, Zbx, Zby, Zbz, Zca, Zcb, Zcc, Zcd, Zce, Zcf, Zcg, evalT, Zch, Nat.reduceLT, Nat.reduceEqDiff, if_true, if_false, reduceIte, true_and, Zci, Zcj, map_ite', Zck, bind_ite', Zcl, Zcm, Zcn, Zco, Zcp, Zcq, Zcr, Zcs, Zct, Zcu, Zcv, Zcw, Zcx, Zcy, Zcz, Zda, Zdb, Zdc, Zdd, Zde, Zdf, Zdg, ofVal, ofCell, argT, List.getD_cons_zero, List.getD_cons_succ, List.getElem?_toArray, List.getElem?_cons_zero, List.getElem?_cons_succ, List.nil_append, List.cons_append, List.append_nil, resT, Zdh, Zdi, Nat.mul_one, Zdj, Zdk, Zdl, Zdm, Zdn, Zdo, Zdp, Zdq, Zdr, Zds, Zdt, setT, Zdu, Zdv, Zdw, Zdx, Zdy, List.append_eq, Zdz, Zea, Zeb, Zec, Zed, Zee, Zef, Zeg, Zeh, Nat.add_zero, Zei, Zej, Zek, Zel, Zem, Zen, Int.toNat_natCast, Bool.false_eq_true, Int.reduceEq, Int.reduceLT, Int.reduceLE, Int.reduceNeg, not_false_eq_true, and_self, Zeo, Zep, Int.natCast_one, Int.cast_ofNat_Int, not_true_eq_false, decide_true, decide_false, true_implies, false_implies, Int.toNat_zero, List.length_cons, List.length_nil, Nat.zero_add, mb, Nat.reduceBEq, Bool.false_and, Bool.and_false, Zeq, tys, stb, Zer, Zes, Zet, Zeu, Zev, Zew, Bool.or_false, Bool.false_or, Bool.true_and, Bool.or_true, Bool.true_or, Zex, Zey, storeList, List.take_zero, List.take_succ_cons, List.drop_zero, List.drop_succ_cons, List.drop_nil, List.all_cons, List.all_nil, List.set_cons_zero, List.set_cons_succ, cells_hsl, isCell_hsl, Nat.reduceAdd, Nat.reduceLeDiff, t0, t1, t3, t4, c1, aload86, aload9, aload3, hb1, hs1, opT_nilCheck, nilO_ptr, fo0, fo520, len_str, hX, zv52, Zeg, set_end, heap_end, isCell_int, isCell_str, ld52e, kind_end, hk, hy, hb2, hk3, mb97, opT_rowO, row3, hrun]
  refine h _ _ ?_ ?_ ?_ ?_ hP2 <;> first | exact t0 | exact t1 | rfl
theorem turn_n {y : V} {base p b : Nat} {s : List UInt8} {P : List Tok → S → Prop} {R : Int → Nat → S → Prop} (hY : Yl y base p b s P R) (hl : s.length ≤ 2 ^ 30) (Q : Post) (T : Tm) (L : List AObj) (ts : List Nat) (acc : List Tok) (ha : acc.length ≤ 4000) (hP : P acc ⟨L, ts⟩) (i : Nat) (hi : i < s.length) (last : Int)
    (t0 : T 0 = y) (t1 : T 1 = .ptr b 0) (t3 : T 3 = .int .i64 last) (t4 : T 4 = .int .i64 (i : Nat))
    (t : Tok) (e : Nat) (hn : nextP s i = (t, e, 0)) (hk : ¬ t.kind = 5) (hk2 : ¬ last = (i : Nat))
    (h : ∀ T' σ', T' 0 = y → T' 1 = .ptr b 0 → T' 3 = .int .i64 (e) → T' 4 = .int .i64 (endW s [1] e : Nat) → P (acc ++ [t]) σ' → Q.norm T' [] σ') :
    G env 97 none 54 Q [] (loopB 0 (bodyOf Tryd.f97)) T [] ⟨L, ts⟩ := by
  simp only [bodyOf, Tryd.f97, Option.getD_some, loopB, blkC, Option.or, Nat.reduceEqDiff, if_false, if_true, reduceIte]
  have he := next_le s i hi
  rw [hn] at he
  simp only at he
  have c1 : (i : Int) < (s.length : Int) := by omega
  have hb1 := one_cell (hY.hb _ _ hP)
  have hs1 := scn_str L p s (hY.hp _ _ hP)
  simp only at hb1 hs1
  have hbl : base ≤ L.length := hY.len _ _ hP
  obtain ⟨o, hX⟩ := next_call s hl L ts p (hY.hp _ _ hP) i hi
  rw [hn] at hX
  simp only [nextV] at hX
  have hlow : ∀ c q, q < base → (L ++ o ++ [c] : List AObj)[q]? = L[q]? := fun c q hq => by
    rw [List.append_assoc, List.getElem?_append_left (by omega)]
  have hlen : L.length ≤ (L ++ o).length := by simp
  have hPc : ∀ c, P acc ⟨L ++ o ++ [c], ts⟩ := fun c => hY.low acc ⟨L, ts⟩ ⟨L ++ o ++ [c], ts⟩ (hlow c) rfl (by simp only [List.length_append, List.length_cons] at *; omega) hP
  generalize L ++ o = L1 at *
  obtain ⟨⟨L2, ts2⟩, hy, hP2, hfr⟩ := hY.ok acc ⟨L1 ++ [.cells [.int .i64 t.kind, .str t.text, .int .i64 t.n, .int .i64 t.pos] 52], ts⟩ t ha (hPc _)
  unfold tokV at hy
  have hb2 := one_cell (hY.hb _ _ hP2)
  simp only at hb2 hfr
  have hcell : L2[L1.length]? = some (.cells [.int .i64 t.kind, .str t.text, .int .i64 t.n, .int .i64 t.pos] 52) := by
    rw [hfr L1.length (by omega) (by simp)]; simp
  have hk3 : (loadCellsV L2 1 (.ptr L1.length 0)).bind (·[0]?) = some (.int .i64 t.kind) := by rw [Zdk, hcell]; rfl
  have hrun := run_call s hl L2 ts2 p (hY.hp _ _ hP2) [1] 1 rfl .full ne_full (by decide) e he.2.1
  simp -implicitDefEqProofs only [Zaa, Zab, Zac, Zad, Zae, Zaf, Zag, Zah, Zai, Zaj, Zak, Zal, Zam, Zan, Zao, Zap, Zaq, Zar, Zas, Zat, Zau, Zav, Zaw, Zax, Zay, Zaz, Zba, Zbb, Zbc, Zbd, Zbe, Zbf, Zbg, Zbh, Zbi, Zbj, Zbk, Zbl, Zbm, Zbn, Zbo, Zbp, Zbq, Zbr, Zbs, Zbt, Zbu, Zbv, Zbw, Zbx, Zby, Zbz, Zca, Zcb, Zcc, Zcd, Zce, Zcf, Zcg, evalT, Zch, Nat.reduceLT, Nat.reduceEqDiff, if_true, if_false, reduceIte, true_and, Zci, Zcj, map_ite', Zck, bind_ite', Zcl, Zcm, Zcn, Zco, Zcp, Zcq, Zcr, Zcs, Zct, Zcu, Zcv, Zcw, Zcx, Zcy, Zcz, Zda, Zdb, Zdc, Zdd, Zde, Zdf, Zdg, ofVal, ofCell, argT, List.getD_cons_zero, List.getD_cons_succ, List.getElem?_toArray, List.getElem?_cons_zero, List.getElem?_cons_succ, List.nil_append, List.cons_append, List.append_nil, resT, Zdh, Zdi, Nat.mul_one, Zdj, Zdk, Zdl, Zdm, Zdn, Zdo, Zdp, Zdq, Zdr, Zds, Zdt, setT, Zdu, Zdv, Zdw, Zdx, Zdy, List.append_eq, Zdz, Zea, Zeb, Zec, Zed, Zee, Zef, Zeg, Zeh, Nat.add_zero, Zei, Zej, Zek, Zel, Zem, Zen, Int.toNat_natCast, Bool.false_eq_true, Int.reduceEq, Int.reduceLT, Int.reduceLE, Int.reduceNeg, not_false_eq_true, and_self, Zeo, Zep, Int.natCast_one, Int.cast_ofNat_Int, not_true_eq_false, decide_true, decide_false, true_implies, false_implies, Int.toNat_zero, List.length_cons, List.length_nil, Nat.zero_add, mb, Nat.reduceBEq, Bool.false_and, Bool.and_false, Zeq, tys, stb, Zer, Zes, Zet, Zeu, Zev, Zew, Bool.or_false, Bool.false_or, Bool.true_and, Bool.or_true, Bool.true_or, Zex, Zey, storeList, List.take_zero, List.take_succ_cons, List.drop_zero, List.drop_succ_cons, List.drop_nil, List.all_cons, List.all_nil, List.set_cons_zero, List.set_cons_succ, cells_hsl, isCell_hsl, Nat.reduceAdd, Nat.reduceLeDiff, t0, t1, t3, t4, c1, aload86, aload9, aload3, hb1, hs1, opT_nilCheck, nilO_ptr, fo0, fo520, len_str, hX, zv52, Zeg, set_end, heap_end, isCell_int, isCell_str, ld52e, kind_end, hk, hk2, hy, hb2, hk3, mb97, opT_rowO, row3, hrun]
  refine h _ _ ?_ ?_ ?_ ?_ hP2 <;> first | exact t0 | exact t1 | rfl
theorem turn_x {y : V} {base p b : Nat} {s : List UInt8} {P : List Tok → S → Prop} {R : Int → Nat → S → Prop} (hY : Yl y base p b s P R) (hl : s.length ≤ 2 ^ 30) (Q : Post) (T : Tm) (L : List AObj) (ts : List Nat) (acc : List Tok) (ha : acc.length ≤ 4000) (hP : P acc ⟨L, ts⟩) (i : Nat) (hi : i < s.length) (last : Int)
    (t0 : T 0 = y) (t1 : T 1 = .ptr b 0) (t3 : T 3 = .int .i64 last) (t4 : T 4 = .int .i64 (i : Nat))
    (t : Tok) (e : Nat) (x : Int) (hx : ¬ x = 0) (hn : nextP s i = (t, e, x)) (h : ∀ T' σ', R x i σ' → Q.ret T' [] σ') :
    G env 97 none 54 Q [] (loopB 0 (bodyOf Tryd.f97)) T [] ⟨L, ts⟩ := by
  simp only [bodyOf, Tryd.f97, Option.getD_some, loopB, blkC, Option.or, Nat.reduceEqDiff, if_false, if_true, reduceIte]
  have c1 : (i : Int) < (s.length : Int) := by omega
  have hb1 := one_cell (hY.hb _ _ hP)
  have hs1 := scn_str L p s (hY.hp _ _ hP)
  simp only at hb1 hs1
  have hbl : base ≤ L.length := hY.len _ _ hP
  obtain ⟨o, hX⟩ := next_call s hl L ts p (hY.hp _ _ hP) i hi
  rw [hn] at hX
  simp only [nextV] at hX
  have hlow : ∀ c q, q < base → (L ++ o ++ [c] : List AObj)[q]? = L[q]? := fun c q hq => by
    rw [List.append_assoc, List.getElem?_append_left (by omega)]
  have hlen : L.length ≤ (L ++ o).length := by simp
  have hPc : ∀ c, P acc ⟨L ++ o ++ [c], ts⟩ := fun c => hY.low acc ⟨L, ts⟩ ⟨L ++ o ++ [c], ts⟩ (hlow c) rfl (by simp only [List.length_append, List.length_cons] at *; omega) hP
  generalize L ++ o = L1 at *
  obtain ⟨⟨L2, ts2⟩, hy, hR⟩ := hY.err acc ⟨L1 ++ [.cells [.int .i64 0, .str [], .int .i64 0, .int .i64 i] 52], ts⟩ i x hx ha (hPc _)
  unfold tokV at hy
  simp -implicitDefEqProofs only [Zaa, Zab, Zac, Zad, Zae, Zaf, Zag, Zah, Zai, Zaj, Zak, Zal, Zam, Zan, Zao, Zap, Zaq, Zar, Zas, Zat, Zau, Zav, Zaw, Zax, Zay, Zaz, Zba, Zbb, Zbc, Zbd, Zbe, Zbf, Zbg, Zbh, Zbi, Zbj, Zbk, Zbl, Zbm, Zbn, Zbo, Zbp, Zbq, Zbr, Zbs, Zbt, Zbu, Zbv, Zbw, Zbx, Zby, Zbz, Zca, Zcb, Zcc, Zcd, Zce, Zcf, Zcg, evalT, Zch, Nat.reduceLT, Nat.reduceEqDiff, if_true, if_false, reduceIte, true_and, Zci, Zcj, map_ite', Zck, bind_ite', Zcl, Zcm, Zcn, Zco, Zcp, Zcq, Zcr, Zcs, Zct, Zcu, Zcv, Zcw, Zcx, Zcy, Zcz, Zda, Zdb, Zdc, Zdd, Zde, Zdf, Zdg, ofVal, ofCell, argT, List.getD_cons_zero, List.getD_cons_succ, List.getElem?_toArray, List.getElem?_cons_zero, List.getElem?_cons_succ, List.nil_append, List.cons_append, List.append_nil, resT, Zdh, Zdi, Nat.mul_one, Zdj, Zdk, Zdl, Zdm, Zdn, Zdo, Zdp, Zdq, Zdr, Zds, Zdt, setT, Zdu, Zdv, Zdw, Zdx, Zdy, List.append_eq, Zdz, Zea, Zeb, Zec, Zed, Zee, Zef, Zeg, Zeh, Nat.add_zero, Zei, Zej, Zek, Zel, Zem, Zen, Int.toNat_natCast, Bool.false_eq_true, Int.reduceEq, Int.reduceLT, Int.reduceLE, Int.reduceNeg, not_false_eq_true, and_self, Zeo, Zep, Int.natCast_one, Int.cast_ofNat_Int, not_true_eq_false, decide_true, decide_false, true_implies, false_implies, Int.toNat_zero, List.length_cons, List.length_nil, Nat.zero_add, mb, Nat.reduceBEq, Bool.false_and, Bool.and_false, Zeq, tys, stb, Zer, Zes, Zet, Zeu, Zev, Zew, Bool.or_false, Bool.false_or, Bool.true_and, Bool.or_true, Bool.true_or, Zex, Zey, storeList, List.take_zero, List.take_succ_cons, List.drop_zero, List.drop_succ_cons, List.drop_nil, List.all_cons, List.all_nil, List.set_cons_zero, List.set_cons_succ, cells_hsl, isCell_hsl, Nat.reduceAdd, Nat.reduceLeDiff, t0, t1, t3, t4, c1, aload86, aload9, aload3, hb1, hs1, opT_nilCheck, nilO_ptr, fo0, fo520, len_str, hX, zv52, Zeg, set_end, heap_end, isCell_int, isCell_str, ld52e, kind_end, hx, hy, build52p]
  exact h _ _ hR
theorem turn_y {y : V} {base p b : Nat} {s : List UInt8} {P : List Tok → S → Prop} {R : Int → Nat → S → Prop} (hY : Yl y base p b s P R) (hl : s.length ≤ 2 ^ 30) (Q : Post) (T : Tm) (L : List AObj) (ts : List Nat) (acc : List Tok) (ha : acc.length ≤ 4000) (hP : P acc ⟨L, ts⟩) (i : Nat) (hi : i < s.length) (last : Int)
    (t0 : T 0 = y) (t1 : T 1 = .ptr b 0) (t3 : T 3 = .int .i64 last) (t4 : T 4 = .int .i64 (i : Nat))
    (t : Tok) (e : Nat) (hn : nextP s i = (t, e, 0)) (hk : ¬ t.kind = 5) (hk2 : last = (i : Nat)) (h : ∀ T' σ', R 11 i σ' → Q.ret T' [] σ') :
    G env 97 none 54 Q [] (loopB 0 (bodyOf Tryd.f97)) T [] ⟨L, ts⟩ := by
  simp only [bodyOf, Tryd.f97, Option.getD_some, loopB, blkC, Option.or, Nat.reduceEqDiff, if_false, if_true, reduceIte]
  have c1 : (i : Int) < (s.length : Int) := by omega
  have hb1 := one_cell (hY.hb _ _ hP)
  have hs1 := scn_str L p s (hY.hp _ _ hP)
  simp only at hb1 hs1
  have hbl : base ≤ L.length := hY.len _ _ hP
  obtain ⟨o, hX⟩ := next_call s hl L ts p (hY.hp _ _ hP) i hi
  rw [hn] at hX
  simp only [nextV] at hX
  have hlow : ∀ c q, q < base → (L ++ o ++ [c] : List AObj)[q]? = L[q]? := fun c q hq => by
    rw [List.append_assoc, List.getElem?_append_left (by omega)]
  have hlen : L.length ≤ (L ++ o).length := by simp
  have hPc : ∀ c, P acc ⟨L ++ o ++ [c], ts⟩ := fun c => hY.low acc ⟨L, ts⟩ ⟨L ++ o ++ [c], ts⟩ (hlow c) rfl (by simp only [List.length_append, List.length_cons] at *; omega) hP
  generalize L ++ o = L1 at *
  obtain ⟨⟨L2, ts2⟩, hy, hR⟩ := hY.err acc ⟨L1 ++ [.cells [.int .i64 0, .str [], .int .i64 0, .int .i64 i] 52], ts⟩ i 11 (by decide) ha (hPc _)
  unfold tokV at hy
  simp -implicitDefEqProofs only [Zaa, Zab, Zac, Zad, Zae, Zaf, Zag, Zah, Zai, Zaj, Zak, Zal, Zam, Zan, Zao, Zap, Zaq, Zar, Zas, Zat, Zau, Zav, Zaw, Zax, Zay, Zaz, Zba, Zbb, Zbc, Zbd, Zbe, Zbf, Zbg, Zbh, Zbi, Zbj, Zbk, Zbl, Zbm, Zbn, Zbo, Zbp, Zbq, Zbr, Zbs, Zbt, Zbu, Zbv, Zbw, Zbx, Zby, Zbz, Zca, Zcb, Zcc, Zcd, Zce, Zcf, Zcg, evalT, Zch, Nat.reduceLT, Nat.reduceEqDiff, if_true, if_false, reduceIte, true_and, Zci, Zcj, map_ite', Zck, bind_ite', Zcl, Zcm, Zcn, Zco, Zcp, Zcq, Zcr, Zcs, Zct, Zcu, Zcv, Zcw, Zcx, Zcy, Zcz, Zda, Zdb, Zdc, Zdd, Zde, Zdf, Zdg, ofVal, ofCell, argT, List.getD_cons_zero, List.getD_cons_succ, List.getElem?_toArray, List.getElem?_cons_zero, List.getElem?_cons_succ, List.nil_append, List.cons_append, List.append_nil, resT, Zdh, Zdi, Nat.mul_one, Zdj, Zdk, Zdl, Zdm, Zdn, Zdo, Zdp, Zdq, Zdr, Zds, Zdt, setT, Zdu, Zdv, Zdw, Zdx, Zdy, List.append_eq, Zdz, Zea, Zeb, Zec, Zed, Zee, Zef, Zeg, Zeh, Nat.add_zero, Zei, Zej, Zek, Zel, Zem, Zen, Int.toNat_natCast, Bool.false_eq_true, Int.reduceEq, Int.reduceLT, Int.reduceLE, Int.reduceNeg, not_false_eq_true, and_self, Zeo, Zep, Int.natCast_one, Int.cast_ofNat_Int, not_true_eq_false, decide_true, decide_false, true_implies, false_implies, Int.toNat_zero, List.length_cons, List.length_nil, Nat.zero_add, mb, Nat.reduceBEq, Bool.false_and, Bool.and_false, Zeq, tys, stb, Zer, Zes, Zet, Zeu, Zev, Zew, Bool.or_false, Bool.false_or, Bool.true_and, Bool.or_true, Bool.true_or, Zex, Zey, storeList, List.take_zero, List.take_succ_cons, List.drop_zero, List.drop_succ_cons, List.drop_nil, List.all_cons, List.all_nil, List.set_cons_zero, List.set_cons_succ, cells_hsl, isCell_hsl, Nat.reduceAdd, Nat.reduceLeDiff, t0, t1, t3, t4, c1, aload86, aload9, aload3, hb1, hs1, opT_nilCheck, nilO_ptr, fo0, fo520, len_str, hX, zv52, Zeg, set_end, heap_end, isCell_int, isCell_str, ld52e, kind_end, hk, hk2, hy, build52p]
  exact h _ _ hR

end Go.Proofs.YtbikmhpobflfeaaDoor
namespace Go.Proofs.YtbikmhpobflfeaaDoor
open Go.Ab
set_option maxRecDepth 100000
set_option linter.unusedSimpArgs false
set_option linter.unusedVariables false
def End97 (P : List Tok → S → Prop) (R : Int → Nat → S → Prop) (r : List Tok × Option (Int × Nat)) (σ : S) : Prop :=
  match r.2 with
  | none => P r.1 σ
  | some (x, i) => R x i σ
theorem tokens_call {y : V} {base p b : Nat} {s : List UInt8} {P : List Tok → S → Prop} {R : Int → Nat → S → Prop} (hY : Yl y base p b s P R) (hl : s.length ≤ 4000) (σ : S) (hP : P [] σ) :
    ∃ v σ', callFn env (ev env) 97 [y, .ptr b 0] σ = some (v, σ') ∧ End97 P R (scanP s (s.length + 1) (endW s [1] 0) (-1) []) σ' := by
  refine callFn_any rfl rfl at97 rfl (by simp [Tryd.f97]) (by simp [Tryd.f97]) (G_start ?_)
  obtain ⟨L, ts⟩ := σ
  have hb1 := one_cell (hY.hb _ _ hP)
  simp only at hb1
  have hl2 : s.length ≤ 2 ^ 30 := by omega
  have hrun : callFn env (ev env) 98 [.ptr p 0, .int .i64 0, .row (([1] : List Int).map (V.int .i64)) 1 .full] ⟨L, ts⟩ = some (.int .i64 (endW s [1] 0 : Nat), ⟨L, ts⟩) := run_call s hl2 L ts p (hY.hp _ _ hP) [1] 1 rfl .full ne_full (by decide) 0 (Nat.zero_le _)
  have hend := endW_le s [1] 0 (Nat.zero_le _)
  simp -implicitDefEqProofs only [Tryd.f97, Zaa, Zab, Zac, Zad, Zae, Zaf, Zag, Zah, Zai, Zaj, Zak, Zal, Zam, Zan, Zao, Zap, Zaq, Zar, Zas, Zat, Zau, Zav, Zaw, Zax, Zay, Zaz, Zba, Zbb, Zbc, Zbd, Zbe, Zbf, Zbg, Zbh, Zbi, Zbj, Zbk, Zbl, Zbm, Zbn, Zbo, Zbp, Zbq, Zbr, Zbs, Zbt, Zbu, Zbv, Zbw, Zbx, Zby, Zbz, Zca, Zcb, Zcc, Zcd, Zce, Zcf, Zcg, evalT, Zch, Nat.reduceLT, Nat.reduceEqDiff, if_true, if_false, reduceIte, true_and, Zci, Zcj, map_ite', Zck, bind_ite', Zcl, Zcm, Zcn, Zco, Zcp, Zcq, Zcr, Zcs, Zct, Zcu, Zcv, Zcw, Zcx, Zcy, Zcz, Zda, Zdb, Zdc, Zdd, Zde, Zdf, Zdg, ofVal, ofCell, argT, List.getD_cons_zero, List.getD_cons_succ, List.getElem?_toArray, List.getElem?_cons_zero, List.getElem?_cons_succ, List.nil_append, List.cons_append, List.append_nil, resT, Zdh, Zdi, Nat.mul_one, Zdj, Zdk, Zdl, Zdm, Zdn, Zdo, Zdp, Zdq, Zdr, Zds, Zdt, setT, Zdu, Zdv, Zdw, Zdx, Zdy, List.append_eq, Zdz, Zea, Zeb, Zec, Zed, Zee, Zef, Zeg, Zeh, Nat.add_zero, Zei, Zej, Zek, Zel, Zem, Zen, Int.toNat_natCast, Bool.false_eq_true, Int.reduceEq, Int.reduceLT, Int.reduceLE, Int.reduceNeg, not_false_eq_true, and_self, Zeo, Zep, Int.natCast_one, Int.cast_ofNat_Int, not_true_eq_false, decide_true, decide_false, true_implies, false_implies, Int.toNat_zero, List.length_cons, List.length_nil, Nat.zero_add, mb, Nat.reduceBEq, Bool.false_and, Bool.and_false, Zeq, tys, stb, Zer, Zes, Zet, Zeu, Zev, Zew, Bool.or_false, Bool.false_or, Bool.true_and, Bool.or_true, Bool.true_or, Zex, Zey, aload86, hb1, mb97, opT_rowO, row3, hrun]
  generalize hfin : scanP s (s.length + 1) (endW s [1] 0) (-1) [] = fin
  refine loop_rule (fun m T D σ => D = [] ∧ T 0 = y ∧ T 1 = .ptr b 0 ∧ ∃ (i : Nat) (last : Int) (acc : List Tok) (fuel : Nat), T 3 = .int .i64 last ∧ T 4 = .int .i64 i ∧ i ≤ s.length ∧ acc.length ≤ i ∧ m = s.length - i ∧ P acc σ ∧ s.length - i < fuel ∧ scanP s fuel i last acc = fin) ?_ (s.length - endW s [1] 0) _ _ _ ?_
  rotate_left
  · exact ⟨rfl, rfl, rfl, endW s [1] 0, -1, [], s.length + 1, rfl, rfl, hend.2, Nat.zero_le _, rfl, hP, by omega, hfin⟩
  clear hfin hrun hb1 hP hend L ts
  rintro m T D ⟨L, ts⟩ ⟨rfl, t0, t1, i, last, acc, fuel, t3, t4, hi, hacc, rfl, hP, hf, hs⟩
  by_cases hlt : i < s.length
  · obtain ⟨f, rfl⟩ : ∃ f, fuel = f + 1 := ⟨fuel - 1, by omega⟩
    have he := next_le s i hlt
    simp only [scanP, if_pos hlt] at hs
    obtain ⟨t, e, x, hn⟩ : ∃ t e x, nextP s i = (t, e, x) := ⟨_, _, _, rfl⟩
    rw [hn] at he hs
    simp only at he hs
    have h1 := endW_le s [1] e he.2.1
    by_cases hx : x = 0
    · subst hx
      rw [if_pos rfl] at hs
      have hie := he.2.2 rfl
      by_cases hk : t.kind = 5
      · rw [if_neg (fun h => h.1 hk), if_neg (fun h => h hk)] at hs
        exact turn_5 hY hl2 _ T L ts acc (by omega) hP i hlt last t0 t1 t3 t4 t e hn hk fun T' σ' a0 a1 a3 a4 hP2 =>
          ⟨s.length - endW s [1] e, by omega, rfl, a0, a1, endW s [1] e, -1, acc ++ [t], f, a3, a4, h1.2, by simp; omega, rfl, hP2, by omega, hs⟩
      · by_cases hk2 : last = (i : Int)
        · rw [if_pos ⟨hk, hk2⟩] at hs
          subst hs
          refine turn_y hY hl2 _ T L ts acc (by omega) hP i hlt last t0 t1 t3 t4 t e hn hk hk2 fun T' σ' hR => ?_
          exact ⟨σ'.heap, rfl, [], rfl, hR⟩
        · rw [if_neg (fun h => hk2 h.2), if_pos hk] at hs
          exact turn_n hY hl2 _ T L ts acc (by omega) hP i hlt last t0 t1 t3 t4 t e hn hk hk2 fun T' σ' a0 a1 a3 a4 hP2 =>
            ⟨s.length - endW s [1] e, by omega, rfl, a0, a1, endW s [1] e, e, acc ++ [t], f, a3, a4, h1.2, by simp; omega, rfl, hP2, by omega, hs⟩
    · rw [if_neg hx] at hs
      subst hs
      refine turn_x hY hl2 _ T L ts acc (by omega) hP i hlt last t0 t1 t3 t4 t e x hx hn fun T' σ' hR => ?_
      exact ⟨σ'.heap, rfl, [], rfl, hR⟩
  · obtain ⟨f, rfl⟩ : ∃ f, fuel = f + 1 := ⟨fuel - 1, by omega⟩
    have hi2 : i = s.length := by omega
    subst hi2
    simp only [scanP, if_neg hlt] at hs
    subst hs
    have c1 : ¬ (s.length : Int) < (s.length : Int) := by omega
    have hb1 := one_cell (hY.hb _ _ hP)
    have hs1 := scn_str L p s (hY.hp _ _ hP)
    simp only at hb1 hs1
    refine G_start ?_
    simp -implicitDefEqProofs only [Zaa, Zab, Zac, Zad, Zae, Zaf, Zag, Zah, Zai, Zaj, Zak, Zal, Zam, Zan, Zao, Zap, Zaq, Zar, Zas, Zat, Zau, Zav, Zaw, Zax, Zay, Zaz, Zba, Zbb, Zbc, Zbd, Zbe, Zbf, Zbg, Zbh, Zbi, Zbj, Zbk, Zbl, Zbm, Zbn, Zbo, Zbp, Zbq, Zbr, Zbs, Zbt, Zbu, Zbv, Zbw, Zbx, Zby, Zbz, Zca, Zcb, Zcc, Zcd, Zce, Zcf, Zcg, evalT, Zch, Nat.reduceLT, Nat.reduceEqDiff, if_true, if_false, reduceIte, true_and, Zci, Zcj, map_ite', Zck, bind_ite', Zcl, Zcm, Zcn, Zco, Zcp, Zcq, Zcr, Zcs, Zct, Zcu, Zcv, Zcw, Zcx, Zcy, Zcz, Zda, Zdb, Zdc, Zdd, Zde, Zdf, Zdg, ofVal, ofCell, argT, List.getD_cons_zero, List.getD_cons_succ, List.getElem?_toArray, List.getElem?_cons_zero, List.getElem?_cons_succ, List.nil_append, List.cons_append, List.append_nil, resT, Zdh, Zdi, Nat.mul_one, Zdj, Zdk, Zdl, Zdm, Zdn, Zdo, Zdp, Zdq, Zdr, Zds, Zdt, setT, Zdu, Zdv, Zdw, Zdx, Zdy, List.append_eq, Zdz, Zea, Zeb, Zec, Zed, Zee, Zef, Zeg, Zeh, Nat.add_zero, Zei, Zej, Zek, Zel, Zem, Zen, Int.toNat_natCast, Bool.false_eq_true, Int.reduceEq, Int.reduceLT, Int.reduceLE, Int.reduceNeg, not_false_eq_true, and_self, Zeo, Zep, Int.natCast_one, Int.cast_ofNat_Int, not_true_eq_false, decide_true, decide_false, true_implies, false_implies, Int.toNat_zero, List.length_cons, List.length_nil, Nat.zero_add, mb, Nat.reduceBEq, Bool.false_and, Bool.and_false, Zeq, tys, stb, Zer, Zes, Zet, Zeu, Zev, Zew, Bool.or_false, Bool.false_or, Bool.true_and, Bool.or_true, Bool.true_or, Zex, Zey, t0, t1, t3, t4, c1, aload86, aload9, hb1, hs1, opT_nilCheck, nilO_ptr, fo0, len_str]
    exact hP

end Go.Proofs.YtbikmhpobflfeaaDoor
namespace Go.Proofs.YtbikmhpobflfeaaDoor
open Go.Ab
set_option maxRecDepth 100000
set_option linter.unusedSimpArgs false
set_option linter.unusedVariables false
theorem e45 : elemS env 45 = some 52 := by kernel_rfl
theorem s52 : sz env 52 = some 4 := by kernel_rfl
theorem by52 : (bys env 52).isSome = true ∧ (bys env 52).getD 0 ≤ 2 ^ 20 := by
  have h : (match bys env 52 with | some n => Nat.ble n (2 ^ 20) | none => false) = true := by kernel_rfl
  split at h
  · rename_i n hn; rw [hn]; exact ⟨rfl, Nat.le_of_ble_eq_true h⟩
  · simp at h
theorem zn52 : zeroN env 52 = some 4 := by kernel_rfl
/-- tokens that are being appended to -/
inductive GrowT (ts : List Nat) : V → List Tok → Prop
  | nil : GrowT ts .nilsl []
  | tok (cs : List Tok) (k e : Nat) (h : ts[k]? = some e) (hne : cs ≠ []) : GrowT ts (.row (flatT cs) cs.length (.tok k e 4)) cs
theorem flatT_app (cs : List Tok) (c : Tok) : flatT (cs ++ [c]) = flatT cs ++ [.int .i64 c.kind, .str c.text, .int .i64 c.n, .int .i64 c.pos] := by simp [flatT, Tok.cells]
theorem flatT_len : ∀ cs : List Tok, (flatT cs).length = cs.length * 4
  | [] => rfl
  | c :: cs => by rw [flatT_cons]; simp only [List.length_cons, flatT_len cs]; omega
theorem build_T {T : Tm} {σ : S} {x : Operand} : opT env false T σ (.buildSlice 45 1 #[(0, x)]) = (evalT env T x).bind fun v => if v.cells.length = 4 then some (.row v.cells 1 .full, σ) else none := by
  unfold opT
  simp only [apure, aread, astate, partsO]
  cases evalT env T x with
  | none => rfl
  | some v =>
    simp only [Option.map_some, Option.bind_some, e45, s52, zv52]
    by_cases hv : v.cells.length = 4
    · simp [vFill, hv, Zeg]
    · simp [vFill, hv, Zeg]
theorem GrowT.append {hp : List AObj} {ts : List Nat} {v : V} {cs : List Tok} (g : GrowT ts v cs) (c : Tok) (cap : RCap) (hb : cs.length ≤ 4000) :
    ∃ v' ts', appO env false ⟨hp, ts⟩ 45 45 v (.row [.int .i64 c.kind, .str c.text, .int .i64 c.n, .int .i64 c.pos] 1 cap) = some (v', ⟨hp, ts'⟩) ∧ GrowT ts' v' (cs ++ [c]) := by
  have hnew : vCells hp 4 1 (.row [.int .i64 c.kind, .str c.text, .int .i64 c.n, .int .i64 c.pos] 1 cap) = some [.int .i64 c.kind, .str c.text, .int .i64 c.n, .int .i64 c.pos] := by simp [vCells]
  have hcell : ([.int .i64 c.kind, .str c.text, .int .i64 c.n, .int .i64 c.pos] : List V).all V.isCell = true := by simp [V.isCell]
  obtain ⟨h52, h52b⟩ := by52
  obtain ⟨nb, hnb⟩ := Option.isSome_iff_exists.1 h52
  rw [hnb] at h52b
  simp only [Option.getD_some] at h52b
  have hlim : lim = 2 ^ 40 := rfl
  have hl1 : (1 : Nat) * nb ≤ lim ∧ 1 ≤ lim := by rw [hlim]; omega
  have hl2 : (cs.length + 1) * nb ≤ lim ∧ cs.length + 1 ≤ lim := by
    have : (cs.length + 1) * nb ≤ 4001 * 2 ^ 20 := Nat.mul_le_mul (by omega) h52b
    rw [hlim]; omega
  unfold appO
  simp only [e45, s52, u45, hnb, zn52, vLen, hnew, Option.bind_some, if_true]
  cases g with
  | nil =>
    refine ⟨.row (flatT [c]) 1 (.tok ts.length 0 4), ts ++ [0], ?_, .tok [c] ts.length 0 (by simp) (by simp)⟩
    have hl0 : nb ≤ lim := by rw [hlim]; omega
    simp [aappend, hl1, hl0, flatT, Tok.cells]
  | tok _ k e hk hne =>
    have hkl : k < ts.length := by
      rcases Nat.lt_or_ge k ts.length with h1 | h1
      · exact h1
      · rw [List.getElem?_eq_none h1] at hk; simp at hk
    refine ⟨.row (flatT (cs ++ [c])) (cs ++ [c]).length (.tok k (e + 1) 4), ts.set k (e + 1), ?_, .tok _ k (e + 1) (by simp [hkl]) (by simp)⟩
    have hl3 : (flatT cs).length = cs.length * 4 := flatT_len cs
    simp [aappend, hl2, hl3, hk, V.isCell, flatT_app]
theorem GrowT.cells {ts : List Nat} {v : V} {cs : List Tok} (g : GrowT ts v cs) : v.cells = [v] := by cases g <;> rfl
theorem GrowT.cell {ts : List Nat} {v : V} {cs : List Tok} (g : GrowT ts v cs) : v.isCell = true := by cases g <;> rfl
/-- a list of tokens as a value -/
def toksV (l : List Tok) : V := if l = [] then .nilsl else .row (flatT l) l.length .unk
theorem toksV_is (l : List Tok) : IsT (toksV l) l := by
  unfold toksV IsT
  by_cases h : l = []
  · rw [if_pos h]; exact .inl ⟨rfl, h⟩
  · rw [if_neg h]; exact .inr rfl
theorem seal_flatT (h : List AObj) (d : Nat) : ∀ l : List Tok, (flatT l).mapM (sealV h (d + 1)) = some (flatT l)
  | [] => rfl
  | c :: l => by
    rw [flatT_cons, mapM_seal_cons, mapM_seal_cons, mapM_seal_cons, mapM_seal_cons, seal_flatT h d l, sealV_int, sealV_str, sealV_int, sealV_int]
    rfl
theorem seal_T {h : List AObj} {d : Nat} {ts : List Nat} {v : V} {l : List Tok} (g : GrowT ts v l) : sealV h (d + 2) v = some (toksV l) := by
  cases g with
  | nil => rfl
  | tok _ k e hk hne =>
    rw [sealV_row, seal_flatT h d l]
    simp [toksV, hne]

end Go.Proofs.YtbikmhpobflfeaaDoor
namespace Go.Proofs.YtbikmhpobflfeaaDoor
open Go.Ab
set_option maxRecDepth 100000
set_option linter.unusedSimpArgs false
set_option linter.unusedVariables false
/-- the loop over a function of a code: what it assigns, what it does -/
def rngC : Code → Option (Code × Code)
  | .rangeFunc _ _ a b => some (a, b)
  | .block _ c => rngC c
  | .seq a b => (rngC a).or (rngC b)
  | .cond _ a b => (rngC a).or (rngC b)
  | .loop c => rngC c
  | .scope c => rngC c
  | _ => none
def asgR (c : Code) : Code := match rngC c with | some (a, _) => a | none => .skip
def bodR (c : Code) : Code := match rngC c with | some (_, b) => b | none => .skip
theorem s45 : sz env 45 = some 1 := by kernel_rfl
def P35 (lo : AObj) (s : List UInt8) (acc : List Tok) (σ : S) : Prop :=
  7 ≤ σ.heap.length ∧ σ.heap[0]? = some (.cells [.nilsl] 45) ∧ σ.heap[1]? = some (.cells [.int .i64 0, .int .i64 0] 47) ∧ σ.heap[2]? = some (.cells (scnL s) 91) ∧ σ.heap[4]? = some (.cells [.ptr 2 0] 86) ∧
  σ.heap[5]? = some (.defd true) ∧ σ.heap[6]? = some lo ∧ ∃ v, σ.heap[3]? = some (.cells [v] 45) ∧ GrowT σ.toks v acc
def R35 (lr : AObj) (x : Int) (i : Nat) (σ : S) : Prop :=
  7 ≤ σ.heap.length ∧ σ.heap[0]? = some (.cells [.nilsl] 45) ∧ σ.heap[1]? = some (.cells [.int .i64 x, .int .i64 i] 47) ∧ σ.heap[5]? = some (.defd true) ∧ σ.heap[6]? = some lr
theorem ne0 {x : Int} (h : x ≠ 0) : ((x : Int) = 0) = False := eq_false h
theorem round_ok (s : List UInt8) (T : Tm) (tmps : List V) (lo : AObj) (hr : Rep 32 T tmps) (hlo : lo = .loop .ready none 35 tmps #[18, 19] (asgR (bodyOf Tryd.f35)) (bodR (bodyOf Tryd.f35)) 5)
    (t5 : T 5 = .ptr 3 0) (acc : List Tok) (H : List AObj) (ts : List Nat) (t : Tok) (ha : acc.length ≤ 4000) (hP : P35 lo s acc ⟨H, ts⟩) :
    ∃ σ', callV env (ev env) (.yld 6) [tokV t, .int .i64 0] ⟨H, ts⟩ = some (.bool true, σ') ∧ P35 lo s (acc ++ [t]) σ' ∧ ∀ q, 7 ≤ q → q < H.length → σ'.heap[q]? = H[q]? := by
  obtain ⟨h7, p0, p1, p2, p4, p5, p6, v, p3, hg⟩ := hP
  simp only at h7 p0 p1 p2 p3 p4 p5 p6 hg
  refine round_rule hlo p6 hr rfl (by simp) ?_
  intro lb hlb
  clear hlb hlo hr
  obtain ⟨v', ts', happ, hg'⟩ := GrowT.append (hp := (H ++ [AObj.cells [.int .i64 t.kind, .str t.text, .int .i64 t.n, .int .i64 t.pos] 52]).set 6 lb) hg t .full ha
  have hv1 := hg'.cells
  have hv2 := hg'.cell
  have q3 : ((H ++ [AObj.cells [.int .i64 t.kind, .str t.text, .int .i64 t.n, .int .i64 t.pos] 52]).set 6 lb)[3]? = some (.cells [v] 45) := by
    rw [List.getElem?_set_ne (by omega), List.getElem?_append_left (by omega)]; exact p3
  have ql : loadCellsV ((H ++ [AObj.cells [.int .i64 t.kind, .str t.text, .int .i64 t.n, .int .i64 t.pos] 52]).set 6 lb) 4 (.ptr H.length 0) = some [.int .i64 t.kind, .str t.text, .int .i64 t.n, .int .i64 t.pos] :=
    load4_ptr (t := 52) (by rw [List.getElem?_set_ne (by omega)]; simp)
  have q52 : aload env ((H ++ [AObj.cells [.int .i64 t.kind, .str t.text, .int .i64 t.n, .int .i64 t.pos] 52]).set 6 lb) 52 (.ptr H.length 0) = some (.agg [.int .i64 t.kind, .str t.text, .int .i64 t.n, .int .i64 t.pos]) := by
    have g : Go.Ab.aggT env 52 = some true := by kernel_rfl
    unfold aload
    simp only [s52, g, ql, Option.bind_some, Option.map_some]
  have q45 : aload env ((H ++ [AObj.cells [.int .i64 t.kind, .str t.text, .int .i64 t.n, .int .i64 t.pos] 52]).set 6 lb) 45 (.ptr 3 0) = some v := by
    rw [aload_one (by kernel_rfl)]; exact one_cell q3
  have q6 : (H ++ [AObj.cells [.int .i64 t.kind, .str t.text, .int .i64 t.n, .int .i64 t.pos] 52] : List AObj)[6]? = some lo := by
    rw [List.getElem?_append_left (by omega)]; exact p6
  refine G_start ?_
  simp only [asgR, bodR, rngC, bodyOf, Tryd.f35, Option.getD_some, Option.or, tokV]
  simp -implicitDefEqProofs only [Zaa, Zab, Zac, Zad, Zae, Zaf, Zag, Zah, Zai, Zaj, Zak, Zal, Zam, Zan, Zao, Zap, Zaq, Zar, Zas, Zat, Zau, Zav, Zaw, Zax, Zay, Zaz, Zba, Zbb, Zbc, Zbd, Zbe, Zbf, Zbg, Zbh, Zbi, Zbj, Zbk, Zbl, Zbm, Zbn, Zbo, Zbp, Zbq, Zbr, Zbs, Zbt, Zbu, Zbv, Zbw, Zbx, Zby, Zbz, Zca, Zcb, Zcc, Zcd, Zce, Zcf, Zcg, evalT, Zch, Nat.reduceLT, Nat.reduceEqDiff, if_true, if_false, reduceIte, true_and, Zci, Zcj, map_ite', Zck, bind_ite', Zcl, Zcm, Zcn, Zco, Zcp, Zcq, Zcr, Zcs, Zct, Zcu, Zcv, Zcw, Zcx, Zcy, Zcz, Zda, Zdb, Zdc, Zdd, Zde, Zdf, Zdg, ofVal, ofCell, argT, List.getD_cons_zero, List.getD_cons_succ, List.getElem?_toArray, List.getElem?_cons_zero, List.getElem?_cons_succ, List.nil_append, List.cons_append, List.append_nil, resT, Zdh, Zdi, Nat.mul_one, Zdj, Zdk, Zdl, Zdm, Zdn, Zdo, Zdp, Zdq, Zdr, Zds, Zdt, setT, Zdu, Zdv, Zdw, Zdx, Zdy, List.append_eq, Zdz, Zea, Zeb, Zec, Zed, Zee, Zef, Zeg, Zeh, Nat.add_zero, Zei, Zej, Zek, Zel, Zem, Zen, Int.toNat_natCast, Bool.false_eq_true, Int.reduceEq, Int.reduceLT, Int.reduceLE, Int.reduceNeg, not_false_eq_true, and_self, Zeo, Zep, Int.natCast_one, Int.cast_ofNat_Int, not_true_eq_false, decide_true, decide_false, true_implies, false_implies, Int.toNat_zero, List.length_cons, List.length_nil, Nat.zero_add, mb, Nat.reduceBEq, Bool.false_and, Bool.and_false, Zeq, tys, stb, Zer, Zes, Zet, Zeu, Zev, Zew, Bool.or_false, Bool.false_or, Bool.true_and, Bool.or_true, Bool.true_or, Zex, Zey, storeList, List.take_zero, List.take_succ_cons, List.drop_zero, List.drop_succ_cons, List.drop_nil, List.all_cons, List.all_nil, List.set_cons_zero, List.set_cons_succ, cells_hsl, isCell_hsl, Nat.reduceAdd, Nat.reduceLeDiff, List.zip_cons_cons, List.zip_nil_right, t5, zv52, Zeg, set_end, heap_end, isCell_int, isCell_str, q6, q45, q52, q3, s45, build_T, happ, hv1, hv2]
  generalize AObj.cells [.int .i64 t.kind, .str t.text, .int .i64 t.n, .int .i64 t.pos] 52 = o
  have hq : ∀ q, q ≠ 3 → q ≠ 6 → q < H.length → ((((H ++ [o]).set 6 lb).set 3 (AObj.cells [v'] 45)).set 6 lo)[q]? = H[q]? := fun q h1 h2 h3 => by
    rw [List.getElem?_set_ne (by omega), List.getElem?_set_ne (by omega), List.getElem?_set_ne (by omega), List.getElem?_append_left h3]
  refine ⟨?_, ⟨?_, ?_, ?_, ?_, ?_, ?_, ?_, v', ?_, hg'⟩, fun q h1 h2 => hq q (by omega) (by omega) h2⟩
  · rw [List.getElem?_set_ne (by omega), List.getElem?_set_self (by simp; omega)]
  · simp; omega
  · simp only; rw [hq 0 (by omega) (by omega) (by omega)]; exact p0
  · simp only; rw [hq 1 (by omega) (by omega) (by omega)]; exact p1
  · simp only; rw [hq 2 (by omega) (by omega) (by omega)]; exact p2
  · simp only; rw [hq 4 (by omega) (by omega) (by omega)]; exact p4
  · simp only; rw [hq 5 (by omega) (by omega) (by omega)]; exact p5
  · simp only; rw [List.getElem?_set_self (by simp; omega)]
  · simp only; rw [List.getElem?_set_ne (by omega), List.getElem?_set_self (by simp; omega)]
theorem build47 (a b : Int) : buildO env 47 [(0, .int .i64 a), (1, .int .i64 b)] = some (.agg [.int .i64 a, .int .i64 b]) := by kernel_rfl
theorem fo523 : fldOff env 52 3 = some 3 := by kernel_rfl
theorem sc_build (t : TypeId) (ps : Array (Nat × Operand)) : scOp env (.build t ps) = false := rfl
theorem rd_build (t : TypeId) (ps : Array (Nat × Operand)) : readsOp (.build t ps) = false := rfl
theorem round_er (s : List UInt8) (T : Tm) (tmps : List V) (lo lr : AObj) (hr : Rep 32 T tmps) (hlo : lo = .loop .ready none 35 tmps #[18, 19] (asgR (bodyOf Tryd.f35)) (bodR (bodyOf Tryd.f35)) 5)
    (hlr : lr = .loop .done (some .ret) 35 tmps #[18, 19] (asgR (bodyOf Tryd.f35)) (bodR (bodyOf Tryd.f35)) 5)
    (t2 : T 2 = .ptr 0 0) (t3 : T 3 = .ptr 1 0) (acc : List Tok) (H : List AObj) (ts : List Nat) (i : Nat) (x : Int) (hx : x ≠ 0) (hP : P35 lo s acc ⟨H, ts⟩) :
    ∃ σ', callV env (ev env) (.yld 6) [tokV ⟨0, [], 0, (i : Nat)⟩, .int .i64 x] ⟨H, ts⟩ = some (.bool false, σ') ∧ R35 lr x i σ' := by
  obtain ⟨h7, p0, p1, p2, p4, p5, p6, v, p3, hg⟩ := hP
  simp only at h7 p0 p1 p2 p3 p4 p5 p6 hg
  refine round_ret hlo p6 hr rfl (by simp) ?_
  intro lb lr2 hlb hlr2
  have hlr3 : lr2 = lr := by rw [hlr, hlr2]
  clear hlb hlo hr hlr2 hlr
  subst hlr3
  have hx0 := ne0 hx
  have q6 : (H ++ [AObj.cells [.int .i64 0, .str [], .int .i64 0, .int .i64 i] 52])[6]? = some lo := by
    rw [List.getElem?_append_left (by omega)]; exact p6
  have q0 : ((H ++ [AObj.cells [.int .i64 0, .str [], .int .i64 0, .int .i64 i] 52]).set 6 lb)[0]? = some (.cells [.nilsl] 45) := by
    rw [List.getElem?_set_ne (by omega), List.getElem?_append_left (by omega)]; exact p0
  have q1 : (((H ++ [AObj.cells [.int .i64 0, .str [], .int .i64 0, .int .i64 i] 52]).set 6 lb).set 0 (.cells [.nilsl] 45))[1]? = some (.cells [.int .i64 0, .int .i64 0] 47) := by
    rw [List.getElem?_set_ne (by omega), List.getElem?_set_ne (by omega), List.getElem?_append_left (by omega)]; exact p1
  have qk : (loadCellsV ((H ++ [AObj.cells [.int .i64 0, .str [], .int .i64 0, .int .i64 i] 52]).set 6 lb) 1 (.ptr H.length 3)).bind (·[0]?) = some (.int .i64 i) := by
    rw [Zdk, List.getElem?_set_ne (by omega), heap_end]; rfl
  have s47 : sz env 47 = some 2 := by kernel_rfl
  refine G_start ?_
  simp only [asgR, bodR, rngC, bodyOf, Tryd.f35, Option.getD_some, Option.or, tokV]
  simp -implicitDefEqProofs only [Zaa, Zab, Zac, Zad, Zae, Zaf, Zag, Zah, Zai, Zaj, Zak, Zal, Zam, Zan, Zao, Zap, Zaq, Zar, Zas, Zat, Zau, Zav, Zaw, Zax, Zay, Zaz, Zba, Zbb, Zbc, Zbd, Zbe, Zbf, Zbg, Zbh, Zbi, Zbj, Zbk, Zbl, Zbm, Zbn, Zbo, Zbp, Zbq, Zbr, Zbs, Zbt, Zbu, Zbv, Zbw, Zbx, Zby, Zbz, Zca, Zcb, Zcc, Zcd, Zce, Zcf, Zcg, evalT, Zch, Nat.reduceLT, Nat.reduceEqDiff, if_true, if_false, reduceIte, true_and, Zci, Zcj, map_ite', Zck, bind_ite', Zcl, Zcm, Zcn, Zco, Zcp, Zcq, Zcr, Zcs, Zct, Zcu, Zcv, Zcw, Zcx, Zcy, Zcz, Zda, Zdb, Zdc, Zdd, Zde, Zdf, Zdg, ofVal, ofCell, argT, List.getD_cons_zero, List.getD_cons_succ, List.getElem?_toArray, List.getElem?_cons_zero, List.getElem?_cons_succ, List.nil_append, List.cons_append, List.append_nil, resT, Zdh, Zdi, Nat.mul_one, Zdj, Zdk, Zdl, Zdm, Zdn, Zdo, Zdp, Zdq, Zdr, Zds, Zdt, setT, Zdu, Zdv, Zdw, Zdx, Zdy, List.append_eq, Zdz, Zea, Zeb, Zec, Zed, Zee, Zef, Zeg, Zeh, Nat.add_zero, Zei, Zej, Zek, Zel, Zem, Zen, Int.toNat_natCast, Bool.false_eq_true, Int.reduceEq, Int.reduceLT, Int.reduceLE, Int.reduceNeg, not_false_eq_true, and_self, Zeo, Zep, Int.natCast_one, Int.cast_ofNat_Int, not_true_eq_false, decide_true, decide_false, true_implies, false_implies, Int.toNat_zero, List.length_cons, List.length_nil, Nat.zero_add, mb, Nat.reduceBEq, Bool.false_and, Bool.and_false, Zeq, tys, stb, Zer, Zes, Zet, Zeu, Zev, Zew, Bool.or_false, Bool.false_or, Bool.true_and, Bool.or_true, Bool.true_or, Zex, Zey, storeList, List.take_zero, List.take_succ_cons, List.drop_zero, List.drop_succ_cons, List.drop_nil, List.all_cons, List.all_nil, List.set_cons_zero, List.set_cons_succ, cells_hsl, isCell_hsl, Nat.reduceAdd, Nat.reduceLeDiff, List.zip_cons_cons, List.zip_nil_right, t2, t3, zv52, Zeg, set_end, heap_end, isCell_int, isCell_str, q6, hx0]
  refine G_stab rfl (fun s => s.heap[H.length]? = some (.cells [.int .i64 0, .str [], .int .i64 0, .int .i64 i] 52)) (by simp only; rw [List.getElem?_set_ne (by omega), heap_end]) (by kernel_rfl) ?_
  simp -implicitDefEqProofs only [Zaa, Zab, Zac, Zad, Zae, Zaf, Zag, Zah, Zai, Zaj, Zak, Zal, Zam, Zan, Zao, Zap, Zaq, Zar, Zas, Zat, Zau, Zav, Zaw, Zax, Zay, Zaz, Zba, Zbb, Zbc, Zbd, Zbe, Zbf, Zbg, Zbh, Zbi, Zbj, Zbk, Zbl, Zbm, Zbn, Zbo, Zbp, Zbq, Zbr, Zbs, Zbt, Zbu, Zbv, Zbw, Zbx, Zby, Zbz, Zca, Zcb, Zcc, Zcd, Zce, Zcf, Zcg, evalT, Zch, Nat.reduceLT, Nat.reduceEqDiff, if_true, if_false, reduceIte, true_and, Zci, Zcj, map_ite', Zck, bind_ite', Zcl, Zcm, Zcn, Zco, Zcp, Zcq, Zcr, Zcs, Zct, Zcu, Zcv, Zcw, Zcx, Zcy, Zcz, Zda, Zdb, Zdc, Zdd, Zde, Zdf, Zdg, ofVal, ofCell, argT, List.getD_cons_zero, List.getD_cons_succ, List.getElem?_toArray, List.getElem?_cons_zero, List.getElem?_cons_succ, List.nil_append, List.cons_append, List.append_nil, resT, Zdh, Zdi, Nat.mul_one, Zdj, Zdk, Zdl, Zdm, Zdn, Zdo, Zdp, Zdq, Zdr, Zds, Zdt, setT, Zdu, Zdv, Zdw, Zdx, Zdy, List.append_eq, Zdz, Zea, Zeb, Zec, Zed, Zee, Zef, Zeg, Zeh, Nat.add_zero, Zei, Zej, Zek, Zel, Zem, Zen, Int.toNat_natCast, Bool.false_eq_true, Int.reduceEq, Int.reduceLT, Int.reduceLE, Int.reduceNeg, not_false_eq_true, and_self, Zeo, Zep, Int.natCast_one, Int.cast_ofNat_Int, not_true_eq_false, decide_true, decide_false, true_implies, false_implies, Int.toNat_zero, List.length_cons, List.length_nil, Nat.zero_add, mb, Nat.reduceBEq, Bool.false_and, Bool.and_false, Zeq, tys, stb, Zer, Zes, Zet, Zeu, Zev, Zew, Bool.or_false, Bool.false_or, Bool.true_and, Bool.or_true, Bool.true_or, Zex, Zey, storeList, List.take_zero, List.take_succ_cons, List.drop_zero, List.drop_succ_cons, List.drop_nil, List.all_cons, List.all_nil, List.set_cons_zero, List.set_cons_succ, cells_hsl, isCell_hsl, Nat.reduceAdd, Nat.reduceLeDiff, sc_load, sc_move, sc_fieldAddr, sc_store, sc_build, rd_load, rd_move, rd_fieldAddr, rd_store, rd_build, t2, t3, aread_load, q0, q1, qk, s45, s47, fo523, aload3, build47, Zdr, isCell_int, Zeg]
  refine ⟨fun s h => by rw [h]; rfl, rfl, by rw [List.getElem?_set_ne (by omega), List.getElem?_set_ne (by omega), heap_end], by rw [List.getElem?_set_ne (by omega), List.getElem?_set_ne (by omega), List.getElem?_set_ne (by omega), heap_end], ?_⟩
  generalize AObj.cells [.int .i64 0, .str [], .int .i64 0, .int .i64 i] 52 = o
  have hq : ∀ q, q ≠ 0 → q ≠ 1 → q ≠ 6 → q < H.length → (((((H ++ [o]).set 6 lb).set 0 (AObj.cells [.nilsl] 45)).set 1 (AObj.cells [.int .i64 x, .int .i64 i] 47)).set 6 lr2)[q]? = H[q]? := fun q h0 h1 h2 h3 => by
    rw [List.getElem?_set_ne (by omega), List.getElem?_set_ne (by omega), List.getElem?_set_ne (by omega), List.getElem?_set_ne (by omega), List.getElem?_append_left h3]
  refine ⟨?_, ?_, ?_, ?_, ?_, ?_⟩
  · rw [List.getElem?_set_ne (by omega), List.getElem?_set_ne (by omega), List.getElem?_set_self (by simp; omega)]
  · simp; omega
  · simp only; rw [List.getElem?_set_ne (by omega), List.getElem?_set_ne (by omega), List.getElem?_set_self (by simp)]
  · simp only; rw [List.getElem?_set_ne (by omega), List.getElem?_set_self (by simp; omega)]
  · simp only; rw [hq 5 (by omega) (by omega) (by omega) (by omega)]; exact p5
  · simp only; rw [List.getElem?_set_self (by simp; omega)]

end Go.Proofs.YtbikmhpobflfeaaDoor
namespace Go.Proofs.YtbikmhpobflfeaaDoor
open Go.Ab
set_option maxRecDepth 100000
set_option linter.unusedSimpArgs false
set_option linter.unusedVariables false
theorem at35 : env.P.funcs[35]? = some Tryd.f35 := by kernel_rfl
theorem at74 : env.P.funcs[74]? = some Tryd.f74 := by kernel_rfl
theorem yl35 (s : List UInt8) (T : Tm) (tmps : List V) (lo lr : AObj) (hr : Rep 32 T tmps) (hlo : lo = .loop .ready none 35 tmps #[18, 19] (asgR (bodyOf Tryd.f35)) (bodR (bodyOf Tryd.f35)) 5)
    (hlr : lr = .loop .done (some .ret) 35 tmps #[18, 19] (asgR (bodyOf Tryd.f35)) (bodR (bodyOf Tryd.f35)) 5)
    (t2 : T 2 = .ptr 0 0) (t3 : T 3 = .ptr 1 0) (t5 : T 5 = .ptr 3 0) : Yl (.yld 6) 7 2 4 s (P35 lo s) (R35 lr) where
  low := by
    rintro acc σ σ' h1 h2 h3 ⟨h7, p0, p1, p2, p4, p5, p6, v, p3, hg⟩
    exact ⟨h3, by rw [h1 0 (by omega)]; exact p0, by rw [h1 1 (by omega)]; exact p1, by rw [h1 2 (by omega)]; exact p2, by rw [h1 4 (by omega)]; exact p4, by rw [h1 5 (by omega)]; exact p5,
      by rw [h1 6 (by omega)]; exact p6, v, by rw [h1 3 (by omega)]; exact p3, by rw [h2]; exact hg⟩
  len := fun acc σ h => h.1
  hp := fun acc σ h => h.2.2.2.1
  hb := fun acc σ h => h.2.2.2.2.1
  ok := fun acc σ t ha hP => round_ok s T tmps lo hr hlo t5 acc σ.heap σ.toks t ha hP
  err := fun acc σ i x hx ha hP => round_er s T tmps lo lr hr hlo hlr t2 t3 acc σ.heap σ.toks i x hx hP
theorem callFn_ev {E : Env} {f : FuncId} {args : List V} {σ σ' : S} {v : V} (hp : E.pure f = false) (hk : E.hook f = none) (h : callFn E (ev E) f args σ = some (v, σ')) (hz : E.frz f = false := by rfl) : ev E (.call f args σ) = some ⟨.ret, [v], [], σ'⟩ := by
  unfold callFn at h
  simp only [hk, hp, hz, Bool.false_eq_true, if_false] at h
  split at h
  · rename_i v0 σ0 he
    simp only [Option.some.injEq, Prod.mk.injEq] at h
    obtain ⟨rfl, rfl⟩ := h
    exact he
  · simp at h
theorem tokens74 (p : Nat) (L : List AObj) (ts : List Nat) : callFn env (ev env) 74 [.ptr p 0] ⟨L, ts⟩ = some (.func 97 [] [.ptr L.length 0], ⟨L ++ [.cells [.ptr p 0] 86], ts⟩) := by
  refine callFn_eq rfl rfl at74 rfl (by simp [Tryd.f74]) (by simp [Tryd.f74]) (G_start ?_)
  simp -implicitDefEqProofs only [Tryd.f74, Zaa, Zab, Zac, Zad, Zae, Zaf, Zag, Zah, Zai, Zaj, Zak, Zal, Zam, Zan, Zao, Zap, Zaq, Zar, Zas, Zat, Zau, Zav, Zaw, Zax, Zay, Zaz, Zba, Zbb, Zbc, Zbd, Zbe, Zbf, Zbg, Zbh, Zbi, Zbj, Zbk, Zbl, Zbm, Zbn, Zbo, Zbp, Zbq, Zbr, Zbs, Zbt, Zbu, Zbv, Zbw, Zbx, Zby, Zbz, Zca, Zcb, Zcc, Zcd, Zce, Zcf, Zcg, evalT, Zch, Nat.reduceLT, Nat.reduceEqDiff, if_true, if_false, reduceIte, true_and, Zci, Zcj, map_ite', Zck, bind_ite', Zcl, Zcm, Zcn, Zco, Zcp, Zcq, Zcr, Zcs, Zct, Zcu, Zcv, Zcw, Zcx, Zcy, Zcz, Zda, Zdb, Zdc, Zdd, Zde, Zdf, Zdg, ofVal, ofCell, argT, List.getD_cons_zero, List.getD_cons_succ, List.getElem?_toArray, List.getElem?_cons_zero, List.getElem?_cons_succ, List.nil_append, List.cons_append, List.append_nil, resT, Zdh, Zdi, Nat.mul_one, Zdj, Zdk, Zdl, Zdm, Zdn, Zdo, Zdp, Zdq, Zdr, Zds, Zdt, setT, Zdu, Zdv, Zdw, Zdx, Zdy, List.append_eq, Zdz, Zea, Zeb, Zec, Zed, Zee, Zef, Zeg, Zeh, Nat.add_zero, Zei, Zej, Zek, Zel, Zem, Zen, Int.toNat_natCast, Bool.false_eq_true, Int.reduceEq, Int.reduceLT, Int.reduceLE, Int.reduceNeg, not_false_eq_true, and_self, Zeo, Zep, Int.natCast_one, Int.cast_ofNat_Int, not_true_eq_false, decide_true, decide_false, true_implies, false_implies, Int.toNat_zero, List.length_cons, List.length_nil, Nat.zero_add, mb, Nat.reduceBEq, Bool.false_and, Bool.and_false, Zeq, tys, stb, Zer, Zes, Zet, Zeu, Zev, Zew, Bool.or_false, Bool.false_or, Bool.true_and, Bool.or_true, Bool.true_or, Zex, Zey, Zdz, oneOr, cells_ptr]
/-- Split: the tokens, the fault -/
def splitV (s : List UInt8) : V :=
  if 2000 < s.length then .tup [.nilsl, .agg [.int .i64 4, .int .i64 2000]] else
  match (scanP s (s.length + 1) (endW s [1] 0) (-1) []).2 with
  | none => .tup [toksV (scanP s (s.length + 1) (endW s [1] 0) (-1) []).1, .agg [.int .i64 0, .int .i64 0]]
  | some (x, i) => .tup [.nilsl, .agg [.int .i64 x, .int .i64 i]]
theorem build91 (s : List UInt8) : buildO env 91 [(0, .str s), (2, .agg (clsL.map (V.int .i64)))] = some (.agg (scnL s)) := by kernel_rfl
theorem ld45 {L : List AObj} {b : Nat} {v : V} (h : L[b]? = some (.cells [v] 45)) : aload env L 45 (.ptr b 0) = some v := by
  rw [aload_one (by kernel_rfl)]; exact one_cell h
theorem ld47 {L : List AObj} {b : Nat} {v w : V} (h : L[b]? = some (.cells [v, w] 47)) : aload env L 47 (.ptr b 0) = some (.agg [v, w]) := by
  have g : Go.Ab.aggT env 47 = some true := by kernel_rfl
  have e : sz env 47 = some 2 := by kernel_rfl
  have l : loadCellsV L 2 (.ptr b 0) = some [v, w] := by simp [loadCellsV, h]
  unfold aload
  simp only [g, e, l, Option.bind_some, Option.map_some]
theorem zv45 : zeroV env 45 = some .nilsl := by kernel_rfl
theorem zv47 : zeroV env 47 = some (.agg [.int .i64 0, .int .i64 0]) := by kernel_rfl
theorem s47 : sz env 47 = some 2 := by kernel_rfl
theorem build470 : buildO env 47 [] = some (.agg [.int .i64 0, .int .i64 0]) := by kernel_rfl
theorem split_call (s : List UInt8) (hl : s.length ≤ 4000) (σ : S) : callFn env (ev env) 35 [.str s] σ = some (splitV s, σ) := by
  refine callFn_pure rfl rfl rfl at35 rfl (by simp [Tryd.f35]) (by simp [Tryd.f35]) (G_start ?_) σ
  unfold splitV
  by_cases h1 : 2000 < s.length
  · rw [if_pos h1]
    have g1 : (2000 : Int) < (s.length : Int) := by omega
    simp -implicitDefEqProofs only [Tryd.f35, Zaa, Zab, Zac, Zad, Zae, Zaf, Zag, Zah, Zai, Zaj, Zak, Zal, Zam, Zan, Zao, Zap, Zaq, Zar, Zas, Zat, Zau, Zav, Zaw, Zax, Zay, Zaz, Zba, Zbb, Zbc, Zbd, Zbe, Zbf, Zbg, Zbh, Zbi, Zbj, Zbk, Zbl, Zbm, Zbn, Zbo, Zbp, Zbq, Zbr, Zbs, Zbt, Zbu, Zbv, Zbw, Zbx, Zby, Zbz, Zca, Zcb, Zcc, Zcd, Zce, Zcf, Zcg, evalT, Zch, Nat.reduceLT, Nat.reduceEqDiff, if_true, if_false, reduceIte, true_and, Zci, Zcj, map_ite', Zck, bind_ite', Zcl, Zcm, Zcn, Zco, Zcp, Zcq, Zcr, Zcs, Zct, Zcu, Zcv, Zcw, Zcx, Zcy, Zcz, Zda, Zdb, Zdc, Zdd, Zde, Zdf, Zdg, ofVal, ofCell, argT, List.getD_cons_zero, List.getD_cons_succ, List.getElem?_toArray, List.getElem?_cons_zero, List.getElem?_cons_succ, List.nil_append, List.cons_append, List.append_nil, resT, Zdh, Zdi, Nat.mul_one, Zdj, Zdk, Zdl, Zdm, Zdn, Zdo, Zdp, Zdq, Zdr, Zds, Zdt, setT, Zdu, Zdv, Zdw, Zdx, Zdy, List.append_eq, Zdz, Zea, Zeb, Zec, Zed, Zee, Zef, Zeg, Zeh, Nat.add_zero, Zei, Zej, Zek, Zel, Zem, Zen, Int.toNat_natCast, Bool.false_eq_true, Int.reduceEq, Int.reduceLT, Int.reduceLE, Int.reduceNeg, not_false_eq_true, and_self, Zeo, Zep, Int.natCast_one, Int.cast_ofNat_Int, not_true_eq_false, decide_true, decide_false, true_implies, false_implies, Int.toNat_zero, List.length_cons, List.length_nil, Nat.zero_add, mb, Nat.reduceBEq, Bool.false_and, Bool.and_false, Zeq, tys, stb, Zer, Zes, Zet, Zeu, Zev, Zew, Bool.or_false, Bool.false_or, Bool.true_and, Bool.or_true, Bool.true_or, Zex, Zey, storeList, List.take_zero, List.take_succ_cons, List.drop_zero, List.drop_succ_cons, List.drop_nil, List.all_cons, List.all_nil, List.set_cons_zero, List.set_cons_succ, cells_hsl, isCell_hsl, Nat.reduceAdd, Nat.reduceLeDiff, empty_mk, len_str, zv45, zv47, s45, s47, g1, build47, Zeg, Zdr, isCell_int]
    refine ⟨rfl, ?_⟩
    rw [ld45 (v := .nilsl) rfl, ld47 (v := .int .i64 4) (w := .int .i64 2000) rfl]
    simp only [Option.bind_some, Option.map_some, Zdi]
    rfl
  · rw [if_neg h1]
    have g1 : ¬ (2000 : Int) < (s.length : Int) := by omega
    simp -implicitDefEqProofs only [Tryd.f35, Zaa, Zab, Zac, Zad, Zae, Zaf, Zag, Zah, Zai, Zaj, Zak, Zal, Zam, Zan, Zao, Zap, Zaq, Zar, Zas, Zat, Zau, Zav, Zaw, Zax, Zay, Zaz, Zba, Zbb, Zbc, Zbd, Zbe, Zbf, Zbg, Zbh, Zbi, Zbj, Zbk, Zbl, Zbm, Zbn, Zbo, Zbp, Zbq, Zbr, Zbs, Zbt, Zbu, Zbv, Zbw, Zbx, Zby, Zbz, Zca, Zcb, Zcc, Zcd, Zce, Zcf, Zcg, evalT, Zch, Nat.reduceLT, Nat.reduceEqDiff, if_true, if_false, reduceIte, true_and, Zci, Zcj, map_ite', Zck, bind_ite', Zcl, Zcm, Zcn, Zco, Zcp, Zcq, Zcr, Zcs, Zct, Zcu, Zcv, Zcw, Zcx, Zcy, Zcz, Zda, Zdb, Zdc, Zdd, Zde, Zdf, Zdg, ofVal, ofCell, argT, List.getD_cons_zero, List.getD_cons_succ, List.getElem?_toArray, List.getElem?_cons_zero, List.getElem?_cons_succ, List.nil_append, List.cons_append, List.append_nil, resT, Zdh, Zdi, Nat.mul_one, Zdj, Zdk, Zdl, Zdm, Zdn, Zdo, Zdp, Zdq, Zdr, Zds, Zdt, setT, Zdu, Zdv, Zdw, Zdx, Zdy, List.append_eq, Zdz, Zea, Zeb, Zec, Zed, Zee, Zef, Zeg, Zeh, Nat.add_zero, Zei, Zej, Zek, Zel, Zem, Zen, Int.toNat_natCast, Bool.false_eq_true, Int.reduceEq, Int.reduceLT, Int.reduceLE, Int.reduceNeg, not_false_eq_true, and_self, Zeo, Zep, Int.natCast_one, Int.cast_ofNat_Int, not_true_eq_false, decide_true, decide_false, true_implies, false_implies, Int.toNat_zero, List.length_cons, List.length_nil, Nat.zero_add, mb, Nat.reduceBEq, Bool.false_and, Bool.and_false, Zeq, tys, stb, Zer, Zes, Zet, Zeu, Zev, Zew, Bool.or_false, Bool.false_or, Bool.true_and, Bool.or_true, Bool.true_or, Zex, Zey, storeList, List.take_zero, List.take_succ_cons, List.drop_zero, List.drop_succ_cons, List.drop_nil, List.all_cons, List.all_nil, List.set_cons_zero, List.set_cons_succ, cells_hsl, isCell_hsl, Nat.reduceAdd, Nat.reduceLeDiff, empty_mk, len_str, zv45, zv47, s45, s47, g1, build47, Zeg, Zdr, isCell_int, classes_call, build91, tokens74]
    refine G_range2 rfl ?_
    intro tmps lo lr hr hlo hlr
    have hY := yl35 s _ tmps lo lr hr hlo hlr rfl rfl rfl
    clear hr
    obtain ⟨v, σ2, hc, hE⟩ := tokens_call hY hl ⟨[.cells [.nilsl] 45, .cells [.int .i64 0, .int .i64 0] 47, .cells (scnL s) 91, .cells [.nilsl] 45, .cells [.ptr 2 0] 86, .defd true, lo], []⟩
      ⟨by simp, rfl, rfl, rfl, rfl, rfl, rfl, .nilsl, rfl, .nil⟩
    refine ⟨_, σ2, callFn_ev rfl rfl hc, ?_⟩
    clear hc hY hlo hlr
    unfold End97 at hE
    generalize scanP s (s.length + 1) (endW s [1] 0) (-1) [] = r at *
    obtain ⟨l, r2⟩ := r
    obtain ⟨H, ts⟩ := σ2
    cases r2 with
    | none =>
      obtain ⟨h7, p0, p1, p2, p4, p5, p6, u, p3, hg⟩ := hE
      simp only at h7 p0 p1 p2 p3 p4 p5 p6 hg
      refine .inl ⟨p6, _, rfl, ?_⟩
      generalize AObj.loop .exhausted none 35 tmps _ _ _ _ = lx
      have q0 : (H.set 6 lx)[0]? = some (.cells [.nilsl] 45) := by rw [List.getElem?_set_ne (by omega)]; exact p0
      have q1 : ∀ c, ((H.set 6 lx).set 0 c)[1]? = some (.cells [.int .i64 0, .int .i64 0] 47) := fun c => by rw [List.getElem?_set_ne (by omega), List.getElem?_set_ne (by omega)]; exact p1
      have q3 : aload env (H.set 6 lx) 45 (.ptr 3 0) = some u := ld45 (by rw [List.getElem?_set_ne (by omega)]; exact p3)
      have hv1 := hg.cells
      have hv2 := hg.cell
      simp -implicitDefEqProofs only [Zaa, Zab, Zac, Zad, Zae, Zaf, Zag, Zah, Zai, Zaj, Zak, Zal, Zam, Zan, Zao, Zap, Zaq, Zar, Zas, Zat, Zau, Zav, Zaw, Zax, Zay, Zaz, Zba, Zbb, Zbc, Zbd, Zbe, Zbf, Zbg, Zbh, Zbi, Zbj, Zbk, Zbl, Zbm, Zbn, Zbo, Zbp, Zbq, Zbr, Zbs, Zbt, Zbu, Zbv, Zbw, Zbx, Zby, Zbz, Zca, Zcb, Zcc, Zcd, Zce, Zcf, Zcg, evalT, Zch, Nat.reduceLT, Nat.reduceEqDiff, if_true, if_false, reduceIte, true_and, Zci, Zcj, map_ite', Zck, bind_ite', Zcl, Zcm, Zcn, Zco, Zcp, Zcq, Zcr, Zcs, Zct, Zcu, Zcv, Zcw, Zcx, Zcy, Zcz, Zda, Zdb, Zdc, Zdd, Zde, Zdf, Zdg, ofVal, ofCell, argT, List.getD_cons_zero, List.getD_cons_succ, List.getElem?_toArray, List.getElem?_cons_zero, List.getElem?_cons_succ, List.nil_append, List.cons_append, List.append_nil, resT, Zdh, Zdi, Nat.mul_one, Zdj, Zdk, Zdl, Zdm, Zdn, Zdo, Zdp, Zdq, Zdr, Zds, Zdt, setT, Zdu, Zdv, Zdw, Zdx, Zdy, List.append_eq, Zdz, Zea, Zeb, Zec, Zed, Zee, Zef, Zeg, Zeh, Nat.add_zero, Zei, Zej, Zek, Zel, Zem, Zen, Int.toNat_natCast, Bool.false_eq_true, Int.reduceEq, Int.reduceLT, Int.reduceLE, Int.reduceNeg, not_false_eq_true, and_self, Zeo, Zep, Int.natCast_one, Int.cast_ofNat_Int, not_true_eq_false, decide_true, decide_false, true_implies, false_implies, Int.toNat_zero, List.length_cons, List.length_nil, Nat.zero_add, mb, Nat.reduceBEq, Bool.false_and, Bool.and_false, Zeq, tys, stb, Zer, Zes, Zet, Zeu, Zev, Zew, Bool.or_false, Bool.false_or, Bool.true_and, Bool.or_true, Bool.true_or, Zex, Zey, storeList, List.take_zero, List.take_succ_cons, List.drop_zero, List.drop_succ_cons, List.drop_nil, List.all_cons, List.all_nil, List.set_cons_zero, List.set_cons_succ, cells_hsl, isCell_hsl, Nat.reduceAdd, Nat.reduceLeDiff, q0, q1, q3, s45, s47, build470, Zeg, isCell_int, hv1, hv2]
      have q5 : (((H.set 6 lx).set 0 (AObj.cells [u] 45)).set 1 (AObj.cells [V.int IntKind.i64 0, V.int IntKind.i64 0] 47))[5]? = some (.defd true) := by
        rw [List.getElem?_set_ne (by omega), List.getElem?_set_ne (by omega), List.getElem?_set_ne (by omega)]; exact p5
      have z0 : ∀ d, aload env ((((H.set 6 lx).set 0 (AObj.cells [u] 45)).set 1 (AObj.cells [V.int IntKind.i64 0, V.int IntKind.i64 0] 47)).set 5 d) 45 (.ptr 0 0) = some u := fun d => ld45 (by
        rw [List.getElem?_set_ne (by omega), List.getElem?_set_ne (by omega), List.getElem?_set_self (by simp; omega)])
      have z1 : ∀ d, aload env ((((H.set 6 lx).set 0 (AObj.cells [u] 45)).set 1 (AObj.cells [V.int IntKind.i64 0, V.int IntKind.i64 0] 47)).set 5 d) 47 (.ptr 1 0) = some (.agg [.int .i64 0, .int .i64 0]) := fun d => ld47 (by
        rw [List.getElem?_set_ne (by omega), List.getElem?_set_self (by simp; omega)])
      simp -implicitDefEqProofs only [Zaa, Zab, Zac, Zad, Zae, Zaf, Zag, Zah, Zai, Zaj, Zak, Zal, Zam, Zan, Zao, Zap, Zaq, Zar, Zas, Zat, Zau, Zav, Zaw, Zax, Zay, Zaz, Zba, Zbb, Zbc, Zbd, Zbe, Zbf, Zbg, Zbh, Zbi, Zbj, Zbk, Zbl, Zbm, Zbn, Zbo, Zbp, Zbq, Zbr, Zbs, Zbt, Zbu, Zbv, Zbw, Zbx, Zby, Zbz, Zca, Zcb, Zcc, Zcd, Zce, Zcf, Zcg, evalT, Zch, Nat.reduceLT, Nat.reduceEqDiff, if_true, if_false, reduceIte, true_and, Zci, Zcj, map_ite', Zck, bind_ite', Zcl, Zcm, Zcn, Zco, Zcp, Zcq, Zcr, Zcs, Zct, Zcu, Zcv, Zcw, Zcx, Zcy, Zcz, Zda, Zdb, Zdc, Zdd, Zde, Zdf, Zdg, ofVal, ofCell, argT, List.getD_cons_zero, List.getD_cons_succ, List.getElem?_toArray, List.getElem?_cons_zero, List.getElem?_cons_succ, List.nil_append, List.cons_append, List.append_nil, resT, Zdh, Zdi, Nat.mul_one, Zdj, Zdk, Zdl, Zdm, Zdn, Zdo, Zdp, Zdq, Zdr, Zds, Zdt, setT, Zdu, Zdv, Zdw, Zdx, Zdy, List.append_eq, Zdz, Zea, Zeb, Zec, Zed, Zee, Zef, Zeg, Zeh, Nat.add_zero, Zei, Zej, Zek, Zel, Zem, Zen, Int.toNat_natCast, Bool.false_eq_true, Int.reduceEq, Int.reduceLT, Int.reduceLE, Int.reduceNeg, not_false_eq_true, and_self, Zeo, Zep, Int.natCast_one, Int.cast_ofNat_Int, not_true_eq_false, decide_true, decide_false, true_implies, false_implies, Int.toNat_zero, List.length_cons, List.length_nil, Nat.zero_add, mb, Nat.reduceBEq, Bool.false_and, Bool.and_false, Zeq, tys, stb, Zer, Zes, Zet, Zeu, Zev, Zew, Bool.or_false, Bool.false_or, Bool.true_and, Bool.or_true, Bool.true_or, Zex, Zey, wpR, takeDfs, q5, Nat.reduceAdd, z0, z1]
      simp only [oneOr, sealDepth, sealV_tup, sealV_agg, mapM_seal_cons, mapM_seal_nil, sealV_int, seal_T hg, Option.bind_some, Option.map_some]
    | some xi =>
      obtain ⟨x, i⟩ := xi
      obtain ⟨h7, p0, p1, p5, p6⟩ := hE
      simp only at h7 p0 p1 p5 p6
      refine .inr ⟨p6, _, rfl, ?_⟩
      generalize AObj.loop .exhausted _ 35 tmps _ _ _ _ = lx
      have q0 : aload env (H.set 6 lx) 45 (.ptr 0 0) = some .nilsl := ld45 (by rw [List.getElem?_set_ne (by omega)]; exact p0)
      have q1 : aload env (H.set 6 lx) 47 (.ptr 1 0) = some (.agg [.int .i64 x, .int .i64 i]) := ld47 (by rw [List.getElem?_set_ne (by omega)]; exact p1)
      have q5 : (H.set 6 lx)[5]? = some (.defd true) := by rw [List.getElem?_set_ne (by omega)]; exact p5
      have z0 : ∀ d, aload env ((H.set 6 lx).set 5 d) 45 (.ptr 0 0) = some .nilsl := fun d => ld45 (by rw [List.getElem?_set_ne (by omega), List.getElem?_set_ne (by omega)]; exact p0)
      have z1 : ∀ d, aload env ((H.set 6 lx).set 5 d) 47 (.ptr 1 0) = some (.agg [.int .i64 x, .int .i64 i]) := fun d => ld47 (by rw [List.getElem?_set_ne (by omega), List.getElem?_set_ne (by omega)]; exact p1)
      simp -implicitDefEqProofs only [Zaa, Zab, Zac, Zad, Zae, Zaf, Zag, Zah, Zai, Zaj, Zak, Zal, Zam, Zan, Zao, Zap, Zaq, Zar, Zas, Zat, Zau, Zav, Zaw, Zax, Zay, Zaz, Zba, Zbb, Zbc, Zbd, Zbe, Zbf, Zbg, Zbh, Zbi, Zbj, Zbk, Zbl, Zbm, Zbn, Zbo, Zbp, Zbq, Zbr, Zbs, Zbt, Zbu, Zbv, Zbw, Zbx, Zby, Zbz, Zca, Zcb, Zcc, Zcd, Zce, Zcf, Zcg, evalT, Zch, Nat.reduceLT, Nat.reduceEqDiff, if_true, if_false, reduceIte, true_and, Zci, Zcj, map_ite', Zck, bind_ite', Zcl, Zcm, Zcn, Zco, Zcp, Zcq, Zcr, Zcs, Zct, Zcu, Zcv, Zcw, Zcx, Zcy, Zcz, Zda, Zdb, Zdc, Zdd, Zde, Zdf, Zdg, ofVal, ofCell, argT, List.getD_cons_zero, List.getD_cons_succ, List.getElem?_toArray, List.getElem?_cons_zero, List.getElem?_cons_succ, List.nil_append, List.cons_append, List.append_nil, resT, Zdh, Zdi, Nat.mul_one, Zdj, Zdk, Zdl, Zdm, Zdn, Zdo, Zdp, Zdq, Zdr, Zds, Zdt, setT, Zdu, Zdv, Zdw, Zdx, Zdy, List.append_eq, Zdz, Zea, Zeb, Zec, Zed, Zee, Zef, Zeg, Zeh, Nat.add_zero, Zei, Zej, Zek, Zel, Zem, Zen, Int.toNat_natCast, Bool.false_eq_true, Int.reduceEq, Int.reduceLT, Int.reduceLE, Int.reduceNeg, not_false_eq_true, and_self, Zeo, Zep, Int.natCast_one, Int.cast_ofNat_Int, not_true_eq_false, decide_true, decide_false, true_implies, false_implies, Int.toNat_zero, List.length_cons, List.length_nil, Nat.zero_add, mb, Nat.reduceBEq, Bool.false_and, Bool.and_false, Zeq, tys, stb, Zer, Zes, Zet, Zeu, Zev, Zew, Bool.or_false, Bool.false_or, Bool.true_and, Bool.or_true, Bool.true_or, Zex, Zey, wpR, takeDfs, q5, Nat.reduceAdd, z0, z1]
      rfl

end Go.Proofs.YtbikmhpobflfeaaDoor