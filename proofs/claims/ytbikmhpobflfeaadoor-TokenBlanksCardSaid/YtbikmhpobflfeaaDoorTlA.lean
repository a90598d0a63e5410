/- Proved here: that what is joined is read again. Conditions: those of each theorem; no statement of the seat is proved in this text. -/
import Derived.Test.YtbikmhpobflfeaaDoorTkB
namespace Go.Proofs.YtbikmhpobflfeaaDoor
open Go.Ab
set_option maxRecDepth 100000
set_option linter.unusedSimpArgs false
set_option linter.unusedVariables false
theorem cls_digit (c : Nat) : clsN c ∈ ([3] : List Int) ↔ (48 ≤ c ∧ c ≤ 57) := by
  unfold clsN
  by_cases h1 : 97 ≤ c ∧ c ≤ 122
  · simp [h1]; omega
  by_cases h2 : 48 ≤ c ∧ c ≤ 57
  · simp [h1, h2]
  by_cases h3 : c = 32
  · subst h3; simp
  by_cases h4 : c = 95
  · subst h4; simp
  by_cases h5 : c = 39
  · subst h5; simp
  simp [h1, h2, h3, h4, h5]
theorem signs_short : ∀ w ∈ signsW, 1 ≤ w.length ∧ w.length ≤ 2 := by
  have h : (signsW.all fun w => Nat.ble 1 w.length && Nat.ble w.length 2) = true := by kernel_rfl
  intro w hw
  have := List.all_eq_true.1 h w hw
  simp only [Bool.and_eq_true, Nat.ble_eq] at this
  exact this
theorem cls2 (c : Nat) : clsN c = 2 ↔ (97 ≤ c ∧ c ≤ 122) := by
  unfold clsN
  by_cases h1 : 97 ≤ c ∧ c ≤ 122
  · simp [h1]
  by_cases h2 : 48 ≤ c ∧ c ≤ 57
  · simp [h1, h2]
  by_cases h3 : c = 32
  · subst h3; simp
  by_cases h4 : c = 95
  · subst h4; simp
  by_cases h5 : c = 39
  · subst h5; simp
  simp [h1, h2, h3, h4, h5]
theorem cls3 (c : Nat) : clsN c = 3 ↔ (48 ≤ c ∧ c ≤ 57) := by
  have := cls_digit c
  rw [← this]; simp
theorem cls5 (c : Nat) : clsN c = 5 ↔ c = 39 := by
  unfold clsN
  by_cases h1 : 97 ≤ c ∧ c ≤ 122
  · simp [h1]; omega
  by_cases h2 : 48 ≤ c ∧ c ≤ 57
  · simp [h1, h2]; omega
  by_cases h3 : c = 32
  · subst h3; simp
  by_cases h4 : c = 95
  · subst h4; simp
  by_cases h5 : c = 39
  · subst h5; simp
  simp [h1, h2, h3, h4, h5]
theorem cls1 (c : Nat) : clsN c = 1 ↔ c = 32 := by
  unfold clsN
  split
  · omega
  · split
    · omega
    · split
      · omega
      · split
        · omega
        · split <;> omega
theorem eqg52 : env.P.eqGuardType env.P.depth 52 = false := by kernel_rfl
theorem eqg47 : env.P.eqGuardType env.P.depth 47 = false := by kernel_rfl
theorem eqT52 (k k' n n' p p' : Int) (x y : List UInt8) : eqT env 8 52 (.agg [.int .i64 k, .str x, .int .i64 n, .int .i64 p]) (.agg [.int .i64 k', .str y, .int .i64 n', .int .i64 p']) =
    (some (k == k')).bind fun r => if r then (some (x == y)).bind fun r => if r then (some (n == n')).bind fun r => if r then (some (p == p')).bind fun r => if r then some true else some false else some false else some false else some false := by kernel_rfl
theorem eqT47 (k k' n n' : Int) : eqT env 8 47 (.agg [.int .i64 k, .int .i64 n]) (.agg [.int .i64 k', .int .i64 n']) =
    (some (k == k')).bind fun r => if r then (some (n == n')).bind fun r => if r then some true else some false else some false := by kernel_rfl
theorem vT_agg (u : Option TypeDesc) (c : Bool) (op : BinOp) (a b : List V) : vBinT u c op (.agg a) (.agg b) = none := by
  cases op <;> cases u <;> first | rfl | (rename_i u; cases u <;> rfl)
theorem bin_agg (t : TypeId) (c : Bool) (op : BinOp) (a b : List V) : binO env t c op (some (.agg a)) (some (.agg b)) = vBinA env t op (.agg a) (.agg b) := by
  have : binO env t c op (some (.agg a)) (some (.agg b)) = vBinE env t c op (.agg a) (.agg b) := rfl
  rw [this]
  unfold vBinE
  rw [vT_agg]
theorem ne52_same (c : Bool) (k n p : Int) (x : List UInt8) : binO env 52 c .neq (some (.agg [.int .i64 k, .str x, .int .i64 n, .int .i64 p])) (some (.agg [.int .i64 k, .str x, .int .i64 n, .int .i64 p])) = some (.bool false) := by
  rw [bin_agg]
  simp only [vBinA, eqg52, eqT52]
  simp
theorem eq47 (c : Bool) (k n k' n' : Int) : binO env 47 c .eql (some (.agg [.int .i64 k, .int .i64 n])) (some (.agg [.int .i64 k', .int .i64 n'])) = some (.bool (decide (k = k' ∧ n = n'))) := by
  rw [bin_agg]
  simp only [vBinA, eqg47, eqT47]
  by_cases h1 : k = k' <;> by_cases h2 : n = n' <;> simp [h1, h2]
theorem ne47 (c : Bool) (k n k' n' : Int) : binO env 47 c .neq (some (.agg [.int .i64 k, .int .i64 n])) (some (.agg [.int .i64 k', .int .i64 n'])) = some (.bool (!decide (k = k' ∧ n = n'))) := by
  rw [bin_agg]
  simp only [vBinA, eqg47, eqT47]
  by_cases h1 : k = k' <;> by_cases h2 : n = n' <;> simp [h1, h2]

end Go.Proofs.YtbikmhpobflfeaaDoor
namespace Go.Proofs.YtbikmhpobflfeaaDoor
open Go.Ab
set_option maxRecDepth 100000
set_option linter.unusedSimpArgs false
set_option linter.unusedVariables false
theorem vBin_sadd' (a b : List UInt8) : vBin .add (.str a) (.str b) = if a.length + b.length ≤ lim then some (.str (a ++ b)) else none := rfl
theorem vBin_sadd (us : Option TypeDesc) (cc : Bool) (a b : List UInt8) : vBinT us cc .add (.str a) (.str b) = if a.length + b.length ≤ lim then some (.str (a ++ b)) else none := by
  unfold vBinT
  rw [vBin_sadd']
  by_cases h : a.length + b.length ≤ lim
  · rw [if_pos h]
  · rw [if_neg h]
theorem join_call (v : V) (l : List Tok) (hv : IsT v l) (hl : l.length ≤ 1000) (ht : ∀ i, i < l.length → (l.getD i Tok.none).text.length ≤ 1000) (σ : S) : callFn env (ev env) 48 [v] σ = some (.str (joinT l l.length), σ) := by
  refine callFn_pure rfl rfl (by rw [List.all_cons, closed_T hv]; rfl) at48 rfl (by simp [Tryd.f48]) (by simp [Tryd.f48]) (G_start ?_) σ
  simp -implicitDefEqProofs only [Tryd.f48, Zaa, Zab, Zac, Zad, Zae, Zaf, Zag, Zah, Zai, Zaj, Zak, Zal, Zam, Zan, Zao, Zap, Zaq, Zar, Zas, Zat, Zau, Zav, Zaw, Zax, Zay, Zaz, Zba, Zbb, Zbc, Zbd, Zbe, Zbf, Zbg, Zbh, Zbi, Zbj, Zbk, Zbl, Zbm, Zbn, Zbo, Zbp, Zbq, Zbr, Zbs, Zbt, Zbu, Zbv, Zbw, Zbx, Zby, Zbz, Zca, Zcb, Zcc, Zcd, Zce, Zcf, Zcg, evalT, Zch, Nat.reduceLT, Nat.reduceEqDiff, if_true, if_false, reduceIte, true_and, Zci, Zcj, map_ite', Zck, bind_ite', Zcl, Zcm, Zcn, Zco, Zcp, Zcq, Zcr, Zcs, Zct, Zcu, Zcv, Zcw, Zcx, Zcy, Zcz, Zda, Zdb, Zdc, Zdd, Zde, Zdf, Zdg, ofVal, ofCell, argT, List.getD_cons_zero, List.getD_cons_succ, List.getElem?_toArray, List.getElem?_cons_zero, List.getElem?_cons_succ, List.nil_append, List.cons_append, List.append_nil, resT, Zdh, Zdi, Nat.mul_one, Zdj, Zdk, Zdl, Zdm, Zdn, Zdo, Zdp, Zdq, Zdr, Zds, Zdt, setT, Zdu, Zdv, Zdw, Zdx, Zdy, List.append_eq, Zdz, Zea, Zeb, Zec, Zed, Zee, Zef, Zeg, Zeh, Nat.add_zero, Zei, Zej, Zek, Zel, Zem, Zen, Int.toNat_natCast, Bool.false_eq_true, Int.reduceEq, Int.reduceLT, Int.reduceLE, Int.reduceNeg, not_false_eq_true, and_self, Zeo, Zep, Int.natCast_one, Int.cast_ofNat_Int, not_true_eq_false, decide_true, decide_false, true_implies, false_implies, Int.toNat_zero, List.length_cons, List.length_nil, Nat.zero_add, mb, Nat.reduceBEq, Bool.false_and, Bool.and_false, Zeq, tys, stb, Zer, Zes, Zet, Zeu, Zev, Zew, Bool.or_false, Bool.false_or, Bool.true_and, Bool.or_true, Bool.true_or, Zex, Zey, empty_mk, z110, Zeg, len_T hv]
  refine loop_rule (fun m T D σ => D = [] ∧ T 0 = v ∧ T 3 = .ptr 0 0 ∧ T 6 = v ∧ T 7 = .int .i64 l.length ∧ ∃ (i : Nat) (L : List AObj), σ = ⟨L, []⟩ ∧ T 8 = .int .i64 i ∧ i ≤ l.length ∧ m = l.length - i ∧ Bld ⟨L, []⟩ 0 (joinT l i)) ?_ _ _ _ _
    ⟨rfl, rfl, rfl, rfl, rfl, 0, _, rfl, rfl, by omega, rfl, ⟨.nilptr, .nilsl, rfl, .inl ⟨rfl, rfl⟩, .inl ⟨rfl, rfl⟩⟩⟩
  rintro m T D σ ⟨rfl, t0, t3, t6, t7, i, L, rfl, t8, hi, rfl, hB⟩
  refine G_start ?_
  by_cases hlt : i < l.length
  · have c1 : (i : Int) < (l.length : Int) := by omega
    have e1 : IntKind.i64.wrap ((i : Int) + 1) = ((i + 1 : Nat) : Int) := by rw [wrap_i64 (by omega) (by omega)]; omega
    have hx := idx_T hv hlt
    have hlen := joinT_len l ht i (by omega)
    have htx := ht i hlt
    have hB1 := hB.app (.cells [.int .i64 (l.getD i Tok.none).kind, .str (l.getD i Tok.none).text, .int .i64 (l.getD i Tok.none).n, .int .i64 (l.getD i Tok.none).pos] 52)
    -- what is written behind the blank
    have key : ∀ (s0 : List UInt8) (L1 : List AObj), s0.length ≤ 1003 * i + 1 → Bld ⟨L1, []⟩ 0 s0 → joinT l (i + 1) = s0 ++ piece (l.getD i Tok.none) →
        ((l.getD i Tok.none).kind = 4 → ∃ L2, callFn env (ev env) 83 [.ptr 0 0, .str (39 :: ((l.getD i Tok.none).text ++ [39]))] ⟨L1, []⟩ = some (.tup [.int .i64 (39 :: ((l.getD i Tok.none).text ++ [39])).length, .nilif], ⟨L2, []⟩) ∧ Bld ⟨L2, []⟩ 0 (joinT l (i + 1))) ∧
        (¬ (l.getD i Tok.none).kind = 4 → ∃ L2, callFn env (ev env) 83 [.ptr 0 0, .str (l.getD i Tok.none).text] ⟨L1, []⟩ = some (.tup [.int .i64 (l.getD i Tok.none).text.length, .nilif], ⟨L2, []⟩) ∧ Bld ⟨L2, []⟩ 0 (joinT l (i + 1))) := by
      intro s0 L1 h1 h2 h3
      constructor
      · intro hk
        obtain ⟨L2, g1, g2, _⟩ := wstr_call L1 [] 0 s0 (39 :: ((l.getD i Tok.none).text ++ [39])) h2 (by simp only [List.length_append, List.length_cons, List.length_nil]; omega)
        refine ⟨L2, g1, ?_⟩
        rw [h3]; simpa only [piece, hk, if_true] using g2
      · intro hk
        obtain ⟨L2, g1, g2, _⟩ := wstr_call L1 [] 0 s0 (l.getD i Tok.none).text h2 (by omega)
        refine ⟨L2, g1, ?_⟩
        rw [h3]; simpa only [piece, hk, if_false] using g2
    have fin : ∀ (L2 : List AObj), Bld ⟨L2, []⟩ 0 (joinT l (i + 1)) → ∃ m', m' < l.length - i ∧ ∃ (i' : Nat) (L' : List AObj), (⟨L2, []⟩ : S) = ⟨L', []⟩ ∧ V.int IntKind.i64 ((i + 1 : Nat) : Int) = V.int .i64 (i' : Nat) ∧ i' ≤ l.length ∧ m' = l.length - i' ∧ Bld ⟨L', []⟩ 0 (joinT l i') :=
      fun L2 h => ⟨l.length - (i + 1), by omega, i + 1, L2, rfl, rfl, by omega, rfl, h⟩
    have lim1 : 1 + (l.getD i Tok.none).text.length ≤ lim := by simp only [lim]; omega
    have lim2 : (l.getD i Tok.none).text.length + 1 + 1 ≤ lim := by simp only [lim]; omega
    have hq : ∀ (X : List AObj), (X ++ [AObj.cells [.int .i64 (l.getD i Tok.none).kind, .str (l.getD i Tok.none).text, .int .i64 (l.getD i Tok.none).n, .int .i64 (l.getD i Tok.none).pos] 52])[X.length]? = some (.cells [.int .i64 (l.getD i Tok.none).kind, .str (l.getD i Tok.none).text, .int .i64 (l.getD i Tok.none).n, .int .i64 (l.getD i Tok.none).pos] 52) := fun X => heap_end _ _
    by_cases h0 : (0 : Int) < (i : Int)
    case neg =>
      have hi0 : i = 0 := by omega
      have hj : joinT l (i + 1) = joinT l i ++ piece (l.getD i Tok.none) := by
        simp only [joinT]; rw [if_neg (by omega)]; simp
      obtain ⟨k1, k2⟩ := key (joinT l i) _ (by omega) hB1 hj
      by_cases hk : (l.getD i Tok.none).kind = 4
      · obtain ⟨L2, g1, g2⟩ := k1 hk
        simp -implicitDefEqProofs only [Zaa, Zab, Zac, Zad, Zae, Zaf, Zag, Zah, Zai, Zaj, Zak, Zal, Zam, Zan, Zao, Zap, Zaq, Zar, Zas, Zat, Zau, Zav, Zaw, Zax, Zay, Zaz, Zba, Zbb, Zbc, Zbd, Zbe, Zbf, Zbg, Zbh, Zbi, Zbj, Zbk, Zbl, Zbm, Zbn, Zbo, Zbp, Zbq, Zbr, Zbs, Zbt, Zbu, Zbv, Zbw, Zbx, Zby, Zbz, Zca, Zcb, Zcc, Zcd, Zce, Zcf, Zcg, evalT, Zch, Nat.reduceLT, Nat.reduceEqDiff, if_true, if_false, reduceIte, true_and, Zci, Zcj, map_ite', Zck, bind_ite', Zcl, Zcm, Zcn, Zco, Zcp, Zcq, Zcr, Zcs, Zct, Zcu, Zcv, Zcw, Zcx, Zcy, Zcz, Zda, Zdb, Zdc, Zdd, Zde, Zdf, Zdg, ofVal, ofCell, argT, List.getD_cons_zero, List.getD_cons_succ, List.getElem?_toArray, List.getElem?_cons_zero, List.getElem?_cons_succ, List.nil_append, List.cons_append, List.append_nil, resT, Zdh, Zdi, Nat.mul_one, Zdj, Zdk, Zdl, Zdm, Zdn, Zdo, Zdp, Zdq, Zdr, Zds, Zdt, setT, Zdu, Zdv, Zdw, Zdx, Zdy, List.append_eq, Zdz, Zea, Zeb, Zec, Zed, Zee, Zef, Zeg, Zeh, Nat.add_zero, Zei, Zej, Zek, Zel, Zem, Zen, Int.toNat_natCast, Bool.false_eq_true, Int.reduceEq, Int.reduceLT, Int.reduceLE, Int.reduceNeg, not_false_eq_true, and_self, Zeo, Zep, Int.natCast_one, Int.cast_ofNat_Int, not_true_eq_false, decide_true, decide_false, true_implies, false_implies, Int.toNat_zero, List.length_cons, List.length_nil, Nat.zero_add, mb, Nat.reduceBEq, Bool.false_and, Bool.and_false, Zeq, tys, stb, Zer, Zes, Zet, Zeu, Zev, Zew, Bool.or_false, Bool.false_or, Bool.true_and, Bool.or_true, Bool.true_or, Zex, Zey, t0, t3, t6, t7, t8, c1, e1, hx, agg52, load4_rptr, load4_ptr (heap_end _ _), z52, heap_end, set_end, storeList, List.take_zero, List.drop_zero, List.drop_succ_cons, List.drop_nil, List.all_cons, List.all_nil, isCell_str, isCell_int, Zeg, Nat.reduceAdd, Nat.reduceLeDiff, eq_true hk, vBin_sadd, lim1, lim2, g1, h0]
        exact fin L2 g2
      · obtain ⟨L2, g1, g2⟩ := k2 hk
        simp -implicitDefEqProofs only [Zaa, Zab, Zac, Zad, Zae, Zaf, Zag, Zah, Zai, Zaj, Zak, Zal, Zam, Zan, Zao, Zap, Zaq, Zar, Zas, Zat, Zau, Zav, Zaw, Zax, Zay, Zaz, Zba, Zbb, Zbc, Zbd, Zbe, Zbf, Zbg, Zbh, Zbi, Zbj, Zbk, Zbl, Zbm, Zbn, Zbo, Zbp, Zbq, Zbr, Zbs, Zbt, Zbu, Zbv, Zbw, Zbx, Zby, Zbz, Zca, Zcb, Zcc, Zcd, Zce, Zcf, Zcg, evalT, Zch, Nat.reduceLT, Nat.reduceEqDiff, if_true, if_false, reduceIte, true_and, Zci, Zcj, map_ite', Zck, bind_ite', Zcl, Zcm, Zcn, Zco, Zcp, Zcq, Zcr, Zcs, Zct, Zcu, Zcv, Zcw, Zcx, Zcy, Zcz, Zda, Zdb, Zdc, Zdd, Zde, Zdf, Zdg, ofVal, ofCell, argT, List.getD_cons_zero, List.getD_cons_succ, List.getElem?_toArray, List.getElem?_cons_zero, List.getElem?_cons_succ, List.nil_append, List.cons_append, List.append_nil, resT, Zdh, Zdi, Nat.mul_one, Zdj, Zdk, Zdl, Zdm, Zdn, Zdo, Zdp, Zdq, Zdr, Zds, Zdt, setT, Zdu, Zdv, Zdw, Zdx, Zdy, List.append_eq, Zdz, Zea, Zeb, Zec, Zed, Zee, Zef, Zeg, Zeh, Nat.add_zero, Zei, Zej, Zek, Zel, Zem, Zen, Int.toNat_natCast, Bool.false_eq_true, Int.reduceEq, Int.reduceLT, Int.reduceLE, Int.reduceNeg, not_false_eq_true, and_self, Zeo, Zep, Int.natCast_one, Int.cast_ofNat_Int, not_true_eq_false, decide_true, decide_false, true_implies, false_implies, Int.toNat_zero, List.length_cons, List.length_nil, Nat.zero_add, mb, Nat.reduceBEq, Bool.false_and, Bool.and_false, Zeq, tys, stb, Zer, Zes, Zet, Zeu, Zev, Zew, Bool.or_false, Bool.false_or, Bool.true_and, Bool.or_true, Bool.true_or, Zex, Zey, t0, t3, t6, t7, t8, c1, e1, hx, agg52, load4_rptr, load4_ptr (heap_end _ _), z52, heap_end, set_end, storeList, List.take_zero, List.drop_zero, List.drop_succ_cons, List.drop_nil, List.all_cons, List.all_nil, isCell_str, isCell_int, Zeg, Nat.reduceAdd, Nat.reduceLeDiff, eq_false hk, g1, h0]
        exact fin L2 g2
    have hi1 : i - 1 < l.length := by omega
    have hy := idx_T hv hi1
    have e0 : IntKind.i64.wrap ((i : Int) - 1) = ((i - 1 : Nat) : Int) := by rw [wrap_i64 (by omega) (by omega)]; omega
    have r1 : rowO env 24 4 [(0, .str [40]), (1, .str [91]), (2, .str [47]), (3, .str [46, 46])] = some (.row (L1.map V.str) L1.length .full) := by kernel_rfl
    have r2 : rowO env 24 5 [(0, .str [41]), (1, .str [93]), (2, .str [44]), (3, .str [47]), (4, .str [46, 46])] = some (.row (L2.map V.str) L2.length .full) := by kernel_rfl
    have hS1 := sign_call (l.getD (i - 1) Tok.none) L1 .full (fun _ _ _ h => by cases h) (by decide)
    have hS2 := sign_call (l.getD i Tok.none) L2 .full (fun _ _ _ h => by cases h) (by decide)
    have hjn : Tight (l.getD (i - 1) Tok.none) (l.getD i Tok.none) → joinT l (i + 1) = joinT l i ++ piece (l.getD i Tok.none) := fun h => by
      simp only [joinT]; rw [if_neg (fun q => q.2 h)]; simp
    have hjb : ¬ Tight (l.getD (i - 1) Tok.none) (l.getD i Tok.none) → joinT l (i + 1) = (joinT l i ++ [32]) ++ piece (l.getD i Tok.none) := fun h => by
      simp only [joinT]; rw [if_pos ⟨by omega, h⟩]
    by_cases hA : Lft (l.getD (i - 1) Tok.none)
    · have hd : decide ((l.getD (i - 1) Tok.none).kind = 5 ∧ (l.getD (i - 1) Tok.none).text ∈ L1) = true := decide_eq_true hA
      rw [hd] at hS1
      obtain ⟨k1, k2⟩ := key (joinT l i) _ (by omega) hB1 (hjn (.inl hA))
      by_cases hk : (l.getD i Tok.none).kind = 4
      · obtain ⟨L2, g1, g2⟩ := k1 hk
        simp -implicitDefEqProofs only [Zaa, Zab, Zac, Zad, Zae, Zaf, Zag, Zah, Zai, Zaj, Zak, Zal, Zam, Zan, Zao, Zap, Zaq, Zar, Zas, Zat, Zau, Zav, Zaw, Zax, Zay, Zaz, Zba, Zbb, Zbc, Zbd, Zbe, Zbf, Zbg, Zbh, Zbi, Zbj, Zbk, Zbl, Zbm, Zbn, Zbo, Zbp, Zbq, Zbr, Zbs, Zbt, Zbu, Zbv, Zbw, Zbx, Zby, Zbz, Zca, Zcb, Zcc, Zcd, Zce, Zcf, Zcg, evalT, Zch, Nat.reduceLT, Nat.reduceEqDiff, if_true, if_false, reduceIte, true_and, Zci, Zcj, map_ite', Zck, bind_ite', Zcl, Zcm, Zcn, Zco, Zcp, Zcq, Zcr, Zcs, Zct, Zcu, Zcv, Zcw, Zcx, Zcy, Zcz, Zda, Zdb, Zdc, Zdd, Zde, Zdf, Zdg, ofVal, ofCell, argT, List.getD_cons_zero, List.getD_cons_succ, List.getElem?_toArray, List.getElem?_cons_zero, List.getElem?_cons_succ, List.nil_append, List.cons_append, List.append_nil, resT, Zdh, Zdi, Nat.mul_one, Zdj, Zdk, Zdl, Zdm, Zdn, Zdo, Zdp, Zdq, Zdr, Zds, Zdt, setT, Zdu, Zdv, Zdw, Zdx, Zdy, List.append_eq, Zdz, Zea, Zeb, Zec, Zed, Zee, Zef, Zeg, Zeh, Nat.add_zero, Zei, Zej, Zek, Zel, Zem, Zen, Int.toNat_natCast, Bool.false_eq_true, Int.reduceEq, Int.reduceLT, Int.reduceLE, Int.reduceNeg, not_false_eq_true, and_self, Zeo, Zep, Int.natCast_one, Int.cast_ofNat_Int, not_true_eq_false, decide_true, decide_false, true_implies, false_implies, Int.toNat_zero, List.length_cons, List.length_nil, Nat.zero_add, mb, Nat.reduceBEq, Bool.false_and, Bool.and_false, Zeq, tys, stb, Zer, Zes, Zet, Zeu, Zev, Zew, Bool.or_false, Bool.false_or, Bool.true_and, Bool.or_true, Bool.true_or, Zex, Zey, t0, t3, t6, t7, t8, c1, e1, hx, agg52, load4_rptr, load4_ptr (heap_end _ _), z52, heap_end, set_end, storeList, List.take_zero, List.drop_zero, List.drop_succ_cons, List.drop_nil, List.all_cons, List.all_nil, isCell_str, isCell_int, Zeg, Nat.reduceAdd, Nat.reduceLeDiff, eq_true hk, vBin_sadd, lim1, lim2, g1, h0, e0, hy, opT_rowO, r1, hS1]
        exact fin L2 g2
      · obtain ⟨L2, g1, g2⟩ := k2 hk
        simp -implicitDefEqProofs only [Zaa, Zab, Zac, Zad, Zae, Zaf, Zag, Zah, Zai, Zaj, Zak, Zal, Zam, Zan, Zao, Zap, Zaq, Zar, Zas, Zat, Zau, Zav, Zaw, Zax, Zay, Zaz, Zba, Zbb, Zbc, Zbd, Zbe, Zbf, Zbg, Zbh, Zbi, Zbj, Zbk, Zbl, Zbm, Zbn, Zbo, Zbp, Zbq, Zbr, Zbs, Zbt, Zbu, Zbv, Zbw, Zbx, Zby, Zbz, Zca, Zcb, Zcc, Zcd, Zce, Zcf, Zcg, evalT, Zch, Nat.reduceLT, Nat.reduceEqDiff, if_true, if_false, reduceIte, true_and, Zci, Zcj, map_ite', Zck, bind_ite', Zcl, Zcm, Zcn, Zco, Zcp, Zcq, Zcr, Zcs, Zct, Zcu, Zcv, Zcw, Zcx, Zcy, Zcz, Zda, Zdb, Zdc, Zdd, Zde, Zdf, Zdg, ofVal, ofCell, argT, List.getD_cons_zero, List.getD_cons_succ, List.getElem?_toArray, List.getElem?_cons_zero, List.getElem?_cons_succ, List.nil_append, List.cons_append, List.append_nil, resT, Zdh, Zdi, Nat.mul_one, Zdj, Zdk, Zdl, Zdm, Zdn, Zdo, Zdp, Zdq, Zdr, Zds, Zdt, setT, Zdu, Zdv, Zdw, Zdx, Zdy, List.append_eq, Zdz, Zea, Zeb, Zec, Zed, Zee, Zef, Zeg, Zeh, Nat.add_zero, Zei, Zej, Zek, Zel, Zem, Zen, Int.toNat_natCast, Bool.false_eq_true, Int.reduceEq, Int.reduceLT, Int.reduceLE, Int.reduceNeg, not_false_eq_true, and_self, Zeo, Zep, Int.natCast_one, Int.cast_ofNat_Int, not_true_eq_false, decide_true, decide_false, true_implies, false_implies, Int.toNat_zero, List.length_cons, List.length_nil, Nat.zero_add, mb, Nat.reduceBEq, Bool.false_and, Bool.and_false, Zeq, tys, stb, Zer, Zes, Zet, Zeu, Zev, Zew, Bool.or_false, Bool.false_or, Bool.true_and, Bool.or_true, Bool.true_or, Zex, Zey, t0, t3, t6, t7, t8, c1, e1, hx, agg52, load4_rptr, load4_ptr (heap_end _ _), z52, heap_end, set_end, storeList, List.take_zero, List.drop_zero, List.drop_succ_cons, List.drop_nil, List.all_cons, List.all_nil, isCell_str, isCell_int, Zeg, Nat.reduceAdd, Nat.reduceLeDiff, eq_false hk, g1, h0, e0, hy, opT_rowO, r1, hS1]
        exact fin L2 g2
    have hd : decide ((l.getD (i - 1) Tok.none).kind = 5 ∧ (l.getD (i - 1) Tok.none).text ∈ L1) = false := decide_eq_false hA
    rw [hd] at hS1
    by_cases hB : Rgt (l.getD i Tok.none)
    · have hd2 : decide ((l.getD i Tok.none).kind = 5 ∧ (l.getD i Tok.none).text ∈ L2) = true := decide_eq_true hB
      rw [hd2] at hS2
      obtain ⟨k1, k2⟩ := key (joinT l i) _ (by omega) hB1 (hjn (.inr hB))
      by_cases hk : (l.getD i Tok.none).kind = 4
      · obtain ⟨L2, g1, g2⟩ := k1 hk
        simp -implicitDefEqProofs only [Zaa, Zab, Zac, Zad, Zae, Zaf, Zag, Zah, Zai, Zaj, Zak, Zal, Zam, Zan, Zao, Zap, Zaq, Zar, Zas, Zat, Zau, Zav, Zaw, Zax, Zay, Zaz, Zba, Zbb, Zbc, Zbd, Zbe, Zbf, Zbg, Zbh, Zbi, Zbj, Zbk, Zbl, Zbm, Zbn, Zbo, Zbp, Zbq, Zbr, Zbs, Zbt, Zbu, Zbv, Zbw, Zbx, Zby, Zbz, Zca, Zcb, Zcc, Zcd, Zce, Zcf, Zcg, evalT, Zch, Nat.reduceLT, Nat.reduceEqDiff, if_true, if_false, reduceIte, true_and, Zci, Zcj, map_ite', Zck, bind_ite', Zcl, Zcm, Zcn, Zco, Zcp, Zcq, Zcr, Zcs, Zct, Zcu, Zcv, Zcw, Zcx, Zcy, Zcz, Zda, Zdb, Zdc, Zdd, Zde, Zdf, Zdg, ofVal, ofCell, argT, List.getD_cons_zero, List.getD_cons_succ, List.getElem?_toArray, List.getElem?_cons_zero, List.getElem?_cons_succ, List.nil_append, List.cons_append, List.append_nil, resT, Zdh, Zdi, Nat.mul_one, Zdj, Zdk, Zdl, Zdm, Zdn, Zdo, Zdp, Zdq, Zdr, Zds, Zdt, setT, Zdu, Zdv, Zdw, Zdx, Zdy, List.append_eq, Zdz, Zea, Zeb, Zec, Zed, Zee, Zef, Zeg, Zeh, Nat.add_zero, Zei, Zej, Zek, Zel, Zem, Zen, Int.toNat_natCast, Bool.false_eq_true, Int.reduceEq, Int.reduceLT, Int.reduceLE, Int.reduceNeg, not_false_eq_true, and_self, Zeo, Zep, Int.natCast_one, Int.cast_ofNat_Int, not_true_eq_false, decide_true, decide_false, true_implies, false_implies, Int.toNat_zero, List.length_cons, List.length_nil, Nat.zero_add, mb, Nat.reduceBEq, Bool.false_and, Bool.and_false, Zeq, tys, stb, Zer, Zes, Zet, Zeu, Zev, Zew, Bool.or_false, Bool.false_or, Bool.true_and, Bool.or_true, Bool.true_or, Zex, Zey, t0, t3, t6, t7, t8, c1, e1, hx, agg52, load4_rptr, load4_ptr (heap_end _ _), z52, heap_end, set_end, storeList, List.take_zero, List.drop_zero, List.drop_succ_cons, List.drop_nil, List.all_cons, List.all_nil, isCell_str, isCell_int, Zeg, Nat.reduceAdd, Nat.reduceLeDiff, eq_true hk, vBin_sadd, lim1, lim2, g1, h0, e0, hy, opT_rowO, r1, hS1, r2, hS2]
        exact fin L2 g2
      · obtain ⟨L2, g1, g2⟩ := k2 hk
        simp -implicitDefEqProofs only [Zaa, Zab, Zac, Zad, Zae, Zaf, Zag, Zah, Zai, Zaj, Zak, Zal, Zam, Zan, Zao, Zap, Zaq, Zar, Zas, Zat, Zau, Zav, Zaw, Zax, Zay, Zaz, Zba, Zbb, Zbc, Zbd, Zbe, Zbf, Zbg, Zbh, Zbi, Zbj, Zbk, Zbl, Zbm, Zbn, Zbo, Zbp, Zbq, Zbr, Zbs, Zbt, Zbu, Zbv, Zbw, Zbx, Zby, Zbz, Zca, Zcb, Zcc, Zcd, Zce, Zcf, Zcg, evalT, Zch, Nat.reduceLT, Nat.reduceEqDiff, if_true, if_false, reduceIte, true_and, Zci, Zcj, map_ite', Zck, bind_ite', Zcl, Zcm, Zcn, Zco, Zcp, Zcq, Zcr, Zcs, Zct, Zcu, Zcv, Zcw, Zcx, Zcy, Zcz, Zda, Zdb, Zdc, Zdd, Zde, Zdf, Zdg, ofVal, ofCell, argT, List.getD_cons_zero, List.getD_cons_succ, List.getElem?_toArray, List.getElem?_cons_zero, List.getElem?_cons_succ, List.nil_append, List.cons_append, List.append_nil, resT, Zdh, Zdi, Nat.mul_one, Zdj, Zdk, Zdl, Zdm, Zdn, Zdo, Zdp, Zdq, Zdr, Zds, Zdt, setT, Zdu, Zdv, Zdw, Zdx, Zdy, List.append_eq, Zdz, Zea, Zeb, Zec, Zed, Zee, Zef, Zeg, Zeh, Nat.add_zero, Zei, Zej, Zek, Zel, Zem, Zen, Int.toNat_natCast, Bool.false_eq_true, Int.reduceEq, Int.reduceLT, Int.reduceLE, Int.reduceNeg, not_false_eq_true, and_self, Zeo, Zep, Int.natCast_one, Int.cast_ofNat_Int, not_true_eq_false, decide_true, decide_false, true_implies, false_implies, Int.toNat_zero, List.length_cons, List.length_nil, Nat.zero_add, mb, Nat.reduceBEq, Bool.false_and, Bool.and_false, Zeq, tys, stb, Zer, Zes, Zet, Zeu, Zev, Zew, Bool.or_false, Bool.false_or, Bool.true_and, Bool.or_true, Bool.true_or, Zex, Zey, t0, t3, t6, t7, t8, c1, e1, hx, agg52, load4_rptr, load4_ptr (heap_end _ _), z52, heap_end, set_end, storeList, List.take_zero, List.drop_zero, List.drop_succ_cons, List.drop_nil, List.all_cons, List.all_nil, isCell_str, isCell_int, Zeg, Nat.reduceAdd, Nat.reduceLeDiff, eq_false hk, g1, h0, e0, hy, opT_rowO, r1, hS1, r2, hS2]
        exact fin L2 g2
    have hd2 : decide ((l.getD i Tok.none).kind = 5 ∧ (l.getD i Tok.none).text ∈ L2) = false := decide_eq_false hB
    rw [hd2] at hS2
    obtain ⟨L1', w1, w2, w3⟩ := wbyte_call _ [] 0 (joinT l i) 32 hB1 (by omega)
    change callFn env (ev env) 82 [.ptr 0 0, .int .u8 32] _ = _ at w1
    have hq := w3 L.length _ (heap_end _ _)
    simp only at hq
    obtain ⟨k1, k2⟩ := key (joinT l i ++ [32]) L1' (by simp only [List.length_append, List.length_cons, List.length_nil]; omega) w2 (hjb (fun h => h.elim hA hB))
    by_cases hk : (l.getD i Tok.none).kind = 4
    · obtain ⟨L2, g1, g2⟩ := k1 hk
      simp -implicitDefEqProofs only [Zaa, Zab, Zac, Zad, Zae, Zaf, Zag, Zah, Zai, Zaj, Zak, Zal, Zam, Zan, Zao, Zap, Zaq, Zar, Zas, Zat, Zau, Zav, Zaw, Zax, Zay, Zaz, Zba, Zbb, Zbc, Zbd, Zbe, Zbf, Zbg, Zbh, Zbi, Zbj, Zbk, Zbl, Zbm, Zbn, Zbo, Zbp, Zbq, Zbr, Zbs, Zbt, Zbu, Zbv, Zbw, Zbx, Zby, Zbz, Zca, Zcb, Zcc, Zcd, Zce, Zcf, Zcg, evalT, Zch, Nat.reduceLT, Nat.reduceEqDiff, if_true, if_false, reduceIte, true_and, Zci, Zcj, map_ite', Zck, bind_ite', Zcl, Zcm, Zcn, Zco, Zcp, Zcq, Zcr, Zcs, Zct, Zcu, Zcv, Zcw, Zcx, Zcy, Zcz, Zda, Zdb, Zdc, Zdd, Zde, Zdf, Zdg, ofVal, ofCell, argT, List.getD_cons_zero, List.getD_cons_succ, List.getElem?_toArray, List.getElem?_cons_zero, List.getElem?_cons_succ, List.nil_append, List.cons_append, List.append_nil, resT, Zdh, Zdi, Nat.mul_one, Zdj, Zdk, Zdl, Zdm, Zdn, Zdo, Zdp, Zdq, Zdr, Zds, Zdt, setT, Zdu, Zdv, Zdw, Zdx, Zdy, List.append_eq, Zdz, Zea, Zeb, Zec, Zed, Zee, Zef, Zeg, Zeh, Nat.add_zero, Zei, Zej, Zek, Zel, Zem, Zen, Int.toNat_natCast, Bool.false_eq_true, Int.reduceEq, Int.reduceLT, Int.reduceLE, Int.reduceNeg, not_false_eq_true, and_self, Zeo, Zep, Int.natCast_one, Int.cast_ofNat_Int, not_true_eq_false, decide_true, decide_false, true_implies, false_implies, Int.toNat_zero, List.length_cons, List.length_nil, Nat.zero_add, mb, Nat.reduceBEq, Bool.false_and, Bool.and_false, Zeq, tys, stb, Zer, Zes, Zet, Zeu, Zev, Zew, Bool.or_false, Bool.false_or, Bool.true_and, Bool.or_true, Bool.true_or, Zex, Zey, t0, t3, t6, t7, t8, c1, e1, hx, agg52, load4_rptr, load4_ptr (heap_end _ _), z52, heap_end, set_end, storeList, List.take_zero, List.drop_zero, List.drop_succ_cons, List.drop_nil, List.all_cons, List.all_nil, isCell_str, isCell_int, Zeg, Nat.reduceAdd, Nat.reduceLeDiff, eq_true hk, vBin_sadd, lim1, lim2, g1, h0, e0, hy, opT_rowO, r1, hS1, r2, hS2, w1, hq]
      exact fin L2 g2
    · obtain ⟨L2, g1, g2⟩ := k2 hk
      simp -implicitDefEqProofs only [Zaa, Zab, Zac, Zad, Zae, Zaf, Zag, Zah, Zai, Zaj, Zak, Zal, Zam, Zan, Zao, Zap, Zaq, Zar, Zas, Zat, Zau, Zav, Zaw, Zax, Zay, Zaz, Zba, Zbb, Zbc, Zbd, Zbe, Zbf, Zbg, Zbh, Zbi, Zbj, Zbk, Zbl, Zbm, Zbn, Zbo, Zbp, Zbq, Zbr, Zbs, Zbt, Zbu, Zbv, Zbw, Zbx, Zby, Zbz, Zca, Zcb, Zcc, Zcd, Zce, Zcf, Zcg, evalT, Zch, Nat.reduceLT, Nat.reduceEqDiff, if_true, if_false, reduceIte, true_and, Zci, Zcj, map_ite', Zck, bind_ite', Zcl, Zcm, Zcn, Zco, Zcp, Zcq, Zcr, Zcs, Zct, Zcu, Zcv, Zcw, Zcx, Zcy, Zcz, Zda, Zdb, Zdc, Zdd, Zde, Zdf, Zdg, ofVal, ofCell, argT, List.getD_cons_zero, List.getD_cons_succ, List.getElem?_toArray, List.getElem?_cons_zero, List.getElem?_cons_succ, List.nil_append, List.cons_append, List.append_nil, resT, Zdh, Zdi, Nat.mul_one, Zdj, Zdk, Zdl, Zdm, Zdn, Zdo, Zdp, Zdq, Zdr, Zds, Zdt, setT, Zdu, Zdv, Zdw, Zdx, Zdy, List.append_eq, Zdz, Zea, Zeb, Zec, Zed, Zee, Zef, Zeg, Zeh, Nat.add_zero, Zei, Zej, Zek, Zel, Zem, Zen, Int.toNat_natCast, Bool.false_eq_true, Int.reduceEq, Int.reduceLT, Int.reduceLE, Int.reduceNeg, not_false_eq_true, and_self, Zeo, Zep, Int.natCast_one, Int.cast_ofNat_Int, not_true_eq_false, decide_true, decide_false, true_implies, false_implies, Int.toNat_zero, List.length_cons, List.length_nil, Nat.zero_add, mb, Nat.reduceBEq, Bool.false_and, Bool.and_false, Zeq, tys, stb, Zer, Zes, Zet, Zeu, Zev, Zew, Bool.or_false, Bool.false_or, Bool.true_and, Bool.or_true, Bool.true_or, Zex, Zey, t0, t3, t6, t7, t8, c1, e1, hx, agg52, load4_rptr, load4_ptr (heap_end _ _), z52, heap_end, set_end, storeList, List.take_zero, List.drop_zero, List.drop_succ_cons, List.drop_nil, List.all_cons, List.all_nil, isCell_str, isCell_int, Zeg, Nat.reduceAdd, Nat.reduceLeDiff, eq_false hk, g1, h0, e0, hy, opT_rowO, r1, hS1, r2, hS2, w1, hq]
      exact fin L2 g2
  · have hi2 : i = l.length := by omega
    subst hi2
    have c1 : ¬ (l.length : Int) < (l.length : Int) := by omega
    have hlen := joinT_len l ht l.length (Nat.le_refl _)
    obtain ⟨σ', hs⟩ := string_call L [] 0 (joinT l l.length) hB (by omega)
    simp -implicitDefEqProofs only [Zaa, Zab, Zac, Zad, Zae, Zaf, Zag, Zah, Zai, Zaj, Zak, Zal, Zam, Zan, Zao, Zap, Zaq, Zar, Zas, Zat, Zau, Zav, Zaw, Zax, Zay, Zaz, Zba, Zbb, Zbc, Zbd, Zbe, Zbf, Zbg, Zbh, Zbi, Zbj, Zbk, Zbl, Zbm, Zbn, Zbo, Zbp, Zbq, Zbr, Zbs, Zbt, Zbu, Zbv, Zbw, Zbx, Zby, Zbz, Zca, Zcb, Zcc, Zcd, Zce, Zcf, Zcg, evalT, Zch, Nat.reduceLT, Nat.reduceEqDiff, if_true, if_false, reduceIte, true_and, Zci, Zcj, map_ite', Zck, bind_ite', Zcl, Zcm, Zcn, Zco, Zcp, Zcq, Zcr, Zcs, Zct, Zcu, Zcv, Zcw, Zcx, Zcy, Zcz, Zda, Zdb, Zdc, Zdd, Zde, Zdf, Zdg, ofVal, ofCell, argT, List.getD_cons_zero, List.getD_cons_succ, List.getElem?_toArray, List.getElem?_cons_zero, List.getElem?_cons_succ, List.nil_append, List.cons_append, List.append_nil, resT, Zdh, Zdi, Nat.mul_one, Zdj, Zdk, Zdl, Zdm, Zdn, Zdo, Zdp, Zdq, Zdr, Zds, Zdt, setT, Zdu, Zdv, Zdw, Zdx, Zdy, List.append_eq, Zdz, Zea, Zeb, Zec, Zed, Zee, Zef, Zeg, Zeh, Nat.add_zero, Zei, Zej, Zek, Zel, Zem, Zen, Int.toNat_natCast, Bool.false_eq_true, Int.reduceEq, Int.reduceLT, Int.reduceLE, Int.reduceNeg, not_false_eq_true, and_self, Zeo, Zep, Int.natCast_one, Int.cast_ofNat_Int, not_true_eq_false, decide_true, decide_false, true_implies, false_implies, Int.toNat_zero, List.length_cons, List.length_nil, Nat.zero_add, mb, Nat.reduceBEq, Bool.false_and, Bool.and_false, Zeq, tys, stb, Zer, Zes, Zet, Zeu, Zev, Zew, Bool.or_false, Bool.false_or, Bool.true_and, Bool.or_true, Bool.true_or, Zex, Zey, t0, t3, t6, t7, t8, c1, hs]
    simp only [oneOr, sealDepth, sealV_str]
end Go.Proofs.YtbikmhpobflfeaaDoor

namespace Go.Proofs.YtbikmhpobflfeaaDoor
open Go.Ab
set_option maxRecDepth 100000
set_option linter.unusedSimpArgs false
set_option linter.unusedVariables false
/-! ### plain facts on the scanner: a token stays the same elsewhere -/
theorem bt_out (s : List UInt8) (i : Nat) (h : s.length ≤ i) : s.getD i 0 = 0 := by simp [List.getD, List.getElem?_eq_none h]
theorem runW_stop (s : List UInt8) (cs : List Int) (hz : (0 : Int) ∉ cs) : ∀ m i, i + m = s.length → clsN (s.getD (runW s cs m i) 0).toNat ∉ cs
  | 0, i, h => by
    simp only [runW]
    rw [bt_out s i (by omega)]
    exact hz
  | m + 1, i, h => by
    simp only [runW]
    split
    · exact runW_stop s cs hz m (i + 1) (by omega)
    · assumption
theorem endW_stop (s : List UInt8) (cs : List Int) (hz : (0 : Int) ∉ cs) (i : Nat) (hi : i ≤ s.length) : clsN (s.getD (endW s cs i) 0).toNat ∉ cs :=
  runW_stop s cs hz _ i (by omega)
theorem endW_in (s : List UInt8) (cs : List Int) (i j : Nat) (h1 : i ≤ j) (h2 : j < endW s cs i) : clsN (s.getD j 0).toNat ∈ cs := runW_in s cs _ i j h1 h2
theorem endW_uniq (s : List UInt8) (cs : List Int) (hz : (0 : Int) ∉ cs) (i e : Nat) (h1 : i ≤ e) (h2 : e ≤ s.length) (h3 : ∀ j, i ≤ j → j < e → clsN (s.getD j 0).toNat ∈ cs) (h4 : clsN (s.getD e 0).toNat ∉ cs) : endW s cs i = e := by
  have a := endW_stop s cs hz i (by omega)
  have b := endW_in s cs i
  have c := endW_le s cs i (by omega)
  generalize endW s cs i = x at *
  rcases Nat.lt_trichotomy x e with h | h | h
  · exact absurd (h3 x c.1 h) a
  · exact h
  · exact absurd (b e h1 h) h4
theorem subS_ext (s s' : List UInt8) (i i' n : Nat) (h1 : i + n ≤ s.length) (h2 : i' + n ≤ s'.length) (hs : ∀ k, k < n → s'.getD (i' + k) 0 = s.getD (i + k) 0) : subS s' i' (i' + n) = subS s i (i + n) := by
  have l1 := subS_len s i (i + n) h1
  have l2 := subS_len s' i' (i' + n) h2
  refine List.ext_getElem (by omega) fun k h3 h4 => ?_
  have g1 := subS_get s i (i + n) k h1 (by omega)
  have g2 := subS_get s' i' (i' + n) k h2 (by omega)
  rw [List.getD_eq_getElem?_getD, List.getElem?_eq_getElem h4, Option.getD_some] at g1
  rw [List.getD_eq_getElem?_getD, List.getElem?_eq_getElem h3, Option.getD_some] at g2
  rw [g1, g2, hs k (by omega)]
theorem subS_snoc (s : List UInt8) (i j : Nat) (hij : i ≤ j) (hj : j < s.length) : subS s i (j + 1) = subS s i j ++ [s.getD j 0] := by
  unfold subS
  rw [show j + 1 - i = (j - i) + 1 by omega, List.take_add_one]
  simp only [List.getElem?_drop]
  rw [show i + (j - i) = j by omega, List.getElem?_eq_getElem hj]
  simp [List.getD, hj]
theorem subS_cons (s : List UInt8) (i j : Nat) (hij : i < j) (hj : i < s.length) : subS s i j = s.getD i 0 :: subS s (i + 1) j := by
  unfold subS
  rw [List.drop_eq_getElem_cons hj, show j - i = (j - (i + 1)) + 1 by omega, List.take_succ_cons]
  simp [List.getD, hj]
theorem sgW_spec (s : List UInt8) (i : Nat) (h : (sgW s i 2).2 = true) : (sgW s i 2).1 ∈ signsW ∧ i + (sgW s i 2).1.length ≤ s.length ∧ subS s i (i + (sgW s i 2).1.length) = (sgW s i 2).1 ∧
    ((sgW s i 2).1.length = 1 → ¬ (i + 2 ≤ s.length ∧ subS s i (i + 2) ∈ signsW)) := by
  simp only [sgW, Nat.zero_add, Nat.reduceAdd] at h ⊢
  by_cases h2 : i + 2 ≤ s.length ∧ subS s i (i + 2) ∈ signsW
  · have hl := subS_len s i (i + 2) h2.1
    have hl2 : (subS s i (i + 2)).length = 2 := by omega
    simp only [if_pos h2, hl2]
    exact ⟨h2.2, h2.1, trivial, fun h => by omega⟩
  · rw [if_neg h2] at h
    by_cases h1 : i + 1 ≤ s.length ∧ subS s i (i + 1) ∈ signsW
    · have hl := subS_len s i (i + 1) h1.1
      have hl1 : (subS s i (i + 1)).length = 1 := by omega
      simp only [if_neg h2, if_pos h1, hl1]
      exact ⟨h1.2, h1.1, trivial, fun _ => h2⟩
    · rw [if_neg h1] at h
      simp at h
theorem sgW_mk (s : List UInt8) (i : Nat) (x : List UInt8) (h1 : x ∈ signsW) (h2 : i + x.length ≤ s.length) (h3 : subS s i (i + x.length) = x) (h4 : x.length = 1 → ¬ (i + 2 ≤ s.length ∧ subS s i (i + 2) ∈ signsW)) : sgW s i 2 = (x, true) := by
  have hs := signs_short x h1
  simp only [sgW, Nat.zero_add, Nat.reduceAdd]
  rcases Nat.lt_or_ge x.length 2 with h | h
  · have hl : x.length = 1 := by omega
    rw [if_neg (h4 hl)]
    rw [hl] at h2 h3
    rw [if_pos ⟨h2, by rw [h3]; exact h1⟩, h3]
  · have hl : x.length = 2 := by omega
    rw [hl] at h2 h3
    rw [if_pos ⟨h2, by rw [h3]; exact h1⟩, h3]
/-- a byte ends a token -/
def Stop (t : Tok) (c : UInt8) : Prop := ((t.kind = 1 ∨ t.kind = 2) → clsN c.toNat ∉ ([2, 3, 4] : List Int)) ∧ (t.kind = 3 → clsN c.toNat ∉ ([3] : List Int)) ∧ (t.kind = 5 → t.text ++ [c] ∉ signsW)
theorem cls39 : clsN (39 : UInt8).toNat = 5 := by decide
theorem of5 {c : UInt8} (h : clsN c.toNat = 5) : c = 39 := by
  have := (cls5 _).1 h
  exact UInt8.toNat_inj.1 (by rw [this]; rfl)
/-- what a token without error is: by its class -/
theorem next_ok (s : List UInt8) (i : Nat) (hi : i < s.length) (h0 : (nextP s i).2.2 = 0) : ∃ (t : Tok) (e : Nat), nextP s i = (t, e, 0) ∧ i < e ∧ e ≤ s.length ∧ t.pos = i ∧ subS s i e = piece t ∧ Stop t (s.getD e 0) ∧ t.kind ≠ 0 ∧ t.text ≠ [] ∧ (t.kind = 5 → t.text ∈ signsW) ∧ clsN (s.getD i 0).toNat ≠ 1 := by
  have hle := next_le s i hi
  have hlt := hle.2.2 h0
  refine ⟨(nextP s i).1, (nextP s i).2.1, by rw [← h0], hlt, hle.2.1, ?_⟩
  have b1 := endW_stop s [2, 3, 4] (by decide) i (by omega)
  have b2 := endW_stop s [3] (by decide) i (by omega)
  unfold nextP at h0 hlt hle ⊢
  by_cases k2 : clsN (s.getD i 0).toNat = 2
  · simp only [if_pos k2] at h0 hlt hle ⊢
    have hl := subS_len s i (endW s [2, 3, 4] i) hle.2.1
    have hk : (if subS s i (endW s [2, 3, 4] i) ∈ N.wordsW then (2 : Int) else 1) = 1 ∨ (if subS s i (endW s [2, 3, 4] i) ∈ N.wordsW then (2 : Int) else 1) = 2 := by split <;> simp
    generalize (if subS s i (endW s [2, 3, 4] i) ∈ N.wordsW then (2 : Int) else 1) = k at *
    refine ⟨trivial, ?_, ⟨fun _ => b1, fun h => ?_, fun h => ?_⟩, ?_, ?_, fun h => ?_, by rw [k2]; decide⟩
    · simp only [piece]; rw [if_neg (by rcases hk with rfl | rfl <;> decide)]
    · rcases hk with rfl | rfl <;> simp at h
    · rcases hk with rfl | rfl <;> simp at h
    · rcases hk with rfl | rfl <;> decide
    · intro h; rw [h] at hl; simp at hl; omega
    · rcases hk with rfl | rfl <;> simp at h
  simp only [if_neg k2] at h0 hlt hle ⊢
  by_cases k3 : clsN (s.getD i 0).toNat = 3
  · simp only [if_pos k3] at h0 hlt hle ⊢
    by_cases h1 : 1 < (subS s i (endW s [3] i)).length ∧ ((subS s i (endW s [3] i)).getD 0 0).toNat = 48
    · simp only [if_pos h1] at h0; simp at h0
    simp only [if_neg h1] at h0 hlt hle ⊢
    by_cases h2 : 1000000000 < decV 0 (subS s i (endW s [3] i))
    · simp only [if_pos h2] at h0; simp at h0
    simp only [if_neg h2] at h0 hlt hle ⊢
    have hl := subS_len s i (endW s [3] i) hle.2.1
    refine ⟨trivial, ?_, ⟨fun h => ?_, fun _ => b2, fun h => ?_⟩, by decide, ?_, fun h => ?_, by rw [k3]; decide⟩
    · simp [piece]
    · simp at h
    · simp at h
    · intro h; rw [h] at hl; simp at hl; omega
    · simp at h
  simp only [if_neg k3] at h0 hlt hle ⊢
  by_cases k5 : clsN (s.getD i 0).toNat = 5
  · simp only [if_pos k5] at h0 hlt hle ⊢
    by_cases h1 : endW s [2, 3, 4] (i + 1) < s.length ∧ (s.getD (endW s [2, 3, 4] (i + 1)) 0).toNat = 39 ∧ N.IsName (subS s (i + 1) (endW s [2, 3, 4] (i + 1)))
    · simp only [if_pos h1] at h0 hlt hle ⊢
      have hge := endW_le s [2, 3, 4] (i + 1) (by omega)
      refine ⟨trivial, ?_, ⟨fun h => ?_, fun h => ?_, fun h => ?_⟩, by decide, ?_, fun h => ?_, by rw [k5]; decide⟩
      · rw [subS_snoc s i _ (by omega) h1.1, subS_cons s i _ (by omega) hi, of5 k5, of5 ((cls5 _).2 h1.2.1)]
        simp [piece]
      · simp at h
      · simp at h
      · simp at h
      · intro h
        have h3 := h1.2.2.1
        rw [h] at h3
        simp at h3
      · simp at h
    · simp only [if_neg h1] at h0; simp at h0
  simp only [if_neg k5] at h0 hlt hle ⊢
  by_cases hb : (sgW s i 2).2 = true
  · obtain ⟨g1, g2, g3, g4⟩ := sgW_spec s i hb
    simp only [if_pos hb] at h0 hlt hle ⊢
    have hsh := signs_short _ g1
    refine ⟨trivial, ?_, ⟨fun h => ?_, fun h => ?_, fun _ h => ?_⟩, by decide, fun h => ?_, fun _ => g1, ?_⟩
    · rw [g3]; simp [piece]
    · simp at h
    · simp at h
    · have h5 := (signs_short _ h).2
      rw [List.length_append] at h5
      simp only [List.length_cons, List.length_nil] at h5
      have h6 : (sgW s i 2).1.length = 1 := by omega
      rw [h6] at g3 h
      rcases Nat.lt_or_ge (i + 1) s.length with h7 | h7
      · refine g4 h6 ⟨h7, ?_⟩
        rw [subS_snoc s i (i + 1) (by omega) h7, g3]; exact h
      · rw [bt_out s (i + 1) h7] at h
        have hz : (signsW.all fun w => w.getLast? != some 0) = true := by kernel_rfl
        have := List.all_eq_true.1 hz _ h
        simp at this
    · rw [h] at hsh; simp at hsh
    · have hz : (signsW.all fun w => clsN (w.getD 0 0).toNat == 0) = true := by kernel_rfl
      have hz := List.all_eq_true.1 hz _ g1
      have hg := subS_get s i _ 0 g2 (by omega)
      rw [g3, Nat.add_zero] at hg
      rw [hg] at hz
      simp only [beq_iff_eq] at hz
      rw [hz]; decide
  · simp only [if_neg hb] at h0; simp at h0

theorem next_same (s s' : List UInt8) (i i' n : Nat) (t : Tok) (hi : i < s.length) (hn : nextP s i = (t, i + n, 0)) (hb : i' + n ≤ s'.length) (hs : ∀ k, k < n → s'.getD (i' + k) 0 = s.getD (i + k) 0) (hst : Stop t (s'.getD (i' + n) 0)) :
    nextP s' i' = (⟨t.kind, t.text, t.n, (i' : Nat)⟩, i' + n, 0) := by
  have hle := next_le s i hi
  have h0 : (nextP s i).2.2 = 0 := by rw [hn]
  have he : (nextP s i).2.1 = i + n := by rw [hn]
  have ht : (nextP s i).1 = t := by rw [hn]
  have hlt := hle.2.2 h0
  have hle2 := hle.2.1
  rw [he] at hlt hle2
  clear hle hn
  have hi' : i' < s'.length := by omega
  have hb0 : s'.getD i' 0 = s.getD i 0 := by have := hs 0 (by omega); simpa using this
  have hsub := subS_ext s s' i i' n hle2 hb hs
  unfold nextP at h0 he ht ⊢
  rw [hb0]
  by_cases k2 : clsN (s.getD i 0).toNat = 2
  · simp only [if_pos k2] at h0 he ht ⊢
    have hin := endW_in s [2, 3, 4] i
    rw [he] at h0 ht hin
    have hE : endW s' [2, 3, 4] i' = i' + n := endW_uniq s' _ (by decide) i' (i' + n) (by omega) hb (fun j h1 h2 => by
      have := hs (j - i') (by omega)
      rw [show i' + (j - i') = j by omega] at this
      rw [this]; exact hin _ (by omega) (by omega)) (by
      refine hst.1 ?_
      rw [← ht]; simp only; split <;> simp)
    rw [hE, hsub, show i' + n - i' = i + n - i by omega, ← ht]
    simp only [h0]
  simp only [if_neg k2] at h0 he ht ⊢
  by_cases k3 : clsN (s.getD i 0).toNat = 3
  · simp only [if_pos k3] at h0 he ht ⊢
    have hin := endW_in s [3] i
    by_cases h1 : 1 < (subS s i (endW s [3] i)).length ∧ ((subS s i (endW s [3] i)).getD 0 0).toNat = 48
    · simp only [if_pos h1] at h0; simp at h0
    simp only [if_neg h1] at h0 he ht
    by_cases h2 : 1000000000 < decV 0 (subS s i (endW s [3] i))
    · simp only [if_pos h2] at h0; simp at h0
    simp only [if_neg h2] at h0 he ht
    rw [he] at h1 h2 ht hin
    have hE : endW s' [3] i' = i' + n := endW_uniq s' _ (by decide) i' (i' + n) (by omega) hb (fun j h1 h2 => by
      have := hs (j - i') (by omega)
      rw [show i' + (j - i') = j by omega] at this
      rw [this]; exact hin _ (by omega) (by omega)) (hst.2.1 (by rw [← ht]))
    rw [hE, hsub, if_neg h1, if_neg h2, ← ht]
  simp only [if_neg k3] at h0 he ht ⊢
  by_cases k5 : clsN (s.getD i 0).toNat = 5
  · simp only [if_pos k5] at h0 he ht ⊢
    by_cases h1 : endW s [2, 3, 4] (i + 1) < s.length ∧ (s.getD (endW s [2, 3, 4] (i + 1)) 0).toNat = 39 ∧ N.IsName (subS s (i + 1) (endW s [2, 3, 4] (i + 1)))
    · simp only [if_pos h1] at h0 he ht
      have hge := endW_le s [2, 3, 4] (i + 1) (by omega)
      have hin := endW_in s [2, 3, 4] (i + 1)
      have he2 : endW s [2, 3, 4] (i + 1) = i + (n - 1) := by omega
      rw [he2] at h1 ht hin hge
      have hlast := hs (n - 1) (by omega)
      have hE : endW s' [2, 3, 4] (i' + 1) = i' + (n - 1) := endW_uniq s' _ (by decide) (i' + 1) (i' + (n - 1)) (by omega) (by omega) (fun j h1 h2 => by
        have := hs (j - i') (by omega)
        rw [show i' + (j - i') = j by omega] at this
        rw [this]; exact hin _ (by omega) (by omega)) (by
        rw [hlast, of5 ((cls5 _).2 h1.2.1)]; decide)
      have hsub2 := subS_ext s s' (i + 1) (i' + 1) (n - 2) (by omega) (by omega) (fun k hk => by
        have := hs (k + 1) (by omega)
        rw [show i' + 1 + k = i' + (k + 1) by omega, show i + 1 + k = i + (k + 1) by omega]; exact this)
      rw [show i + 1 + (n - 2) = i + (n - 1) by omega, show i' + 1 + (n - 2) = i' + (n - 1) by omega] at hsub2
      rw [hE, hsub2, hlast, if_pos ⟨by omega, h1.2⟩, ← ht]
      simp only [Prod.mk.injEq, and_true, true_and]
      omega
    · simp only [if_neg h1] at h0; simp at h0
  simp only [if_neg k5] at h0 he ht ⊢
  by_cases hbb : (sgW s i 2).2 = true
  · obtain ⟨g1, g2, g3, g4⟩ := sgW_spec s i hbb
    simp only [if_pos hbb] at h0 he ht ⊢
    have hn2 : (sgW s i 2).1.length = n := by omega
    rw [hn2] at g3
    have hmk : sgW s' i' 2 = ((sgW s i 2).1, true) := by
      refine sgW_mk s' i' _ g1 (by omega) (by rw [hn2, hsub, g3]) fun h1 h2 => ?_
      have hn1 : n = 1 := by omega
      subst hn1
      have h3 := hst.2.2 (by rw [← ht])
      rw [subS_snoc s' i' (i' + 1) (by omega) (by omega), hsub, g3] at h2
      refine h3 ?_
      rw [← ht]; exact h2.2
    rw [hmk]
    simp only [if_true, hn2, ← ht]
  · simp only [if_neg hbb] at h0; simp at h0

end Go.Proofs.YtbikmhpobflfeaaDoor
namespace Go.Proofs.YtbikmhpobflfeaaDoor
open Go.Ab
set_option maxRecDepth 100000
set_option linter.unusedSimpArgs false
set_option linter.unusedVariables false
/-- scanning from a place (blanks ahead) gives tokens to the end, without a fault -/
inductive Sc (s : List UInt8) : Nat → Int → List Tok → Prop
  | fin (e : Nat) (last : Int) : ¬ endW s [1] e < s.length → Sc s e last []
  | tok (e : Nat) (last : Int) (i e2 : Nat) (t : Tok) (l : List Tok) : endW s [1] e = i → i < s.length → nextP s i = (t, e2, 0) → ¬ (t.kind ≠ 5 ∧ last = i) → Sc s e2 (if t.kind ≠ 5 then (e2 : Int) else -1) l → Sc s e last (t :: l)
theorem scan_sc (s : List UInt8) : ∀ m e last acc r, e ≤ s.length → s.length < m + endW s [1] e → scanP s m (endW s [1] e) last acc = (r, none) → ∃ l, r = acc ++ l ∧ Sc s e last l
  | 0, e, last, acc, r, he, hm, h => by have := endW_le s [1] e he; omega
  | m + 1, e, last, acc, r, he, hm, h => by
    have hE := endW_le s [1] e he
    simp only [scanP] at h
    by_cases h1 : endW s [1] e < s.length
    · rw [if_pos h1] at h
      by_cases h2 : (nextP s (endW s [1] e)).2.2 = 0
      · rw [if_pos h2] at h
        obtain ⟨t, e2, hn, a1, a2, _⟩ := next_ok s _ h1 h2
        rw [hn] at h
        simp only at h
        by_cases h3 : t.kind ≠ 5 ∧ last = (endW s [1] e : Nat)
        · rw [if_pos h3] at h; simp at h
        · rw [if_neg h3] at h
          have b := endW_le s [1] e2 a2
          obtain ⟨l, rfl, hS⟩ := scan_sc s m e2 _ _ r a2 (by omega) h
          exact ⟨t :: l, by simp, .tok e last _ e2 t l rfl h1 hn h3 hS⟩
      · rw [if_neg h2] at h; simp at h
    · rw [if_neg h1] at h
      simp only [Prod.mk.injEq, and_true] at h
      exact ⟨[], by simp [h], .fin e last h1⟩
theorem sc_scan {s : List UInt8} {e : Nat} {last : Int} {l : List Tok} (h : Sc s e last l) : e ≤ s.length → ∀ m acc, s.length < m + endW s [1] e → scanP s m (endW s [1] e) last acc = (acc ++ l, none) := by
  induction h with
  | fin e last h =>
    intro he m acc hm
    have := endW_le s [1] e he
    cases m with
    | zero => omega
    | succ m => simp only [scanP]; rw [if_neg h]; simp
  | tok e last i e2 t l h1 h2 h3 h4 _ ih =>
    intro he m acc hm
    obtain ⟨t', e', hn, a1, a2, _⟩ := next_ok s i h2 (by rw [h3])
    rw [h3] at hn
    simp only [Prod.mk.injEq, and_true] at hn
    obtain ⟨rfl, rfl⟩ := hn
    have b := endW_le s [1] e2 a2
    cases m with
    | zero => omega
    | succ m =>
      simp only [scanP]
      rw [h1, if_pos h2, h3]
      simp only [if_true]
      rw [if_neg h4, ih a2 m _ (by omega)]
      simp
/-- where there is a fault -/
theorem scan_err (s : List UInt8) : ∀ m i last acc r x j, scanP s m i last acc = (r, some (x, j)) → x ≠ 0 ∧ j < s.length
  | 0, i, last, acc, r, x, j, h => by simp [scanP] at h
  | m + 1, i, last, acc, r, x, j, h => by
    simp only [scanP] at h
    by_cases h1 : i < s.length
    · rw [if_pos h1] at h
      by_cases h2 : (nextP s i).2.2 = 0
      · rw [if_pos h2] at h
        split at h
        · simp only [Prod.mk.injEq, Option.some.injEq] at h
          obtain ⟨_, rfl, rfl⟩ := h
          exact ⟨by decide, h1⟩
        · exact scan_err s m _ _ _ r x j h
      · rw [if_neg h2] at h
        simp only [Prod.mk.injEq, Option.some.injEq] at h
        obtain ⟨_, rfl, rfl⟩ := h
        exact ⟨h2, h1⟩
    · rw [if_neg h1] at h; simp at h
/-- the bytes of tokens -/
def sumP : List Tok → Nat
  | [] => 0
  | t :: l => (piece t).length + sumP l
theorem sc_sum {s : List UInt8} {e : Nat} {last : Int} {l : List Tok} (h : Sc s e last l) : e ≤ s.length → sumP l + e ≤ s.length ∧ l.length ≤ sumP l := by
  induction h with
  | fin e last h => intro he; simp [sumP]; exact he
  | tok e last i e2 t l h1 h2 h3 h4 _ ih =>
    intro he
    have hE := endW_le s [1] e he
    obtain ⟨t', e', hn, a1, a2, _, a4, _⟩ := next_ok s i h2 (by rw [h3])
    rw [h3] at hn
    simp only [Prod.mk.injEq, and_true] at hn
    obtain ⟨rfl, rfl⟩ := hn
    have hl := subS_len s i e2 a2
    rw [a4] at hl
    have := ih a2
    simp only [sumP, List.length_cons]
    omega
/-- a token that was read somewhere -/
def OkT (t : Tok) : Prop := ∃ s i e, i < s.length ∧ nextP s i = (t, e, 0)
theorem sc_ok {s : List UInt8} {e : Nat} {last : Int} {l : List Tok} (h : Sc s e last l) : ∀ t ∈ l, OkT t := by
  induction h with
  | fin e last h => intro t ht; simp at ht
  | tok e last i e2 t l h1 h2 h3 h4 _ ih =>
    intro x hx
    rcases List.mem_cons.1 hx with rfl | hx
    · exact ⟨s, i, e2, h2, h3⟩
    · exact ih x hx
theorem okT_spec {t : Tok} (h : OkT t) : ∃ s i n, i < s.length ∧ nextP s i = (t, i + n, 0) ∧ 0 < n ∧ i + n ≤ s.length ∧ (piece t).length = n ∧ (∀ k, k < n → s.getD (i + k) 0 = (piece t).getD k 0) ∧ t.kind ≠ 0 ∧ t.text ≠ [] ∧ (t.kind = 5 → t.text ∈ signsW) ∧ clsN ((piece t).getD 0 0).toNat ≠ 1 := by
  obtain ⟨s, i, e, hi, hn⟩ := h
  obtain ⟨t', e', hn', a1, a2, a3, a4, a5, a6, a7, a8, a9⟩ := next_ok s i hi (by rw [hn])
  rw [hn] at hn'
  simp only [Prod.mk.injEq, and_true] at hn'
  obtain ⟨rfl, rfl⟩ := hn'
  have hl := subS_len s i e a2
  have hg := fun k hk => subS_get s i e k a2 hk
  rw [a4] at hl hg
  refine ⟨s, i, e - i, hi, by rw [hn, show i + (e - i) = e by omega], by omega, by omega, hl, fun k hk => (hg k hk).symm, a6, a7, a8, ?_⟩
  rw [hg 0 (by omega)]; exact a9
theorem stop_blank {t : Tok} (h : OkT t) (c : UInt8) (hc : c = 32 ∨ c = 0) : Stop t c := by
  obtain ⟨s, i, n, _, _, _, _, _, _, _, _, h5, _⟩ := okT_spec h
  refine ⟨fun _ => ?_, fun _ => ?_, fun hk hm => ?_⟩
  · rcases hc with rfl | rfl <;> decide
  · rcases hc with rfl | rfl <;> decide
  · have hz : (signsW.all fun w => w.getLast? != some 0 && w.getLast? != some 32) = true := by kernel_rfl
    have hz := List.all_eq_true.1 hz _ hm
    rcases hc with rfl | rfl <;> simp at hz

end Go.Proofs.YtbikmhpobflfeaaDoor
namespace Go.Proofs.YtbikmhpobflfeaaDoor
open Go.Ab
set_option maxRecDepth 100000
set_option linter.unusedSimpArgs false
set_option linter.unusedVariables false
/-! ### what Join writes is read again -/
/-- what a token is, but for its place -/
def core (t : Tok) : Tok := ⟨t.kind, t.text, t.n, 0⟩
def sepT (l : List Tok) (k : Nat) : List UInt8 := if 0 < k ∧ ¬ Tight (l.getD (k - 1) Tok.none) (l.getD k Tok.none) then [32] else []
theorem joinT_succ (l : List Tok) (k : Nat) : joinT l (k + 1) = joinT l k ++ sepT l k ++ piece (l.getD k Tok.none) := rfl
theorem join_pre (l : List Tok) (k : Nat) : ∀ d, ∃ r, joinT l (k + d) = joinT l k ++ r
  | 0 => ⟨[], by simp⟩
  | d + 1 => by
    obtain ⟨r, h⟩ := join_pre l k d
    exact ⟨r ++ (sepT l (k + d) ++ piece (l.getD (k + d) Tok.none)), by rw [← Nat.add_assoc, joinT_succ, h]; simp only [List.append_assoc]⟩
theorem getD_app_right (a b : List UInt8) (j : Nat) : (a ++ b).getD (a.length + j) 0 = b.getD j 0 := by
  simp [List.getD, List.getElem?_append_right]
theorem getD_app_left (a b : List UInt8) (j : Nat) (h : j < a.length) : (a ++ b).getD j 0 = a.getD j 0 := by
  simp [List.getD, List.getElem?_append_left h]
theorem endW_end (s : List UInt8) (cs : List Int) : endW s cs s.length = s.length := by simp [endW, runW]
theorem stop_left (t : Tok) (h : Lft t) (c : UInt8) : Stop t c := by
  obtain ⟨h1, h2⟩ := h
  refine ⟨fun h => by omega, fun h => by omega, fun _ hm => ?_⟩
  have hz : (L1.all fun w => signsW.all fun v => !(v.length == w.length + 1 && v.take w.length == w)) = true := by kernel_rfl
  have hz := List.all_eq_true.1 (List.all_eq_true.1 hz _ h2) _ hm
  simp at hz
theorem stop_right (t t2 : Tok) (ht : OkT t) (h : Rgt t2) : Stop t ((piece t2).getD 0 0) := by
  obtain ⟨h1, h2⟩ := h
  have hp : piece t2 = t2.text := by simp [piece, h1]
  rw [hp]
  have hz : (L2.all fun w => clsN (w.getD 0 0).toNat == 0) = true := by kernel_rfl
  have hz := List.all_eq_true.1 hz _ h2
  simp only [beq_iff_eq] at hz
  refine ⟨fun _ => by rw [hz]; decide, fun _ => by rw [hz]; decide, fun hk hm => ?_⟩
  obtain ⟨_, _, _, _, _, _, _, _, _, _, _, h5, _⟩ := okT_spec ht
  have hs := h5 hk
  have hy : (L2.all fun w => signsW.all fun v => signsW.all fun x => !(v.length == x.length + 1 && v.take x.length == x && v.getLast? == some (w.getD 0 0))) = true := by kernel_rfl
  have hy := List.all_eq_true.1 (List.all_eq_true.1 (List.all_eq_true.1 hy _ h2) _ hm) _ hs
  simp at hy
theorem again (l : List Tok) (hok : ∀ t ∈ l, OkT t) : ∀ d k, k + d = l.length →
    ∃ l', Sc (joinT l l.length) (joinT l k).length (if 0 < k ∧ (l.getD (k - 1) Tok.none).kind ≠ 5 then ((joinT l k).length : Int) else -1) l' ∧ l'.map core = (l.drop k).map core
  | 0, k, hk => by
    have : k = l.length := by omega
    subst this
    exact ⟨[], .fin _ _ (by rw [endW_end]; omega), by simp⟩
  | d + 1, k, hk => by
    have hlt : k < l.length := by omega
    obtain ⟨l', hS, hC⟩ := again l hok d (k + 1) (by omega)
    have hd : l.drop k = l.getD k Tok.none :: l.drop (k + 1) := by
      rw [List.drop_eq_getElem_cons hlt]; simp [List.getD, hlt]
    have hmem : l.getD k Tok.none ∈ l := by simp [List.getD, hlt]
    have hOk := hok _ hmem
    obtain ⟨s, i, n, hi, hn, hn0, hin, hlen, hby, hk0, htx, hsg, hcl⟩ := okT_spec hOk
    obtain ⟨r, hr⟩ := join_pre l (k + 1) d
    rw [show k + 1 + d = l.length by omega] at hr
    have hsucc := joinT_succ l k
    rw [hd, List.map_cons]
    rw [show k + 1 - 1 = k by omega] at hS
    have hst : Stop (l.getD k Tok.none) ((joinT l l.length).getD ((joinT l (k + 1)).length) 0) := by
      rcases Nat.eq_zero_or_pos d with h0 | h0
      · subst h0
        rw [show l.length = k + 1 by omega, bt_out _ _ (Nat.le_refl _)]
        exact stop_blank hOk _ (.inr rfl)
      · obtain ⟨r2, hr2⟩ := join_pre l (k + 1 + 1) (d - 1)
        rw [show k + 1 + 1 + (d - 1) = l.length by omega, joinT_succ, List.append_assoc, List.append_assoc] at hr2
        have := getD_app_right (joinT l (k + 1)) (sepT l (k + 1) ++ (piece (l.getD (k + 1) Tok.none) ++ r2)) 0
        rw [← hr2, Nat.add_zero] at this
        rw [this]
        have hmem2 : l.getD (k + 1) Tok.none ∈ l := by simp [List.getD, show k + 1 < l.length by omega]
        obtain ⟨_, _, n2, _, _, hn2, _, hlen2, _⟩ := okT_spec (hok _ hmem2)
        unfold sepT
        rw [show k + 1 - 1 = k by omega]
        by_cases hT : Tight (l.getD k Tok.none) (l.getD (k + 1) Tok.none)
        · rw [if_neg (fun h => h.2 hT), List.nil_append, getD_app_left _ _ _ (by omega)]
          rcases hT with hT | hT
          · exact stop_left _ hT _
          · exact stop_right _ _ hOk hT
        · rw [if_pos ⟨by omega, hT⟩]
          exact stop_blank hOk _ (.inl rfl)
    generalize ht : l.getD k Tok.none = t at *
    have hu : joinT l l.length = (joinT l k ++ sepT l k) ++ (piece t ++ r) := by rw [hr, hsucc]; simp only [List.append_assoc]
    have hl1 : (joinT l (k + 1)).length = (joinT l k ++ sepT l k).length + n := by rw [hsucc, List.length_append, hlen]
    have hle : (joinT l k ++ sepT l k).length + n ≤ (joinT l l.length).length := by rw [hu]; simp only [List.length_append]; omega
    have hb : ∀ j, j < n → (joinT l l.length).getD ((joinT l k ++ sepT l k).length + j) 0 = s.getD (i + j) 0 := fun j hj => by
      rw [hu, getD_app_right, getD_app_left _ _ _ (by omega), hby j hj]
    have hsep : (sepT l k = [] ∨ sepT l k = [32]) := by unfold sepT; split <;> simp
    have hE : endW (joinT l l.length) [1] (joinT l k).length = (joinT l k ++ sepT l k).length := by
      refine endW_uniq _ _ (by decide) _ _ (by simp) (by omega) (fun j h1 h2 => ?_) ?_
      · rcases hsep with h | h
        · rw [h] at h2; simp at h2; omega
        · rw [h, List.length_append] at h2
          have : j = (joinT l k).length + 0 := by simp at h2; omega
          rw [this, hu, h, List.append_assoc, getD_app_right]
          change clsN (32 : UInt8).toNat ∈ ([1] : List Int); decide
      · have := hb 0 hn0
        rw [Nat.add_zero] at this
        rw [this, Nat.add_zero, ← Nat.add_zero i, hby 0 hn0]
        simpa using hcl
    rw [hl1] at hst hS
    have hnx := next_same s (joinT l l.length) i (joinT l k ++ sepT l k).length n t hi hn hle hb hst
    refine ⟨⟨t.kind, t.text, t.n, ((joinT l k ++ sepT l k).length : Nat)⟩ :: l', .tok _ _ _ _ _ _ hE (by omega) hnx ?_ ?_, ?_⟩
    · rintro ⟨h1, h2⟩
      simp only at h1
      by_cases h3 : 0 < k ∧ (l.getD (k - 1) Tok.none).kind ≠ 5
      · rw [if_pos h3] at h2
        have hnt : ¬ Tight (l.getD (k - 1) Tok.none) (l.getD k Tok.none) := by
          rw [ht]
          rintro (h | h)
          · exact h3.2 h.1
          · exact h1 h.1
        have hs1 : sepT l k = [32] := by unfold sepT; rw [if_pos ⟨h3.1, hnt⟩]
        rw [hs1, List.length_append] at h2
        simp at h2
        omega
      · rw [if_neg h3] at h2; omega
    · simpa using hS
    · simp only [List.map_cons, hC, core]
theorem joinT_core (l l' : List Tok) (h : l'.map core = l.map core) : ∀ k, k ≤ l.length → joinT l' k = joinT l k
  | 0, _ => rfl
  | k + 1, hk => by
    have hlen : l'.length = l.length := by have := congrArg List.length h; simpa using this
    have hg : ∀ j, j < l.length → core (l'.getD j Tok.none) = core (l.getD j Tok.none) := fun j hj => by
      have := congrArg (fun x => x[j]?) h
      simp only [List.getElem?_map, List.getElem?_eq_getElem hj, List.getElem?_eq_getElem (show j < l'.length by omega), Option.map_some, Option.some.injEq] at this
      simpa [List.getD, hj, show j < l'.length by omega] using this
    have hc : ∀ a b : Tok, core a = core b → a.kind = b.kind ∧ a.text = b.text := fun a b h => by
      simp only [core, Tok.mk.injEq] at h; exact ⟨h.1, h.2.1⟩
    obtain ⟨a1, a2⟩ := hc _ _ (hg k (by omega))
    have ih := joinT_core l l' h k (by omega)
    have hs : sepT l' k = sepT l k := by
      unfold sepT
      by_cases h0 : 0 < k
      · obtain ⟨b1, b2⟩ := hc _ _ (hg (k - 1) (by omega))
        have hTi : Tight (l'.getD (k - 1) Tok.none) (l'.getD k Tok.none) ↔ Tight (l.getD (k - 1) Tok.none) (l.getD k Tok.none) := by simp only [Tight, Lft, Rgt, a1, a2, b1, b2]
        by_cases hT : Tight (l.getD (k - 1) Tok.none) (l.getD k Tok.none)
        · rw [if_neg (fun h => h.2 (hTi.2 hT)), if_neg (fun h => h.2 hT)]
        · rw [if_pos ⟨h0, fun h => hT (hTi.1 h)⟩, if_pos ⟨h0, hT⟩]
      · simp [h0]
    rw [joinT_succ, joinT_succ, ih, hs]
    simp only [piece, a1, a2]
theorem join_bound (l : List Tok) : (joinT l l.length).length ≤ sumP l + l.length := by
  have : ∀ d k, k + d = l.length → (joinT l l.length).length ≤ (joinT l k).length + sumP (l.drop k) + d := by
    intro d
    induction d with
    | zero => intro k hk; rw [show k = l.length by omega]; simp
    | succ d ih =>
      intro k hk
      have hlt : k < l.length := by omega
      have := ih (k + 1) (by omega)
      have hd : l.drop k = l.getD k Tok.none :: l.drop (k + 1) := by
        rw [List.drop_eq_getElem_cons hlt]; simp [List.getD, hlt]
      have hsep : (sepT l k).length ≤ 1 := by unfold sepT; split <;> simp
      rw [joinT_succ, List.length_append, List.length_append] at this
      rw [hd, sumP]
      omega
  have := this l.length 0 (by omega)
  simpa [joinT] using this

end Go.Proofs.YtbikmhpobflfeaaDoor
namespace Go.Proofs.YtbikmhpobflfeaaDoor
open Go.Ab
set_option maxRecDepth 100000
set_option linter.unusedSimpArgs false
set_option linter.unusedVariables false
/-! ### a further blank in front of a token -/
theorem sc_pos {s : List UInt8} {e : Nat} {last : Int} {l : List Tok} (h : Sc s e last l) : e ≤ s.length → ∀ t ∈ l, (e : Int) ≤ t.pos ∧ t.pos < s.length := by
  induction h with
  | fin e last h => intro _ t ht; simp at ht
  | tok e last i e2 t l h1 h2 h3 h4 _ ih =>
    intro he x hx
    have hE := endW_le s [1] e he
    obtain ⟨t', e', hn, a1, a2, a3, _⟩ := next_ok s i h2 (by rw [h3])
    rw [h3] at hn
    simp only [Prod.mk.injEq, and_true] at hn
    obtain ⟨rfl, rfl⟩ := hn
    rcases List.mem_cons.1 hx with rfl | hx
    · omega
    · have := ih a2 x hx; omega
def insB (s : List UInt8) (k : Nat) : List UInt8 := ((subS s 0 k ++ [32]) ++ subS s k s.length) ++ [32]
theorem insB_len (s : List UInt8) (k : Nat) (hk : k ≤ s.length) : (insB s k).length = s.length + 2 := by
  simp only [insB, List.length_append, subS_len s 0 k hk, subS_len s k s.length (Nat.le_refl _), List.length_cons, List.length_nil]; omega
theorem insB_lo (s : List UInt8) (k j : Nat) (hk : k ≤ s.length) (hj : j < k) : (insB s k).getD j 0 = s.getD j 0 := by
  have hl := subS_len s 0 k hk
  unfold insB
  rw [List.append_assoc, List.append_assoc, getD_app_left _ _ _ (by omega), subS_get s 0 k j hk (by omega), Nat.zero_add]
theorem insB_at (s : List UInt8) (k : Nat) (hk : k ≤ s.length) : (insB s k).getD k 0 = 32 := by
  have hl := subS_len s 0 k hk
  have := getD_app_right (subS s 0 k) ([32] ++ (subS s k s.length ++ [32])) 0
  unfold insB
  rw [List.append_assoc, List.append_assoc]
  rw [hl] at this
  rw [show k - 0 + 0 = k by omega] at this
  rw [this]; rfl
theorem insB_hi (s : List UInt8) (k j : Nat) (hk : k ≤ j) (hj : j < s.length) : (insB s k).getD (j + 1) 0 = s.getD j 0 := by
  have hl := subS_len s 0 k (by omega)
  have hl2 := subS_len s k s.length (Nat.le_refl _)
  have := getD_app_right (subS s 0 k ++ [32]) (subS s k s.length ++ [32]) (j - k)
  unfold insB
  rw [List.append_assoc]
  rw [List.length_append, hl] at this
  rw [show k - 0 + [(32 : UInt8)].length + (j - k) = j + 1 by simp; omega] at this
  rw [this, getD_app_left _ _ _ (by omega), subS_get s k s.length (j - k) (Nat.le_refl _) (by omega), show k + (j - k) = j by omega]
theorem insB_end (s : List UInt8) (k : Nat) (hk : k ≤ s.length) : (insB s k).getD (s.length + 1) 0 = 32 := by
  have hl := subS_len s 0 k hk
  have hl2 := subS_len s k s.length (Nat.le_refl _)
  have := getD_app_right ((subS s 0 k ++ [32]) ++ subS s k s.length) [32] 0
  unfold insB
  rw [List.length_append, List.length_append, hl, hl2] at this
  rw [show k - 0 + [(32 : UInt8)].length + (s.length - k) + 0 = s.length + 1 by simp; omega] at this
  rw [this]; rfl
theorem cls32 : clsN (32 : UInt8).toNat ∈ ([1] : List Int) := by decide
theorem blank_hi (s : List UInt8) (k : Nat) : ∀ (e : Nat) (last : Int) (l : List Tok), Sc s e last l → k < e → e ≤ s.length → ∀ last2 : Int, (last2 = last + 1 ∨ last2 = -1) → ∃ l', Sc (insB s k) (e + 1) last2 l' ∧ l'.map core = l.map core := by
  intro e last l h
  induction h with
  | fin e last h =>
    intro hk he last2 _
    have hE := endW_le s [1] e he
    have hin := endW_in s [1] e
    have hlen := insB_len s k (by omega)
    refine ⟨[], .fin _ _ ?_, rfl⟩
    rw [endW_uniq (insB s k) [1] (by decide) (e + 1) (s.length + 2) (by omega) (by omega) (fun j h1 h2 => ?_) (by rw [bt_out _ _ (by omega)]; decide)]
    · omega
    · rcases Nat.lt_or_ge j (s.length + 1) with h3 | h3
      · have := insB_hi s k (j - 1) (by omega) (by omega)
        rw [show j - 1 + 1 = j by omega] at this
        rw [this]; exact hin _ (by omega) (by omega)
      · rw [show j = s.length + 1 by omega, insB_end s k (by omega)]; exact cls32
  | tok e last i e2 t l h1 h2 h3 h4 hS ih =>
    intro hk he last2 hl2
    have hE := endW_le s [1] e he
    have hin := endW_in s [1] e
    have hlen := insB_len s k (by omega)
    have hOk : OkT t := ⟨s, i, e2, h2, h3⟩
    obtain ⟨t', e', hn, a1, a2, a3, _, a5, _, _, _, a9⟩ := next_ok s i h2 (by rw [h3])
    rw [h3] at hn
    simp only [Prod.mk.injEq, and_true] at hn
    obtain ⟨rfl, rfl⟩ := hn
    rw [h1] at hE hin
    have hE2 : endW (insB s k) [1] (e + 1) = i + 1 := by
      refine endW_uniq (insB s k) [1] (by decide) (e + 1) (i + 1) (by omega) (by omega) (fun j g1 g2 => ?_) ?_
      · have := insB_hi s k (j - 1) (by omega) (by omega)
        rw [show j - 1 + 1 = j by omega] at this
        rw [this]; exact hin _ (by omega) (by omega)
      · rw [insB_hi s k i (by omega) h2]; simpa using a9
    have hst : Stop t ((insB s k).getD (i + 1 + (e2 - i)) 0) := by
      rw [show i + 1 + (e2 - i) = e2 + 1 by omega]
      rcases Nat.lt_or_ge e2 s.length with h | h
      · rw [insB_hi s k e2 (by omega) h]; exact a5
      · rw [show e2 = s.length by omega, insB_end s k (by omega)]; exact stop_blank hOk _ (.inl rfl)
    have hnx := next_same s (insB s k) i (i + 1) (e2 - i) t h2 (by rw [h3, show i + (e2 - i) = e2 by omega]) (by omega) (fun j hj => by
      rw [show i + 1 + j = i + j + 1 by omega]; exact insB_hi s k (i + j) (by omega) (by omega)) hst
    rw [show i + 1 + (e2 - i) = e2 + 1 by omega] at hnx
    obtain ⟨l', g1, g2⟩ := ih (by omega) a2 (if t.kind ≠ 5 then ((e2 + 1 : Nat) : Int) else -1) (by split <;> simp)
    refine ⟨_ :: l', .tok _ _ _ _ _ _ hE2 (by omega) hnx ?_ (by simpa using g1), ?_⟩
    · rintro ⟨h5, h6⟩
      rcases hl2 with h7 | h7
      · exact h4 ⟨h5, by omega⟩
      · omega
    · simp only [List.map_cons, g2, core]
theorem blank_lo (s : List UInt8) (k : Nat) (hks : k ≤ s.length) : ∀ (e : Nat) (last : Int) (l : List Tok), Sc s e last l → e ≤ k → (∃ t ∈ l, t.pos = (k : Nat)) → (last = -1 ∨ last ≤ (e : Nat)) → ∃ l', Sc (insB s k) e last l' ∧ l'.map core = l.map core := by
  intro e last l h
  induction h with
  | fin e last h => rintro _ ⟨t, ht, _⟩; simp at ht
  | tok e last i e2 t l h1 h2 h3 h4 hS ih =>
    intro hk hex hlast
    have he : e ≤ s.length := by omega
    have hE := endW_le s [1] e he
    have hin := endW_in s [1] e
    have hlen := insB_len s k hks
    have hOk : OkT t := ⟨s, i, e2, h2, h3⟩
    obtain ⟨t', e', hn, a1, a2, a3, _, a5, _, _, _, a9⟩ := next_ok s i h2 (by rw [h3])
    rw [h3] at hn
    simp only [Prod.mk.injEq, and_true] at hn
    obtain ⟨rfl, rfl⟩ := hn
    rw [h1] at hE hin
    by_cases hik : i = k
    · subst hik
      have hE2 : endW (insB s i) [1] e = i + 1 := by
        refine endW_uniq (insB s i) [1] (by decide) e (i + 1) (by omega) (by omega) (fun j g1 g2 => ?_) ?_
        · rcases Nat.lt_or_ge j i with h | h
          · rw [insB_lo s i j hks h]; exact hin _ (by omega) (by omega)
          · rw [show j = i by omega, insB_at s i hks]; exact cls32
        · rw [insB_hi s i i (by omega) h2]; simpa using a9
      have hst : Stop t ((insB s i).getD (i + 1 + (e2 - i)) 0) := by
        rw [show i + 1 + (e2 - i) = e2 + 1 by omega]
        rcases Nat.lt_or_ge e2 s.length with h | h
        · rw [insB_hi s i e2 (by omega) h]; exact a5
        · rw [show e2 = s.length by omega, insB_end s i hks]; exact stop_blank hOk _ (.inl rfl)
      have hnx := next_same s (insB s i) i (i + 1) (e2 - i) t h2 (by rw [h3, show i + (e2 - i) = e2 by omega]) (by omega) (fun j hj => by
        rw [show i + 1 + j = i + j + 1 by omega]; exact insB_hi s i (i + j) (by omega) (by omega)) hst
      rw [show i + 1 + (e2 - i) = e2 + 1 by omega] at hnx
      obtain ⟨l', g1, g2⟩ := blank_hi s i e2 _ l hS (by omega) a2 (if t.kind ≠ 5 then ((e2 + 1 : Nat) : Int) else -1) (by split <;> simp)
      refine ⟨_ :: l', .tok _ _ _ _ _ _ hE2 (by omega) hnx ?_ (by simpa using g1), ?_⟩
      · rintro ⟨h5, h6⟩
        omega
      · simp only [List.map_cons, g2, core]
    · obtain ⟨x, hx, hxp⟩ := hex
      have hxl : x ∈ l := by
        rcases List.mem_cons.1 hx with rfl | h
        · omega
        · exact h
      have hp := sc_pos hS a2 x hxl
      have hE2 : endW (insB s k) [1] e = i := by
        refine endW_uniq (insB s k) [1] (by decide) e i (by omega) (by omega) (fun j g1 g2 => ?_) ?_
        · rw [insB_lo s k j hks (by omega)]; exact hin _ (by omega) (by omega)
        · rw [insB_lo s k i hks (by omega)]; simpa using a9
      have hst : Stop t ((insB s k).getD (i + (e2 - i)) 0) := by
        rw [show i + (e2 - i) = e2 by omega]
        rcases Nat.lt_or_ge e2 k with h | h
        · rw [insB_lo s k e2 hks h]; exact a5
        · rw [show e2 = k by omega, insB_at s k hks]; exact stop_blank hOk _ (.inl rfl)
      have hnx := next_same s (insB s k) i i (e2 - i) t h2 (by rw [h3, show i + (e2 - i) = e2 by omega]) (by omega) (fun j hj => insB_lo s k (i + j) hks (by omega)) hst
      rw [show i + (e2 - i) = e2 by omega] at hnx
      obtain ⟨l', g1, g2⟩ := ih (by omega) ⟨x, hxl, hxp⟩ (by split <;> simp)
      refine ⟨_ :: l', .tok _ _ _ _ _ _ hE2 (by omega) hnx ?_ (by simpa using g1), ?_⟩
      · exact h4
      · simp only [List.map_cons, g2, core]

end Go.Proofs.YtbikmhpobflfeaaDoor
namespace Go.Proofs.YtbikmhpobflfeaaDoor
open Go.Ab
namespace TM
set_option maxRecDepth 100000
set_option linter.unusedSimpArgs false
set_option linter.unusedVariables false
theorem u3 : env.P.underlying 3 = some (.int .i64) := by kernel_rfl
theorem u9 : env.P.underlying 9 = some .string := by kernel_rfl
theorem u5 : env.P.underlying 5 = some (.int .u8) := by kernel_rfl
theorem u97 : env.P.underlying 97 = some (.slice 5) := by kernel_rfl
theorem s5 : sz env 5 = some 1 := by kernel_rfl
theorem b5 : bys env 5 = some 1 := by kernel_rfl
theorem e97 : elemS env 97 = some 5 := by kernel_rfl
theorem z5 : zeroN env 5 = some 1 := by kernel_rfl
theorem zv5 : ∃ z, zeroV env 5 = some z ∧ z.cells.length = 1 := ⟨.int .u8 0, by kernel_rfl, rfl⟩
theorem tys : env.P.underlying 3 = some (.int .i64) ∧ env.P.underlying 9 = some .string ∧ env.P.underlying 97 = some (.slice 5) := ⟨u3, u9, u97⟩
theorem mb (r : Nat) : env.mutb 38 r = false := rfl
theorem stb (r : Nat) : env.stab 38 r = false := rfl
theorem at38 : env.P.funcs[38]? = some Tryd.f38 := by kernel_rfl

def repS (n : Nat) (s : List UInt8) : List UInt8 := (List.replicate n s).flatten
theorem repS_len (n : Nat) (s : List UInt8) : (repS n s).length = n * s.length := by
  simp [repS]
theorem repS_succ (n : Nat) (s : List UInt8) : repS (n + 1) s = repS n s ++ s := by
  unfold repS
  rw [List.replicate_succ', List.flatten_append]
  simp

theorem bytesOf_cells : ∀ s : List UInt8, bytesOf (byteCells s) = some s
  | [] => rfl
  | b :: s => by
    have h := bytesOf_cells s
    unfold byteCells at h ⊢
    simp only [List.map_cons, bytesOf, h, Option.map_some, Option.some.injEq, List.cons.injEq, and_true]
    simp

noncomputable def mkO (σ : S) (v : V) : Option (V × S) := astate env false (fun o => match o with | .const c => ofVal c | _ => some v) σ (.makeSlice 97 (.const (.int .i64 0)) (.tmp 0))
theorem make_op {T : Tm} {σ : S} (x : Operand) : opT env false T σ (.makeSlice 97 (.const (.int .i64 0)) x) = (evalT env T x).bind (mkO σ) := by
  have e : opT env false T σ (.makeSlice 97 (.const (.int .i64 0)) x) = astate env false (evalT env T) σ (.makeSlice 97 (.const (.int .i64 0)) x) := rfl
  rw [e]
  unfold mkO
  simp only [astate]
  cases evalT env T x <;> rfl
theorem mkO_pos {σ : S} {c : Int} (h1 : 0 < c) (h2 : c ≤ lim) : mkO σ (.int .i64 c) = some (.row [] 0 (.tok σ.toks.length 0 1), ⟨σ.heap, σ.toks ++ [0]⟩) := by
  obtain ⟨z, hz, hl⟩ := zv5
  have h3 : ¬ (0 : Int) = c := by omega
  have h4 : ¬ c.toNat = 0 := by omega
  have h5 : (0 : Int) ≤ c := by omega
  have h6 : c * ((1 : Nat) : Int) ≤ (lim : Int) := by omega
  unfold mkO
  simp only [astate, ofVal, ofCell, Option.bind_some, e97, s5, b5, hz, hl, Nat.mul_one, h4, h5, h2, h3, h6, if_false, if_true, and_self, true_and, or_false, Int.le_refl, Bool.false_eq_true, Int.toNat_zero, List.take_zero]
theorem len_str {s : List UInt8} : vLenT (some .string) (.str s) = some (.int .i64 s.length) := rfl
theorem app_str {hp : List AObj} {ts : List Nat} {cs : List V} {k e : Nat} (hk : ts[k]? = some e) {s : List UInt8} (hn : s.length ≠ 0) (hb : cs.length + s.length ≤ lim) :
    appO env false ⟨hp, ts⟩ 97 9 (.row cs cs.length (.tok k e 1)) (.str s) = some (.row (cs ++ byteCells s) (cs ++ byteCells s).length (.tok k (e + 1) 1), ⟨hp, ts.set k (e + 1)⟩) := by
  have hc : (byteCells s).all V.isCell = true := by
    simp [byteCells, V.isCell]
  have hv : vCells hp 1 s.length (.str s) = some (byteCells s) := by simp [vCells, byteCells]
  have hl : (byteCells s).length = s.length := by simp [byteCells]
  unfold appO
  simp only [e97, s5, b5, u9, z5, vLen, hv, Option.bind_some, if_true]
  simp only [aappend, hn, if_false, hb, hc, hk, Nat.mul_one, and_self, if_true, List.length_append, hl]

theorem conv_row {hp : List AObj} {ts : List Nat} {s : List UInt8} {c : RCap} {a b : TypeId} : convO env ⟨hp, ts⟩ a b (some (.slice 5)) (some .string) (.row (byteCells s) (byteCells s).length c) = some (.str s, ⟨hp, ts⟩) := by
  have hv : vCells hp 1 (byteCells s).length (.row (byteCells s) (byteCells s).length c) = some (byteCells s) := by simp [vCells]
  simp [convO, convP, convR, u5, hv, bytesOf_cells]

theorem times_ok (s : List UInt8) (n : Nat) (hs : s.length ≠ 0) (hs2 : s.length ≤ 1000) (h1 : 1 ≤ n) (h2 : n ≤ 10000) (σ : S) : callFn env (ev env) 38 [.str s, .int .i64 n] σ = some (.str (repS n s), σ) := by
  refine callFn_pure rfl rfl rfl at38 rfl (by simp [Tryd.f38]) (by simp [Tryd.f38]) (G_start ?_) σ
  have c1 : (n : Int) > 0 := by omega
  have hm : 0 < (n : Int) * (s.length : Int) ∧ (n : Int) * (s.length : Int) ≤ 10000000 := by
    have h3 : n * s.length ≤ 10000 * 1000 := Nat.mul_le_mul h2 hs2
    have h4 : 0 < n * s.length := Nat.mul_pos (by omega) (by omega)
    have h5 : ((n * s.length : Nat) : Int) = (n : Int) * (s.length : Int) := by simp
    omega
  have e1 : IntKind.i64.wrap ((n : Int) * (s.length : Int)) = (n : Int) * (s.length : Int) := Go.IntWalk.i64_in _ (by omega)
  have c2 : 0 < (n : Int) * (s.length : Int) ∧ (n : Int) * (s.length : Int) ≤ ((lim : Nat) : Int) := ⟨hm.1, by unfold lim; omega⟩
  simp only [Tryd.f38, Zaa, Zab, Zac, Zad, Zae, Zaf, Zag, Zah, Zai, Zaj, Zak, Zal, Zam, Zan, Zao, Zap, Zaq, Zar, Zas, Zat, Zau, Zav, Zaw, Zax, Zay, Zaz, Zba, Zbb, Zbc, Zbe, Zbf, Zbg, Zbh, Zbi, Zbj, Zbk, Zbl, Zbm, Zbn, Zbo, Zbp, Zbq, Zbr, Zbs, Zbt, Zbu, Zbv, Zbw, Zbx, Zby, Zbz, Zca, Zcb, Zcc, Zcd, Zce, Zcf, Zcg, evalT, Zch, Nat.reduceLT, Nat.reduceEqDiff, if_true, if_false, reduceIte, true_and, Zci, Zcj, map_ite', Zck, bind_ite', Zcl, Zcm, Zcn, Zco, Zcp, Zcq, Zcr, Zcs, Zct, Zcu, Zcv, Zcw, Zcx, Zcy, Zcz, Zda, Zdb, Zdc, Zdd, Zde, Zdf, Zdg, ofVal, ofCell, argT, List.getD_cons_zero, List.getD_cons_succ, List.getElem?_toArray, List.getElem?_cons_zero, List.getElem?_cons_succ, List.nil_append, List.cons_append, List.append_nil, resT, Zdh, Zdi, Nat.mul_one, Zdj, Zdk, Zdl, Zdm, Zdn, Zdo, Zdp, Zdq, Zdr, Zds, Zdt, setT, Zdu, Zdv, Zdw, Zdx, Zdy, List.append_eq, Zdz, Zea, Zeb, Zec, Zed, Zee, Zef, Zeg, Zeh, Nat.add_zero, Zei, Zej, Zek, Zel, Zem, Zen, Int.toNat_natCast, Bool.false_eq_true, Int.reduceEq, Int.reduceLT, Int.reduceLE, Int.reduceNeg, not_false_eq_true, and_self, Zeo, Zep, Int.natCast_one, Int.cast_ofNat_Int, not_true_eq_false, decide_true, decide_false, true_implies, false_implies, Int.toNat_zero, List.length_cons, List.length_nil, Nat.zero_add, mb, Nat.reduceBEq, Bool.false_and, Bool.and_false, Zeq, tys, stb, Zer, Zes, Zet, Zeu, Zev, Zew, Bool.or_false, Bool.false_or, Bool.true_and, Bool.or_true, Bool.true_or, Zex, Zey, make_op, c1, e1, mkO_pos hm.1 (show (n : Int) * (s.length : Int) ≤ ((lim : Nat) : Int) by unfold lim; omega), S.empty, len_str]
  have hw : ∀ i : Nat, byteCells (repS (i + 1) s) = byteCells (repS i s) ++ byteCells s := by
    intro i; rw [repS_succ]; simp [byteCells]
  have hbl : ∀ i : Nat, (byteCells (repS i s)).length = i * s.length := by
    intro i; simp only [byteCells, List.length_map, repS_len]
  refine loop_rule (fun m T D σ => D = [] ∧ σ.heap = [] ∧ ∃ i k e : Nat, T 0 = .str s ∧ T 1 = .int .i64 n ∧ T 6 = .int .i64 i ∧ i ≤ n ∧ m = n - i ∧
    T 5 = .row (byteCells (repS i s)) (byteCells (repS i s)).length (.tok k e 1) ∧ σ.toks[k]? = some e) ?_ _ _ _ _ ⟨rfl, rfl, 0, 0, 0, rfl, rfl, rfl, by omega, rfl, rfl, rfl⟩
  rintro m T D ⟨hp, ts⟩ ⟨rfl, hh, i, k, e, t0, t1, t6, hi, rfl, t5, hk⟩
  simp only at hh hk
  subst hh
  refine G_start ?_
  by_cases hlt : i < n
  · have d1 : (i : Int) < (n : Int) := by omega
    have d2 : IntKind.i64.wrap ((i : Int) + 1) = ((i + 1 : Nat) : Int) := by rw [wrap_i64 (by omega) (by omega)]; omega
    have hsm : i * s.length ≤ 10000 * 1000 := Nat.mul_le_mul (by omega) hs2
    have hb : (byteCells (repS i s)).length + s.length ≤ lim := by rw [hbl]; unfold lim; omega
    simp only [Zaa, Zab, Zac, Zad, Zae, Zaf, Zag, Zah, Zai, Zaj, Zak, Zal, Zam, Zan, Zao, Zap, Zaq, Zar, Zas, Zat, Zau, Zav, Zaw, Zax, Zay, Zaz, Zba, Zbb, Zbc, Zbe, Zbf, Zbg, Zbh, Zbi, Zbj, Zbk, Zbl, Zbm, Zbn, Zbo, Zbp, Zbq, Zbr, Zbs, Zbt, Zbu, Zbv, Zbw, Zbx, Zby, Zbz, Zca, Zcb, Zcc, Zcd, Zce, Zcf, Zcg, evalT, Zch, Nat.reduceLT, Nat.reduceEqDiff, if_true, if_false, reduceIte, true_and, Zci, Zcj, map_ite', Zck, bind_ite', Zcl, Zcm, Zcn, Zco, Zcp, Zcq, Zcr, Zcs, Zct, Zcu, Zcv, Zcw, Zcx, Zcy, Zcz, Zda, Zdb, Zdc, Zdd, Zde, Zdf, Zdg, ofVal, ofCell, argT, List.getD_cons_zero, List.getD_cons_succ, List.getElem?_toArray, List.getElem?_cons_zero, List.getElem?_cons_succ, List.nil_append, List.cons_append, List.append_nil, resT, Zdh, Zdi, Nat.mul_one, Zdj, Zdk, Zdl, Zdm, Zdn, Zdo, Zdp, Zdq, Zdr, Zds, Zdt, setT, Zdu, Zdv, Zdw, Zdx, Zdy, List.append_eq, Zdz, Zea, Zeb, Zec, Zed, Zee, Zef, Zeg, Zeh, Nat.add_zero, Zei, Zej, Zek, Zel, Zem, Zen, Int.toNat_natCast, Bool.false_eq_true, Int.reduceEq, Int.reduceLT, Int.reduceLE, Int.reduceNeg, not_false_eq_true, and_self, Zeo, Zep, Int.natCast_one, Int.cast_ofNat_Int, not_true_eq_false, decide_true, decide_false, true_implies, false_implies, Int.toNat_zero, List.length_cons, List.length_nil, Nat.zero_add, mb, Nat.reduceBEq, Bool.false_and, Bool.and_false, Zeq, tys, stb, Zer, Zes, Zet, Zeu, Zev, Zew, Bool.or_false, Bool.false_or, Bool.true_and, Bool.or_true, Bool.true_or, Zex, Zey, t0, t1, t5, t6, d1, d2, app_str hk hs hb]
    refine ⟨n - (i + 1), by omega, i + 1, k, e + 1, rfl, by omega, rfl, ?_, ?_⟩
    · rw [hw]
    · have : k < ts.length := by
        rcases Nat.lt_or_ge k ts.length with h1 | h1
        · exact h1
        · rw [List.getElem?_eq_none h1] at hk; simp at hk
      simp [this]
  · have d1 : ¬ (i : Int) < (n : Int) := by omega
    obtain rfl : i = n := by omega
    simp only [Zaa, Zab, Zac, Zad, Zae, Zaf, Zag, Zah, Zai, Zaj, Zak, Zal, Zam, Zan, Zao, Zap, Zaq, Zar, Zas, Zat, Zau, Zav, Zaw, Zax, Zay, Zaz, Zba, Zbb, Zbc, Zbe, Zbf, Zbg, Zbh, Zbi, Zbj, Zbk, Zbl, Zbm, Zbn, Zbo, Zbp, Zbq, Zbr, Zbs, Zbt, Zbu, Zbv, Zbw, Zbx, Zby, Zbz, Zca, Zcb, Zcc, Zcd, Zce, Zcf, Zcg, evalT, Zch, Nat.reduceLT, Nat.reduceEqDiff, if_true, if_false, reduceIte, true_and, Zci, Zcj, map_ite', Zck, bind_ite', Zcl, Zcm, Zcn, Zco, Zcp, Zcq, Zcr, Zcs, Zct, Zcu, Zcv, Zcw, Zcx, Zcy, Zcz, Zda, Zdb, Zdc, Zdd, Zde, Zdf, Zdg, ofVal, ofCell, argT, List.getD_cons_zero, List.getD_cons_succ, List.getElem?_toArray, List.getElem?_cons_zero, List.getElem?_cons_succ, List.nil_append, List.cons_append, List.append_nil, resT, Zdh, Zdi, Nat.mul_one, Zdj, Zdk, Zdl, Zdm, Zdn, Zdo, Zdp, Zdq, Zdr, Zds, Zdt, setT, Zdu, Zdv, Zdw, Zdx, Zdy, List.append_eq, Zdz, Zea, Zeb, Zec, Zed, Zee, Zef, Zeg, Zeh, Nat.add_zero, Zei, Zej, Zek, Zel, Zem, Zen, Int.toNat_natCast, Bool.false_eq_true, Int.reduceEq, Int.reduceLT, Int.reduceLE, Int.reduceNeg, not_false_eq_true, and_self, Zeo, Zep, Int.natCast_one, Int.cast_ofNat_Int, not_true_eq_false, decide_true, decide_false, true_implies, false_implies, Int.toNat_zero, List.length_cons, List.length_nil, Nat.zero_add, mb, Nat.reduceBEq, Bool.false_and, Bool.and_false, Zeq, tys, stb, Zer, Zes, Zet, Zeu, Zev, Zew, Bool.or_false, Bool.false_or, Bool.true_and, Bool.or_true, Bool.true_or, Zex, Zey, t0, t1, t5, t6, d1, conv_row]
    simp [oneOr, sealDepth, sealV, V.closed]
end TM
end Go.Proofs.YtbikmhpobflfeaaDoor

namespace Go.Proofs.YtbikmhpobflfeaaDoor
open Go.Ab
set_option maxRecDepth 100000
set_option linter.unusedSimpArgs false
set_option linter.unusedVariables false
/-! ### the chapter's examples -/
theorem k53 (σ : S) : callFn env (ev env) 53 [.str [99, 111, 108, 111, 117, 114], .int .i64 0] σ = some (.agg [.int .i64 1, .str [99, 111, 108, 111, 117, 114], .int .i64 0, .int .i64 0], σ) := row_of_run rfl rfl rfl (k := 20) (by rw [← runQ_eq]; kernel_rfl) σ
theorem k54 (σ : S) : callFn env (ev env) 54 [.str [61], .int .i64 7] σ = some (.agg [.int .i64 5, .str [61], .int .i64 0, .int .i64 7], σ) := row_of_run rfl rfl rfl (k := 20) (by rw [← runQ_eq]; kernel_rfl) σ
theorem k52a (σ : S) : callFn env (ev env) 52 [.str [99, 111, 108, 111, 117, 114, 32, 61, 32, 39, 114, 101, 100, 39], .row [.int .i64 1, .str [99, 111, 108, 111, 117, 114], .int .i64 0, .int .i64 0, .int .i64 5, .str [61], .int .i64 0, .int .i64 7, .int .i64 4, .str [114, 101, 100], .int .i64 0, .int .i64 9] 3 .full] σ = some (.bool true, σ) := row_of_run rfl rfl (by kernel_rfl) (k := 2000) (by rw [← runQ_eq]; kernel_rfl) σ
theorem k52b (σ : S) : callFn env (ev env) 52 [.str [], .nilsl] σ = some (.bool true, σ) := row_of_run rfl rfl (by kernel_rfl) (k := 2000) (by rw [← runQ_eq]; kernel_rfl) σ
theorem k52c (σ : S) : callFn env (ev env) 52 [.str [32, 32], .nilsl] σ = some (.bool true, σ) := row_of_run rfl rfl (by kernel_rfl) (k := 2000) (by rw [← runQ_eq]; kernel_rfl) σ
theorem k55a (σ : S) : callFn env (ev env) 55 [.str [97, 32, 48, 48, 55], .int .i64 11, .int .i64 2] σ = some (.bool true, σ) := row_of_run rfl rfl (by kernel_rfl) (k := 2000) (by rw [← runQ_eq]; kernel_rfl) σ
theorem k55b (σ : S) : callFn env (ev env) 55 [.str [39, 102, 114, 111, 109, 39], .int .i64 11, .int .i64 0] σ = some (.bool true, σ) := row_of_run rfl rfl (by kernel_rfl) (k := 2000) (by rw [← runQ_eq]; kernel_rfl) σ
theorem k55c (σ : S) : callFn env (ev env) 55 [.str [97, 59, 98], .int .i64 11, .int .i64 1] σ = some (.bool true, σ) := row_of_run rfl rfl (by kernel_rfl) (k := 2000) (by rw [← runQ_eq]; kernel_rfl) σ
theorem k55d (σ : S) : callFn env (ev env) 55 [.str [49, 48, 48, 48, 48, 48, 48, 48, 48, 49], .int .i64 2, .int .i64 0] σ = some (.bool true, σ) := row_of_run rfl rfl (by kernel_rfl) (k := 2000) (by rw [← runQ_eq]; kernel_rfl) σ
theorem k55e (σ : S) : callFn env (ev env) 55 [.str [97, 97, 97, 97, 97, 97, 97, 97, 97, 97, 97, 97, 97, 97, 97, 97, 97, 97, 97, 97, 97], .int .i64 19, .int .i64 0] σ = some (.bool true, σ) := row_of_run rfl rfl (by kernel_rfl) (k := 2000) (by rw [← runQ_eq]; kernel_rfl) σ
theorem at55 : env.P.funcs[55]? = some Tryd.f55 := by kernel_rfl
theorem k55f (σ : S) : callFn env (ev env) 55 [.str (TM.repS 2001 [32]), .int .i64 4, .int .i64 2000] σ = some (.bool true, σ) := by
  have hlen : (TM.repS 2001 [32]).length = 2001 := by rw [TM.repS_len]; rfl
  generalize TM.repS 2001 [32] = s at *
  have hA := split_call s (by omega)
  have hv : splitV s = .tup [.nilsl, .agg [.int .i64 4, .int .i64 2000]] := by unfold splitV; rw [if_pos (by omega)]
  rw [hv] at hA
  have q0 : ∀ a b : V, aload env [.cells [a, b] 47] 47 (.ptr 0 0) = some (.agg [a, b]) := fun a b => ld47 rfl
  refine callFn_pure rfl rfl rfl at55 rfl (by simp [Tryd.f55]) (by simp [Tryd.f55]) (G_start ?_) σ
  simp -implicitDefEqProofs only [Tryd.f55, Zaa, Zab, Zac, Zad, Zae, Zaf, Zag, Zah, Zai, Zaj, Zak, Zal, Zam, Zan, Zao, Zap, Zaq, Zar, Zas, Zat, Zau, Zav, Zaw, Zax, Zay, Zaz, Zba, Zbb, Zbc, Zbd, Zbe, Zbf, Zbg, Zbh, Zbi, Zbj, Zbk, Zbl, Zbm, Zbn, Zbo, Zbp, Zbq, Zbr, Zbs, Zbt, Zbu, Zbv, Zbw, Zbx, Zby, Zbz, Zca, Zcb, Zcc, Zcd, Zce, Zcf, Zcg, evalT, Zch, Nat.reduceLT, Nat.reduceEqDiff, if_true, if_false, reduceIte, true_and, Zci, Zcj, map_ite', Zck, bind_ite', Zcl, Zcm, Zcn, Zco, Zcp, Zcq, Zcr, Zcs, Zct, Zcu, Zcv, Zcw, Zcx, Zcy, Zcz, Zda, Zdb, Zdc, Zdd, Zde, Zdf, Zdg, ofVal, ofCell, argT, List.getD_cons_zero, List.getD_cons_succ, List.getElem?_toArray, List.getElem?_cons_zero, List.getElem?_cons_succ, List.nil_append, List.cons_append, List.append_nil, resT, Zdh, Zdi, Nat.mul_one, Zdj, Zdk, Zdl, Zdm, Zdn, Zdo, Zdp, Zdq, Zdr, Zds, Zdt, setT, Zdu, Zdv, Zdw, Zdx, Zdy, List.append_eq, Zdz, Zea, Zeb, Zec, Zed, Zee, Zef, Zeg, Zeh, Nat.add_zero, Zei, Zej, Zek, Zel, Zem, Zen, Int.toNat_natCast, Bool.false_eq_true, Int.reduceEq, Int.reduceLT, Int.reduceLE, Int.reduceNeg, not_false_eq_true, and_self, Zeo, Zep, Int.natCast_one, Int.cast_ofNat_Int, not_true_eq_false, decide_true, decide_false, true_implies, false_implies, Int.toNat_zero, List.length_cons, List.length_nil, Nat.zero_add, mb, Nat.reduceBEq, Bool.false_and, Bool.and_false, Zeq, tys, stb, Zer, Zes, Zet, Zeu, Zev, Zew, Bool.or_false, Bool.false_or, Bool.true_and, Bool.or_true, Bool.true_or, Zex, Zey, storeList, List.take_zero, List.take_succ_cons, List.drop_zero, List.drop_succ_cons, List.drop_nil, List.all_cons, List.all_nil, List.set_cons_zero, List.set_cons_succ, cells_hsl, isCell_hsl, Nat.reduceAdd, Nat.reduceLeDiff, empty_mk, hA, zv47, s47, Zeg, isCell_int, q0, eq47, u45, build47]
  simp [oneOr, sealDepth, sealV_bool]
theorem k38a (σ : S) : callFn env (ev env) 38 [.str [97], .int .i64 21] σ = some (.str [97, 97, 97, 97, 97, 97, 97, 97, 97, 97, 97, 97, 97, 97, 97, 97, 97, 97, 97, 97, 97], σ) := TM.times_ok [97] 21 (by decide) (by decide) (by decide) (by decide) σ
theorem k38b (σ : S) : callFn env (ev env) 38 [.str [32], .int .i64 2001] σ = some (.str (TM.repS 2001 [32]), σ) := TM.times_ok [32] 2001 (by decide) (by decide) (by decide) (by decide) σ
theorem k35 (σ : S) : callFn env (ev env) 35 [.str [40, 32, 97, 43, 49, 32, 41, 32, 44, 32, 51, 32, 47, 32, 50, 32, 44, 32, 49, 32, 46, 46, 32, 53]] σ = some (.tup [.row [.int .i64 5, .str [40], .int .i64 0, .int .i64 0, .int .i64 1, .str [97], .int .i64 0, .int .i64 2, .int .i64 5, .str [43], .int .i64 0, .int .i64 3, .int .i64 3, .str [49], .int .i64 1, .int .i64 4, .int .i64 5, .str [41], .int .i64 0, .int .i64 6, .int .i64 5, .str [44], .int .i64 0, .int .i64 8, .int .i64 3, .str [51], .int .i64 3, .int .i64 10, .int .i64 5, .str [47], .int .i64 0, .int .i64 12, .int .i64 3, .str [50], .int .i64 2, .int .i64 14, .int .i64 5, .str [44], .int .i64 0, .int .i64 16, .int .i64 3, .str [49], .int .i64 1, .int .i64 18, .int .i64 5, .str [46, 46], .int .i64 0, .int .i64 20, .int .i64 3, .str [53], .int .i64 5, .int .i64 23] 13 .unk, .agg [.int .i64 0, .int .i64 0]], σ) := row_of_run rfl rfl rfl (k := 2000) (by rw [← runQ_eq]; kernel_rfl) σ
theorem k48 (σ : S) : callFn env (ev env) 48 [.row [.int .i64 5, .str [40], .int .i64 0, .int .i64 0, .int .i64 1, .str [97], .int .i64 0, .int .i64 2, .int .i64 5, .str [43], .int .i64 0, .int .i64 3, .int .i64 3, .str [49], .int .i64 1, .int .i64 4, .int .i64 5, .str [41], .int .i64 0, .int .i64 6, .int .i64 5, .str [44], .int .i64 0, .int .i64 8, .int .i64 3, .str [51], .int .i64 3, .int .i64 10, .int .i64 5, .str [47], .int .i64 0, .int .i64 12, .int .i64 3, .str [50], .int .i64 2, .int .i64 14, .int .i64 5, .str [44], .int .i64 0, .int .i64 16, .int .i64 3, .str [49], .int .i64 1, .int .i64 18, .int .i64 5, .str [46, 46], .int .i64 0, .int .i64 20, .int .i64 3, .str [53], .int .i64 5, .int .i64 23] 13 .unk] σ = some (.str [40, 97, 32, 43, 32, 49, 41, 44, 32, 51, 47, 50, 44, 32, 49, 46, 46, 53], σ) := row_of_run rfl rfl (by kernel_rfl) (k := 2000) (by rw [← runQ_eq]; kernel_rfl) σ
theorem at12 : env.P.funcs[12]? = some Tryd.f12 := by kernel_rfl
theorem known_call (σ : S) : callFn env (ev env) 12 [] σ = some (.bool true, σ) := by
  have q0 : ∀ a b : V, aload env [.cells [a, b] 47] 47 (.ptr 0 0) = some (.agg [a, b]) := fun a b => ld47 rfl
  have r1 : rowO env 45 3 [(0, .agg [.int .i64 1, .str [99, 111, 108, 111, 117, 114], .int .i64 0, .int .i64 0]), (1, .agg [.int .i64 5, .str [61], .int .i64 0, .int .i64 7]), (2, .agg [.int .i64 4, .str [114, 101, 100], .int .i64 0, .int .i64 9])] = some (.row [.int .i64 1, .str [99, 111, 108, 111, 117, 114], .int .i64 0, .int .i64 0, .int .i64 5, .str [61], .int .i64 0, .int .i64 7, .int .i64 4, .str [114, 101, 100], .int .i64 0, .int .i64 9] 3 .full) := by kernel_rfl
  have b1 : buildO env 52 [(0, .int .i64 4), (1, .str [114, 101, 100]), (3, .int .i64 9)] = some (.agg [.int .i64 4, .str [114, 101, 100], .int .i64 0, .int .i64 9]) := by kernel_rfl
  refine callFn_pure rfl rfl rfl at12 rfl (by simp [Tryd.f12]) (by simp [Tryd.f12]) (G_start ?_) σ
  simp -implicitDefEqProofs only [Tryd.f12, Zaa, Zab, Zac, Zad, Zae, Zaf, Zag, Zah, Zai, Zaj, Zak, Zal, Zam, Zan, Zao, Zap, Zaq, Zar, Zas, Zat, Zau, Zav, Zaw, Zax, Zay, Zaz, Zba, Zbb, Zbc, Zbd, Zbe, Zbf, Zbg, Zbh, Zbi, Zbj, Zbk, Zbl, Zbm, Zbn, Zbo, Zbp, Zbq, Zbr, Zbs, Zbt, Zbu, Zbv, Zbw, Zbx, Zby, Zbz, Zca, Zcb, Zcc, Zcd, Zce, Zcf, Zcg, evalT, Zch, Nat.reduceLT, Nat.reduceEqDiff, if_true, if_false, reduceIte, true_and, Zci, Zcj, map_ite', Zck, bind_ite', Zcl, Zcm, Zcn, Zco, Zcp, Zcq, Zcr, Zcs, Zct, Zcu, Zcv, Zcw, Zcx, Zcy, Zcz, Zda, Zdb, Zdc, Zdd, Zde, Zdf, Zdg, ofVal, ofCell, argT, List.getD_cons_zero, List.getD_cons_succ, List.getElem?_toArray, List.getElem?_cons_zero, List.getElem?_cons_succ, List.nil_append, List.cons_append, List.append_nil, resT, Zdh, Zdi, Nat.mul_one, Zdj, Zdk, Zdl, Zdm, Zdn, Zdo, Zdp, Zdq, Zdr, Zds, Zdt, setT, Zdu, Zdv, Zdw, Zdx, Zdy, List.append_eq, Zdz, Zea, Zeb, Zec, Zed, Zee, Zef, Zeg, Zeh, Nat.add_zero, Zei, Zej, Zek, Zel, Zem, Zen, Int.toNat_natCast, Bool.false_eq_true, Int.reduceEq, Int.reduceLT, Int.reduceLE, Int.reduceNeg, not_false_eq_true, and_self, Zeo, Zep, Int.natCast_one, Int.cast_ofNat_Int, not_true_eq_false, decide_true, decide_false, true_implies, false_implies, Int.toNat_zero, List.length_cons, List.length_nil, Nat.zero_add, mb, Nat.reduceBEq, Bool.false_and, Bool.and_false, Zeq, tys, stb, Zer, Zes, Zet, Zeu, Zev, Zew, Bool.or_false, Bool.false_or, Bool.true_and, Bool.or_true, Bool.true_or, Zex, Zey, storeList, List.take_zero, List.take_succ_cons, List.drop_zero, List.drop_succ_cons, List.drop_nil, List.all_cons, List.all_nil, List.set_cons_zero, List.set_cons_succ, cells_hsl, isCell_hsl, Nat.reduceAdd, Nat.reduceLeDiff, empty_mk, k53, k54, k52a, k52b, k52c, k55a, k55b, k55c, k55d, k55e, k55f, k38a, k38b, k35, k48, awake_call, zv47, s47, Zeg, isCell_int, q0, eq47, u45, build47, build470, opT_rowO, r1, b1, vBin_seql]
  trace_state
  simp [oneOr, sealDepth, sealV_bool]

end Go.Proofs.YtbikmhpobflfeaaDoor
namespace Go.Proofs.YtbikmhpobflfeaaDoor
open Go.Ab
set_option maxRecDepth 100000
set_option linter.unusedSimpArgs false
set_option linter.unusedVariables false
/-! ### tokens that are equal but for their places -/
theorem at56 : env.P.funcs[56]? = some Tryd.f56 := by kernel_rfl
theorem core_eq {a b : Tok} (h : core a = core b) : a.kind = b.kind ∧ a.text = b.text ∧ a.n = b.n := by
  simp only [core, Tok.mk.injEq] at h; exact ⟨h.1, h.2.1, h.2.2.1⟩
theorem map_core_at {l l' : List Tok} (h : l'.map core = l.map core) : l'.length = l.length ∧ ∀ i, i < l.length → core (l'.getD i Tok.none) = core (l.getD i Tok.none) := by
  have hlen : l'.length = l.length := by have := congrArg List.length h; simpa using this
  refine ⟨hlen, fun j hj => ?_⟩
  have := congrArg (fun x => x[j]?) h
  simp only [List.getElem?_map, List.getElem?_eq_getElem hj, List.getElem?_eq_getElem (show j < l'.length by omega), Option.map_some, Option.some.injEq] at this
  simpa [List.getD, hj, show j < l'.length by omega] using this
def oT (c : Tok) : AObj := .cells [.int .i64 c.kind, .str c.text, .int .i64 c.n, .int .i64 c.pos] 52
theorem fo523' : fldOff env 52 3 = some 3 := by kernel_rfl
theorem alike_region {Q : Post} {ks : List Kt} {T : Tm} {D : List DE} {L : List AObj} {ts : List Nat} {v w : V} {l l' : List Tok} {i : Nat} (hv : IsT v l) (hw : IsT w l') (h1 : i < l.length) (h2 : i < l'.length)
    (t0 : T 0 = v) (t1 : T 1 = w) (t5 : T 5 = .int .i64 i)
    (h : ∀ T', T' 0 = v → T' 1 = w → T' 5 = .int .i64 i → T' 6 = .ptr L.length 0 → T' 7 = .ptr (L.length + 1) 0 → G env 56 none 32 Q ks .skip T' D ⟨L ++ [oT (l.getD i Tok.none), oT (l'.getD i Tok.none)], ts⟩) :
    G env 56 none 32 Q ks (regB 6 (bodyOf Tryd.f56)) T D ⟨L, ts⟩ := by
  have hx := idx_T hv h1
  have hy := idx_T hw h2
  unfold oT at h
  generalize l.getD i Tok.none = x at *
  generalize l'.getD i Tok.none = y at *
  simp only [regB, bodyOf, Tryd.f56, Option.getD_some, regO, Option.or, Nat.reduceEqDiff, if_false, if_true, reduceIte]
  refine G_float rfl (fun s => True) (L := [.cells [.int .i64 0, .str [], .int .i64 0, .int .i64 0] 52, .cells [.int .i64 0, .str [], .int .i64 0, .int .i64 0] 52])
    (masks := [0, 0, 3, 7, 0, 0, 48, 112, 0, 0, 783, 2047]) (al := [8, 9]) (by kernel_rfl) (by kernel_rfl) (by kernel_rfl) (by kernel_rfl) (by kernel_rfl) trivial ?_
  simp -implicitDefEqProofs only [Zaa, Zab, Zac, Zad, Zae, Zaf, Zag, Zah, Zai, Zaj, Zak, Zal, Zam, Zan, Zao, Zap, Zaq, Zar, Zas, Zat, Zau, Zav, Zaw, Zax, Zay, Zaz, Zba, Zbb, Zbc, Zbd, Zbe, Zbf, Zbg, Zbh, Zbi, Zbj, Zbk, Zbl, Zbm, Zbn, Zbo, Zbp, Zbq, Zbr, Zbs, Zbt, Zbu, Zbv, Zbw, Zbx, Zby, Zbz, Zca, Zcb, Zcc, Zcd, Zce, Zcf, Zcg, evalT, Zch, Nat.reduceLT, Nat.reduceEqDiff, if_true, if_false, reduceIte, true_and, Zci, Zcj, map_ite', Zck, bind_ite', Zcl, Zcm, Zcn, Zco, Zcp, Zcq, Zcr, Zcs, Zct, Zcu, Zcv, Zcw, Zcx, Zcy, Zcz, Zda, Zdb, Zdc, Zdd, Zde, Zdf, Zdg, ofVal, ofCell, argT, List.getD_cons_zero, List.getD_cons_succ, List.getElem?_toArray, List.getElem?_cons_zero, List.getElem?_cons_succ, List.nil_append, List.cons_append, List.append_nil, resT, Zdh, Zdi, Nat.mul_one, Zdj, Zdk, Zdl, Zdm, Zdn, Zdo, Zdp, Zdq, Zdr, Zds, Zdt, setT, Zdu, Zdv, Zdw, Zdx, Zdy, List.append_eq, Zdz, Zea, Zeb, Zec, Zed, Zee, Zef, Zeg, Zeh, Nat.add_zero, Zei, Zej, Zek, Zel, Zem, Zen, Int.toNat_natCast, Bool.false_eq_true, Int.reduceEq, Int.reduceLT, Int.reduceLE, Int.reduceNeg, not_false_eq_true, and_self, Zeo, Zep, Int.natCast_one, Int.cast_ofNat_Int, not_true_eq_false, decide_true, decide_false, true_implies, false_implies, Int.toNat_zero, List.length_cons, List.length_nil, Nat.zero_add, mb, Nat.reduceBEq, Bool.false_and, Bool.and_false, Zeq, tys, stb, Zer, Zes, Zet, Zeu, Zev, Zew, Bool.or_false, Bool.false_or, Bool.true_and, Bool.or_true, Bool.true_or, Zex, Zey, Zez, Zfa, Zfb, Zfc, Zfd, Zfe, Zff, Zfg, Zfh, Zfi, Zfj, Zfk, Zfl, Zfm, Zfn, Zfo, Zfp, Zfq, Zfr, Zfs, Zft, Zfu, Zfv, Zfw, Zfx, Zfy, Zfz, Zga, Zgb, Zgc, Zgd, Zge, Zgf, Zgg, Zgh, Zgi, Zgj, Zgk, Zgl, Zgm, Zgn, Zgo, Zgp, Zgq, Zgr, Zgs, Zgt, Zgu, Zgv, Zgw, Zgx, Zgy, aread_load, t0, t1, t5, hx, hy, agg52, load4_rptr, end2_0, end2_1, set2_0, set2_1, storeList, List.take_zero, List.drop_zero, List.drop_succ_cons, List.drop_nil, List.all_cons, List.all_nil, isCell_str, isCell_int, Zeg, Nat.reduceAdd, Nat.reduceLeDiff, implies_true,
    ptr_new0 _ [8, 9] _ _ 8 rfl, ptr_new _ [8, 9] _ 1 _ 9 rfl, show Nat.testBit 783 8 = true from rfl, show Nat.testBit 2047 9 = true from rfl]
  exact h _ t0 t1 t5 rfl rfl
theorem alike_call (v w : V) (l l' : List Tok) (hv : IsT v l) (hw : IsT w l') (hc : l'.map core = l.map core) (hl : l.length ≤ 4000) (σ : S) : callFn env (ev env) 56 [v, w] σ = some (.bool true, σ) := by
  refine callFn_pure rfl rfl (by rw [List.all_cons, List.all_cons, closed_T hv, closed_T hw]; rfl) at56 rfl (by simp [Tryd.f56]) (by simp [Tryd.f56]) (G_start ?_) σ
  obtain ⟨hlen, hat⟩ := map_core_at hc
  have hlen2 : (l'.length : Int) = (l.length : Int) := by omega
  simp -implicitDefEqProofs only [Tryd.f56, Zaa, Zab, Zac, Zad, Zae, Zaf, Zag, Zah, Zai, Zaj, Zak, Zal, Zam, Zan, Zao, Zap, Zaq, Zar, Zas, Zat, Zau, Zav, Zaw, Zax, Zay, Zaz, Zba, Zbb, Zbc, Zbd, Zbe, Zbf, Zbg, Zbh, Zbi, Zbj, Zbk, Zbl, Zbm, Zbn, Zbo, Zbp, Zbq, Zbr, Zbs, Zbt, Zbu, Zbv, Zbw, Zbx, Zby, Zbz, Zca, Zcb, Zcc, Zcd, Zce, Zcf, Zcg, evalT, Zch, Nat.reduceLT, Nat.reduceEqDiff, if_true, if_false, reduceIte, true_and, Zci, Zcj, map_ite', Zck, bind_ite', Zcl, Zcm, Zcn, Zco, Zcp, Zcq, Zcr, Zcs, Zct, Zcu, Zcv, Zcw, Zcx, Zcy, Zcz, Zda, Zdb, Zdc, Zdd, Zde, Zdf, Zdg, ofVal, ofCell, argT, List.getD_cons_zero, List.getD_cons_succ, List.getElem?_toArray, List.getElem?_cons_zero, List.getElem?_cons_succ, List.nil_append, List.cons_append, List.append_nil, resT, Zdh, Zdi, Nat.mul_one, Zdj, Zdk, Zdl, Zdm, Zdn, Zdo, Zdp, Zdq, Zdr, Zds, Zdt, setT, Zdu, Zdv, Zdw, Zdx, Zdy, List.append_eq, Zdz, Zea, Zeb, Zec, Zed, Zee, Zef, Zeg, Zeh, Nat.add_zero, Zei, Zej, Zek, Zel, Zem, Zen, Int.toNat_natCast, Bool.false_eq_true, Int.reduceEq, Int.reduceLT, Int.reduceLE, Int.reduceNeg, not_false_eq_true, and_self, Zeo, Zep, Int.natCast_one, Int.cast_ofNat_Int, not_true_eq_false, decide_true, decide_false, true_implies, false_implies, Int.toNat_zero, List.length_cons, List.length_nil, Nat.zero_add, mb, Nat.reduceBEq, Bool.false_and, Bool.and_false, Zeq, tys, stb, Zer, Zes, Zet, Zeu, Zev, Zew, Bool.or_false, Bool.false_or, Bool.true_and, Bool.or_true, Bool.true_or, Zex, Zey, empty_mk, len_T hv, len_T hw, hlen2]
  refine loop_rule (fun m T D σ => D = [] ∧ T 0 = v ∧ T 1 = w ∧ ∃ (L : List AObj) (i : Nat), σ = ⟨L, []⟩ ∧ T 5 = .int .i64 i ∧ i ≤ l.length ∧ m = l.length - i) ?_ (l.length - 0) _ _ _ ⟨rfl, rfl, rfl, _, 0, rfl, rfl, by omega, rfl⟩
  rintro m T D σ ⟨rfl, t0, t1, L, i, rfl, t5, hi, rfl⟩
  refine G_start ?_
  by_cases hlt : i < l.length
  · have c1 : (i : Int) < (l.length : Int) := by omega
    have e1 : IntKind.i64.wrap ((i : Int) + 1) = ((i + 1 : Nat) : Int) := by rw [wrap_i64 (by omega) (by omega)]; omega
    simp -implicitDefEqProofs only [Zaa, Zab, Zac, Zad, Zae, Zaf, Zag, Zah, Zai, Zaj, Zak, Zal, Zam, Zan, Zao, Zap, Zaq, Zar, Zas, Zat, Zau, Zav, Zaw, Zax, Zay, Zaz, Zba, Zbb, Zbc, Zbd, Zbe, Zbf, Zbg, Zbh, Zbi, Zbj, Zbk, Zbl, Zbm, Zbn, Zbo, Zbp, Zbq, Zbr, Zbs, Zbt, Zbu, Zbv, Zbw, Zbx, Zby, Zbz, Zca, Zcb, Zcc, Zcd, Zce, Zcf, Zcg, evalT, Zch, Nat.reduceLT, Nat.reduceEqDiff, if_true, if_false, reduceIte, true_and, Zci, Zcj, map_ite', Zck, bind_ite', Zcl, Zcm, Zcn, Zco, Zcp, Zcq, Zcr, Zcs, Zct, Zcu, Zcv, Zcw, Zcx, Zcy, Zcz, Zda, Zdb, Zdc, Zdd, Zde, Zdf, Zdg, ofVal, ofCell, argT, List.getD_cons_zero, List.getD_cons_succ, List.getElem?_toArray, List.getElem?_cons_zero, List.getElem?_cons_succ, List.nil_append, List.cons_append, List.append_nil, resT, Zdh, Zdi, Nat.mul_one, Zdj, Zdk, Zdl, Zdm, Zdn, Zdo, Zdp, Zdq, Zdr, Zds, Zdt, setT, Zdu, Zdv, Zdw, Zdx, Zdy, List.append_eq, Zdz, Zea, Zeb, Zec, Zed, Zee, Zef, Zeg, Zeh, Nat.add_zero, Zei, Zej, Zek, Zel, Zem, Zen, Int.toNat_natCast, Bool.false_eq_true, Int.reduceEq, Int.reduceLT, Int.reduceLE, Int.reduceNeg, not_false_eq_true, and_self, Zeo, Zep, Int.natCast_one, Int.cast_ofNat_Int, not_true_eq_false, decide_true, decide_false, true_implies, false_implies, Int.toNat_zero, List.length_cons, List.length_nil, Nat.zero_add, mb, Nat.reduceBEq, Bool.false_and, Bool.and_false, Zeq, tys, stb, Zer, Zes, Zet, Zeu, Zev, Zew, Bool.or_false, Bool.false_or, Bool.true_and, Bool.or_true, Bool.true_or, Zex, Zey, t0, t1, t5, c1, len_T hv]
    refine alike_region hv hw hlt (by omega) t0 t1 t5 ?_
    clear t0 t1 t5 T
    intro T t0 t1 t5 t6 t7
    obtain ⟨k1, k2, k3⟩ := core_eq (hat i hlt)
    unfold oT
    generalize l.getD i Tok.none = c at *
    generalize l'.getD i Tok.none = d at *
    rw [k1, k2, k3]
    simp -implicitDefEqProofs only [Zaa, Zab, Zac, Zad, Zae, Zaf, Zag, Zah, Zai, Zaj, Zak, Zal, Zam, Zan, Zao, Zap, Zaq, Zar, Zas, Zat, Zau, Zav, Zaw, Zax, Zay, Zaz, Zba, Zbb, Zbc, Zbd, Zbe, Zbf, Zbg, Zbh, Zbi, Zbj, Zbk, Zbl, Zbm, Zbn, Zbo, Zbp, Zbq, Zbr, Zbs, Zbt, Zbu, Zbv, Zbw, Zbx, Zby, Zbz, Zca, Zcb, Zcc, Zcd, Zce, Zcf, Zcg, evalT, Zch, Nat.reduceLT, Nat.reduceEqDiff, if_true, if_false, reduceIte, true_and, Zci, Zcj, map_ite', Zck, bind_ite', Zcl, Zcm, Zcn, Zco, Zcp, Zcq, Zcr, Zcs, Zct, Zcu, Zcv, Zcw, Zcx, Zcy, Zcz, Zda, Zdb, Zdc, Zdd, Zde, Zdf, Zdg, ofVal, ofCell, argT, List.getD_cons_zero, List.getD_cons_succ, List.getElem?_toArray, List.getElem?_cons_zero, List.getElem?_cons_succ, List.nil_append, List.cons_append, List.append_nil, resT, Zdh, Zdi, Nat.mul_one, Zdj, Zdk, Zdl, Zdm, Zdn, Zdo, Zdp, Zdq, Zdr, Zds, Zdt, setT, Zdu, Zdv, Zdw, Zdx, Zdy, List.append_eq, Zdz, Zea, Zeb, Zec, Zed, Zee, Zef, Zeg, Zeh, Nat.add_zero, Zei, Zej, Zek, Zel, Zem, Zen, Int.toNat_natCast, Bool.false_eq_true, Int.reduceEq, Int.reduceLT, Int.reduceLE, Int.reduceNeg, not_false_eq_true, and_self, Zeo, Zep, Int.natCast_one, Int.cast_ofNat_Int, not_true_eq_false, decide_true, decide_false, true_implies, false_implies, Int.toNat_zero, List.length_cons, List.length_nil, Nat.zero_add, mb, Nat.reduceBEq, Bool.false_and, Bool.and_false, Zeq, tys, stb, Zer, Zes, Zet, Zeu, Zev, Zew, Bool.or_false, Bool.false_or, Bool.true_and, Bool.or_true, Bool.true_or, Zex, Zey, storeList, List.take_zero, List.take_succ_cons, List.drop_zero, List.drop_succ_cons, List.drop_nil, List.all_cons, List.all_nil, List.set_cons_zero, List.set_cons_succ, cells_hsl, isCell_hsl, Nat.reduceAdd, Nat.reduceLeDiff, t0, t1, t5, t6, t7, e1, fo523', end2_0, end2_1, set2_0, set2_1, isCell_int, agg52, load4_ptr (end2_0 _ _ _), load4_ptr (end2_1 _ _ _), ne52_same]
    exact ⟨l.length - (i + 1), by omega, _, i + 1, rfl, rfl, by omega, rfl⟩
  · have c1 : ¬ (i : Int) < (l.length : Int) := by omega
    simp -implicitDefEqProofs only [Zaa, Zab, Zac, Zad, Zae, Zaf, Zag, Zah, Zai, Zaj, Zak, Zal, Zam, Zan, Zao, Zap, Zaq, Zar, Zas, Zat, Zau, Zav, Zaw, Zax, Zay, Zaz, Zba, Zbb, Zbc, Zbd, Zbe, Zbf, Zbg, Zbh, Zbi, Zbj, Zbk, Zbl, Zbm, Zbn, Zbo, Zbp, Zbq, Zbr, Zbs, Zbt, Zbu, Zbv, Zbw, Zbx, Zby, Zbz, Zca, Zcb, Zcc, Zcd, Zce, Zcf, Zcg, evalT, Zch, Nat.reduceLT, Nat.reduceEqDiff, if_true, if_false, reduceIte, true_and, Zci, Zcj, map_ite', Zck, bind_ite', Zcl, Zcm, Zcn, Zco, Zcp, Zcq, Zcr, Zcs, Zct, Zcu, Zcv, Zcw, Zcx, Zcy, Zcz, Zda, Zdb, Zdc, Zdd, Zde, Zdf, Zdg, ofVal, ofCell, argT, List.getD_cons_zero, List.getD_cons_succ, List.getElem?_toArray, List.getElem?_cons_zero, List.getElem?_cons_succ, List.nil_append, List.cons_append, List.append_nil, resT, Zdh, Zdi, Nat.mul_one, Zdj, Zdk, Zdl, Zdm, Zdn, Zdo, Zdp, Zdq, Zdr, Zds, Zdt, setT, Zdu, Zdv, Zdw, Zdx, Zdy, List.append_eq, Zdz, Zea, Zeb, Zec, Zed, Zee, Zef, Zeg, Zeh, Nat.add_zero, Zei, Zej, Zek, Zel, Zem, Zen, Int.toNat_natCast, Bool.false_eq_true, Int.reduceEq, Int.reduceLT, Int.reduceLE, Int.reduceNeg, not_false_eq_true, and_self, Zeo, Zep, Int.natCast_one, Int.cast_ofNat_Int, not_true_eq_false, decide_true, decide_false, true_implies, false_implies, Int.toNat_zero, List.length_cons, List.length_nil, Nat.zero_add, mb, Nat.reduceBEq, Bool.false_and, Bool.and_false, Zeq, tys, stb, Zer, Zes, Zet, Zeu, Zev, Zew, Bool.or_false, Bool.false_or, Bool.true_and, Bool.or_true, Bool.true_or, Zex, Zey, t0, t1, t5, c1, len_T hv]
    simp only [oneOr, sealDepth, sealV_bool]
/-! ### the law -/
theorem at13 : env.P.funcs[13]? = some Tryd.f13 := by kernel_rfl
theorem ok_scan (s : List UInt8) (l : List Tok) (h : scanP s (s.length + 1) (endW s [1] 0) (-1) [] = (l, none)) : Sc s 0 (-1) l := by
  obtain ⟨l', h1, h2⟩ := scan_sc s (s.length + 1) 0 (-1) [] l (by omega) (by omega) h
  simpa [h1] using h2
theorem scan_ok (s : List UInt8) (l : List Tok) (h : Sc s 0 (-1) l) : scanP s (s.length + 1) (endW s [1] 0) (-1) [] = (l, none) := by
  have := sc_scan h (by omega) (s.length + 1) [] (by omega)
  simpa using this
theorem splitV_ok (s : List UInt8) (hl : s.length ≤ 2000) (l : List Tok) (h : Sc s 0 (-1) l) : splitV s = .tup [toksV l, .agg [.int .i64 0, .int .i64 0]] := by
  unfold splitV
  rw [if_neg (by omega), scan_ok s l h]
/-- Split of a text that is not too long: tokens, or a fault within the text -/
theorem splitV_two (s : List UInt8) (hl : s.length ≤ 2000) : (∃ l, Sc s 0 (-1) l ∧ splitV s = .tup [toksV l, .agg [.int .i64 0, .int .i64 0]]) ∨ ∃ (x : Int) (i : Nat), x ≠ 0 ∧ i < s.length ∧ splitV s = .tup [.nilsl, .agg [.int .i64 x, .int .i64 i]] := by
  rcases h : scanP s (s.length + 1) (endW s [1] 0) (-1) [] with ⟨l, _ | ⟨x, i⟩⟩
  · exact .inl ⟨l, ok_scan s l h, splitV_ok s hl l (ok_scan s l h)⟩
  · obtain ⟨h1, h2⟩ := scan_err s _ _ _ _ l x i h
    refine .inr ⟨x, i, h1, h2, ?_⟩
    unfold splitV
    rw [if_neg (by omega), h]
theorem sc_text {s : List UInt8} {l : List Tok} (h : Sc s 0 (-1) l) : l.length ≤ s.length ∧ (joinT l l.length).length ≤ 2 * s.length ∧ ∀ i, i < l.length → (l.getD i Tok.none).text.length ≤ s.length := by
  obtain ⟨h1, h2⟩ := sc_sum h (by omega)
  refine ⟨by omega, by have := join_bound l; omega, fun i hi => ?_⟩
  have hmem : l.getD i Tok.none ∈ l := by simp [List.getD, hi]
  have hp : (piece (l.getD i Tok.none)).length ≤ sumP l := by
    clear h h1 h2 hi
    induction l with
    | nil => simp at hmem
    | cons t l ih =>
      rcases List.mem_cons.1 hmem with h | h
      · rw [h, sumP]; omega
      · have : ∀ x ∈ l, (piece x).length ≤ sumP l := by
          intro x hx
          clear ih hmem h
          induction l with
          | nil => simp at hx
          | cons y l ih =>
            rcases List.mem_cons.1 hx with rfl | hx
            · rw [sumP]; omega
            · have := ih hx; rw [sumP]; omega
        have := this _ h
        rw [sumP]; omega
  have : (l.getD i Tok.none).text.length ≤ (piece (l.getD i Tok.none)).length := by
    unfold piece; split
    · simp only [List.length_cons, List.length_append]; omega
    · exact Nat.le_refl _
  omega
theorem fo470 : fldOff env 47 0 = some 0 := by kernel_rfl
theorem fo471 : fldOff env 47 1 = some 1 := by kernel_rfl
theorem aload32 (h : List AObj) (p : V) : aload env h 32 p = (loadCellsV h 1 p).bind (·[0]?) := aload_one (by kernel_rfl)
theorem again_found (s : List UInt8) : Go.Ab.Found env 13 [.str s] := by
  refine found_of_wp at13 rfl (by simp [Tryd.f13]) (by simp [Tryd.f13]) (G_start ?_)
  by_cases h1 : (900 : Int) < (s.length : Int)
  · simp -implicitDefEqProofs only [Tryd.f13, Zaa, Zab, Zac, Zad, Zae, Zaf, Zag, Zah, Zai, Zaj, Zak, Zal, Zam, Zan, Zao, Zap, Zaq, Zar, Zas, Zat, Zau, Zav, Zaw, Zax, Zay, Zaz, Zba, Zbb, Zbc, Zbd, Zbe, Zbf, Zbg, Zbh, Zbi, Zbj, Zbk, Zbl, Zbm, Zbn, Zbo, Zbp, Zbq, Zbr, Zbs, Zbt, Zbu, Zbv, Zbw, Zbx, Zby, Zbz, Zca, Zcb, Zcc, Zcd, Zce, Zcf, Zcg, evalT, Zch, Nat.reduceLT, Nat.reduceEqDiff, if_true, if_false, reduceIte, true_and, Zci, Zcj, map_ite', Zck, bind_ite', Zcl, Zcm, Zcn, Zco, Zcp, Zcq, Zcr, Zcs, Zct, Zcu, Zcv, Zcw, Zcx, Zcy, Zcz, Zda, Zdb, Zdc, Zdd, Zde, Zdf, Zdg, ofVal, ofCell, argT, List.getD_cons_zero, List.getD_cons_succ, List.getElem?_toArray, List.getElem?_cons_zero, List.getElem?_cons_succ, List.nil_append, List.cons_append, List.append_nil, resT, Zdh, Zdi, Nat.mul_one, Zdj, Zdk, Zdl, Zdm, Zdn, Zdo, Zdp, Zdq, Zdr, Zds, Zdt, setT, Zdu, Zdv, Zdw, Zdx, Zdy, List.append_eq, Zdz, Zea, Zeb, Zec, Zed, Zee, Zef, Zeg, Zeh, Nat.add_zero, Zei, Zej, Zek, Zel, Zem, Zen, Int.toNat_natCast, Bool.false_eq_true, Int.reduceEq, Int.reduceLT, Int.reduceLE, Int.reduceNeg, not_false_eq_true, and_self, Zeo, Zep, Int.natCast_one, Int.cast_ofNat_Int, not_true_eq_false, decide_true, decide_false, true_implies, false_implies, Int.toNat_zero, List.length_cons, List.length_nil, Nat.zero_add, mb, Nat.reduceBEq, Bool.false_and, Bool.and_false, Zeq, tys, stb, Zer, Zes, Zet, Zeu, Zev, Zew, Bool.or_false, Bool.false_or, Bool.true_and, Bool.or_true, Bool.true_or, Zex, Zey, h1, len_str, known_call]
    simp [oneOr]
  · have hA := split_call s (by omega)
    have q0 : ∀ a b : V, aload env [.cells [a, b] 47] 47 (.ptr 0 0) = some (.agg [a, b]) := fun a b => ld47 rfl
    rcases splitV_two s (by omega) with ⟨l, hS, hv⟩ | ⟨x, i, hx, hi, hv⟩
    · rw [hv] at hA
      obtain ⟨hl1, hl2, hl3⟩ := sc_text hS
      obtain ⟨l', hS', hc⟩ := again l (sc_ok hS) l.length 0 (by omega)
      rw [if_neg (by simp), List.drop_zero] at *
      have hS'' : Sc (joinT l l.length) 0 (-1) l' := hS'
      have hB := split_call (joinT l l.length) (by omega)
      rw [splitV_ok _ (by omega) l' hS''] at hB
      have hJ := join_call (toksV l) l (toksV_is l) (by omega) (fun i hi => by have := hl3 i hi; omega)
      obtain ⟨hm1, hm2, hm3⟩ := sc_text hS''
      obtain ⟨hlen, _⟩ := map_core_at hc
      have hJ' := join_call (toksV l') l' (toksV_is l') (by omega) (fun i hi => by
        obtain ⟨k1, k2, k3⟩ := core_eq ((map_core_at hc).2 i (by omega))
        rw [k2]; have := hl3 i (by omega); omega)
      rw [hlen, joinT_core l l' hc l.length (Nat.le_refl _)] at hJ'
      have hAl := alike_call (toksV l) (toksV l') l l' (toksV_is l) (toksV_is l') hc (by omega)
      have q1 : ∀ a b c d : V, aload env [.cells [a, b] 47, .cells [c, d] 47] 47 (.ptr 1 0) = some (.agg [c, d]) := fun a b c d => ld47 rfl
      simp -implicitDefEqProofs only [Tryd.f13, Zaa, Zab, Zac, Zad, Zae, Zaf, Zag, Zah, Zai, Zaj, Zak, Zal, Zam, Zan, Zao, Zap, Zaq, Zar, Zas, Zat, Zau, Zav, Zaw, Zax, Zay, Zaz, Zba, Zbb, Zbc, Zbd, Zbe, Zbf, Zbg, Zbh, Zbi, Zbj, Zbk, Zbl, Zbm, Zbn, Zbo, Zbp, Zbq, Zbr, Zbs, Zbt, Zbu, Zbv, Zbw, Zbx, Zby, Zbz, Zca, Zcb, Zcc, Zcd, Zce, Zcf, Zcg, evalT, Zch, Nat.reduceLT, Nat.reduceEqDiff, if_true, if_false, reduceIte, true_and, Zci, Zcj, map_ite', Zck, bind_ite', Zcl, Zcm, Zcn, Zco, Zcp, Zcq, Zcr, Zcs, Zct, Zcu, Zcv, Zcw, Zcx, Zcy, Zcz, Zda, Zdb, Zdc, Zdd, Zde, Zdf, Zdg, ofVal, ofCell, argT, List.getD_cons_zero, List.getD_cons_succ, List.getElem?_toArray, List.getElem?_cons_zero, List.getElem?_cons_succ, List.nil_append, List.cons_append, List.append_nil, resT, Zdh, Zdi, Nat.mul_one, Zdj, Zdk, Zdl, Zdm, Zdn, Zdo, Zdp, Zdq, Zdr, Zds, Zdt, setT, Zdu, Zdv, Zdw, Zdx, Zdy, List.append_eq, Zdz, Zea, Zeb, Zec, Zed, Zee, Zef, Zeg, Zeh, Nat.add_zero, Zei, Zej, Zek, Zel, Zem, Zen, Int.toNat_natCast, Bool.false_eq_true, Int.reduceEq, Int.reduceLT, Int.reduceLE, Int.reduceNeg, not_false_eq_true, and_self, Zeo, Zep, Int.natCast_one, Int.cast_ofNat_Int, not_true_eq_false, decide_true, decide_false, true_implies, false_implies, Int.toNat_zero, List.length_cons, List.length_nil, Nat.zero_add, mb, Nat.reduceBEq, Bool.false_and, Bool.and_false, Zeq, tys, stb, Zer, Zes, Zet, Zeu, Zev, Zew, Bool.or_false, Bool.false_or, Bool.true_and, Bool.or_true, Bool.true_or, Zex, Zey, storeList, List.take_zero, List.take_succ_cons, List.drop_zero, List.drop_succ_cons, List.drop_nil, List.all_cons, List.all_nil, List.set_cons_zero, List.set_cons_succ, cells_hsl, isCell_hsl, Nat.reduceAdd, Nat.reduceLeDiff, empty_mk, h1, len_str, known_call, hA, zv47, s47, Zeg, isCell_int, q0, q1, build470, ne47, eq47, Bool.not_true, Bool.not_false, false_and, hJ, hB, hJ', hAl, vBin_seql]
      simp only [oneOr]
    · rw [hv] at hA
      have hx1 : ((x : Int) = 0) = False := eq_false hx
      have hi1 : (0 : Int) ≤ (i : Int) := by omega
      have hi2 : (i : Int) < (s.length : Int) := by omega
      simp -implicitDefEqProofs only [Tryd.f13, Zaa, Zab, Zac, Zad, Zae, Zaf, Zag, Zah, Zai, Zaj, Zak, Zal, Zam, Zan, Zao, Zap, Zaq, Zar, Zas, Zat, Zau, Zav, Zaw, Zax, Zay, Zaz, Zba, Zbb, Zbc, Zbd, Zbe, Zbf, Zbg, Zbh, Zbi, Zbj, Zbk, Zbl, Zbm, Zbn, Zbo, Zbp, Zbq, Zbr, Zbs, Zbt, Zbu, Zbv, Zbw, Zbx, Zby, Zbz, Zca, Zcb, Zcc, Zcd, Zce, Zcf, Zcg, evalT, Zch, Nat.reduceLT, Nat.reduceEqDiff, if_true, if_false, reduceIte, true_and, Zci, Zcj, map_ite', Zck, bind_ite', Zcl, Zcm, Zcn, Zco, Zcp, Zcq, Zcr, Zcs, Zct, Zcu, Zcv, Zcw, Zcx, Zcy, Zcz, Zda, Zdb, Zdc, Zdd, Zde, Zdf, Zdg, ofVal, ofCell, argT, List.getD_cons_zero, List.getD_cons_succ, List.getElem?_toArray, List.getElem?_cons_zero, List.getElem?_cons_succ, List.nil_append, List.cons_append, List.append_nil, resT, Zdh, Zdi, Nat.mul_one, Zdj, Zdk, Zdl, Zdm, Zdn, Zdo, Zdp, Zdq, Zdr, Zds, Zdt, setT, Zdu, Zdv, Zdw, Zdx, Zdy, List.append_eq, Zdz, Zea, Zeb, Zec, Zed, Zee, Zef, Zeg, Zeh, Nat.add_zero, Zei, Zej, Zek, Zel, Zem, Zen, Int.toNat_natCast, Bool.false_eq_true, Int.reduceEq, Int.reduceLT, Int.reduceLE, Int.reduceNeg, not_false_eq_true, and_self, Zeo, Zep, Int.natCast_one, Int.cast_ofNat_Int, not_true_eq_false, decide_true, decide_false, true_implies, false_implies, Int.toNat_zero, List.length_cons, List.length_nil, Nat.zero_add, mb, Nat.reduceBEq, Bool.false_and, Bool.and_false, Zeq, tys, stb, Zer, Zes, Zet, Zeu, Zev, Zew, Bool.or_false, Bool.false_or, Bool.true_and, Bool.or_true, Bool.true_or, Zex, Zey, storeList, List.take_zero, List.take_succ_cons, List.drop_zero, List.drop_succ_cons, List.drop_nil, List.all_cons, List.all_nil, List.set_cons_zero, List.set_cons_succ, cells_hsl, isCell_hsl, Nat.reduceAdd, Nat.reduceLeDiff, empty_mk, h1, len_str, known_call, hA, zv47, s47, Zeg, isCell_int, q0, build470, ne47, eq47, Bool.not_true, Bool.not_false, false_and, hx1, hi1, hi2, fo470, fo471, aload32, aload3, u45]
      simp only [oneOr]
theorem again_foundt {u : V} (h : Tyd Tryd.prog 4 9 [u]) : Go.Ab.Found env 13 [u] := by
  obtain ⟨s, e, _⟩ := tyd_str h (by kernel_rfl)
  simp only [List.cons.injEq, and_true] at e
  subst e
  exact again_found s
end Go.Proofs.YtbikmhpobflfeaaDoor
