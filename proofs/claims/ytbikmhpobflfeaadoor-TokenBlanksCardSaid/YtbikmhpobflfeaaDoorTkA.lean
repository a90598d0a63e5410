/- Proved here: names, numbers, classes. Conditions: those of each theorem; no statement of the seat is proved in this text. -/
import Derived.Test.YtbikmhpobflfeaaDoorTjA
namespace Go.Proofs.YtbikmhpobflfeaaDoor.N
open Go.Ab
set_option maxRecDepth 100000
set_option linter.unusedSimpArgs false
set_option linter.unusedVariables false
theorem u3 : env.P.underlying 3 = some (.int .i64) := by kernel_rfl
theorem u4 : env.P.underlying 4 = some .bool := by kernel_rfl
theorem u5 : env.P.underlying 5 = some (.int .u8) := by kernel_rfl
theorem u9 : env.P.underlying 9 = some .string := by kernel_rfl
theorem u24 : env.P.underlying 24 = some (.slice 9) := by kernel_rfl
theorem u72 : env.P.underlying 72 = some (.array 35 9) := by kernel_rfl
theorem u115 : env.P.underlying 115 = some (.int .u64) := by kernel_rfl
theorem s9 : sz env 9 = some 1 := by kernel_rfl
theorem s24 : sz env 24 = some 1 := by kernel_rfl
theorem s3 : sz env 3 = some 1 := by kernel_rfl
theorem g9 : aggT env 9 = some false := by kernel_rfl
theorem g24 : aggT env 24 = some false := by kernel_rfl
theorem g3 : aggT env 3 = some false := by kernel_rfl
theorem tys : env.P.underlying 3 = some (.int .i64) ∧ env.P.underlying 4 = some .bool ∧ env.P.underlying 5 = some (.int .u8) ∧ env.P.underlying 9 = some .string ∧ env.P.underlying 24 = some (.slice 9) ∧ env.P.underlying 115 = some (.int .u64) ∧ sz env 9 = some 1 ∧ sz env 24 = some 1 ∧ sz env 3 = some 1 ∧
    (∀ h p, aload env h 9 p = (loadCellsV h 1 p).bind (·[0]?)) ∧ (∀ h p, aload env h 24 p = (loadCellsV h 1 p).bind (·[0]?)) ∧ (∀ h p, aload env h 3 p = (loadCellsV h 1 p).bind (·[0]?)) :=
  ⟨u3, u4, u5, u9, u24, u115, s9, s24, s3, fun _ _ => aload_one g9, fun _ _ => aload_one g24, fun _ _ => aload_one g3⟩
theorem mb (f : FuncId) (r : Nat) (h : (f == 82 || f == 83 || f == 136) = false) : env.mutb f r = false := h
theorem stb (f : FuncId) (r : Nat) (h : (f == 35 && r == 9 || f == 75 && r == 28 || f == 56 && r == 6) = false) : env.stab f r = false := h
theorem at116 : env.P.funcs[116]? = some Tryd.f116 := by kernel_rfl
theorem at87 : env.P.funcs[87]? = some Tryd.f87 := by kernel_rfl
theorem at86 : env.P.funcs[86]? = some Tryd.f86 := by kernel_rfl
theorem at58 : env.P.funcs[58]? = some Tryd.f58 := by kernel_rfl
theorem at15 : env.P.funcs[15]? = some Tryd.f15 := by kernel_rfl
theorem at16 : env.P.funcs[16]? = some Tryd.f16 := by kernel_rfl

theorem nan_call (s : List UInt8) (σ : S) : callFn env (ev env) 116 [.str s] σ = some (.bool false, σ) := by
  refine callFn_pure rfl rfl rfl at116 rfl (by simp [Tryd.f116]) (by simp [Tryd.f116]) (G_start ?_) σ
  simp -implicitDefEqProofs only [Tryd.f116, Zaa, Zab, Zac, Zad, Zae, Zaf, Zag, Zah, Zai, Zaj, Zak, Zal, Zam, Zan, Zao, Zap, Zaq, Zar, Zas, Zat, Zau, Zav, Zaw, Zax, Zay, Zaz, Zba, Zbb, Zbc, Zbd, Zbe, Zbf, Zbg, Zbh, Zbi, Zbj, Zbk, Zbl, Zbm, Zbn, Zbo, Zbp, Zbq, Zbr, Zbs, Zbt, Zbu, Zbv, Zbw, Zbx, Zby, Zbz, Zca, Zcb, Zcc, Zcd, Zce, Zcf, Zcg, evalT, Zch, Nat.reduceLT, Nat.reduceEqDiff, if_true, if_false, reduceIte, true_and, Zci, Zcj, map_ite', Zck, bind_ite', Zcl, Zcm, Zcn, Zco, Zcp, Zcq, Zcr, Zcs, Zct, Zcu, Zcv, Zcw, Zcx, Zcy, Zcz, Zda, Zdb, Zdc, Zdd, Zde, Zdf, Zdg, ofVal, ofCell, argT, List.getD_cons_zero, List.getD_cons_succ, List.getElem?_toArray, List.getElem?_cons_zero, List.getElem?_cons_succ, List.nil_append, List.cons_append, List.append_nil, resT, Zdh, Zdi, Nat.mul_one, Zdj, Zdk, Zdl, Zdm, Zdn, Zdo, Zdp, Zdq, Zdr, Zds, Zdt, setT, Zdu, Zdv, Zdw, Zdx, Zdy, List.append_eq, Zdz, Zea, Zeb, Zec, Zed, Zee, Zef, Zeg, Zeh, Nat.add_zero, Zei, Zej, Zek, Zel, Zem, Zen, Int.toNat_natCast, Bool.false_eq_true, Int.reduceEq, Int.reduceLT, Int.reduceLE, Int.reduceNeg, not_false_eq_true, and_self, Zeo, Zep, Int.natCast_one, Int.cast_ofNat_Int, not_true_eq_false, decide_true, decide_false, true_implies, false_implies, Int.toNat_zero, List.length_cons, List.length_nil, Nat.zero_add, mb, Nat.reduceBEq, Bool.false_and, Bool.and_false, Zeq, tys, stb, Zer, Zes, Zet, Zeu, Zev, Zew, Bool.or_false, Bool.false_or, Bool.true_and, Bool.or_true, Bool.true_or, Zex, Zey, vBin_sneq]
  simp [oneOr, sealDepth, sealV_bool]
theorem nan2_call (s : List UInt8) (σ : S) : callFn env (ev env) 87 [.str s] σ = some (.bool false, σ) := by
  refine callFn_pure rfl rfl rfl at87 rfl (by simp [Tryd.f87]) (by simp [Tryd.f87]) (G_start ?_) σ
  simp -implicitDefEqProofs only [Tryd.f87, Zaa, Zab, Zac, Zad, Zae, Zaf, Zag, Zah, Zai, Zaj, Zak, Zal, Zam, Zan, Zao, Zap, Zaq, Zar, Zas, Zat, Zau, Zav, Zaw, Zax, Zay, Zaz, Zba, Zbb, Zbc, Zbd, Zbe, Zbf, Zbg, Zbh, Zbi, Zbj, Zbk, Zbl, Zbm, Zbn, Zbo, Zbp, Zbq, Zbr, Zbs, Zbt, Zbu, Zbv, Zbw, Zbx, Zby, Zbz, Zca, Zcb, Zcc, Zcd, Zce, Zcf, Zcg, evalT, Zch, Nat.reduceLT, Nat.reduceEqDiff, if_true, if_false, reduceIte, true_and, Zci, Zcj, map_ite', Zck, bind_ite', Zcl, Zcm, Zcn, Zco, Zcp, Zcq, Zcr, Zcs, Zct, Zcu, Zcv, Zcw, Zcx, Zcy, Zcz, Zda, Zdb, Zdc, Zdd, Zde, Zdf, Zdg, ofVal, ofCell, argT, List.getD_cons_zero, List.getD_cons_succ, List.getElem?_toArray, List.getElem?_cons_zero, List.getElem?_cons_succ, List.nil_append, List.cons_append, List.append_nil, resT, Zdh, Zdi, Nat.mul_one, Zdj, Zdk, Zdl, Zdm, Zdn, Zdo, Zdp, Zdq, Zdr, Zds, Zdt, setT, Zdu, Zdv, Zdw, Zdx, Zdy, List.append_eq, Zdz, Zea, Zeb, Zec, Zed, Zee, Zef, Zeg, Zeh, Nat.add_zero, Zei, Zej, Zek, Zel, Zem, Zen, Int.toNat_natCast, Bool.false_eq_true, Int.reduceEq, Int.reduceLT, Int.reduceLE, Int.reduceNeg, not_false_eq_true, and_self, Zeo, Zep, Int.natCast_one, Int.cast_ofNat_Int, not_true_eq_false, decide_true, decide_false, true_implies, false_implies, Int.toNat_zero, List.length_cons, List.length_nil, Nat.zero_add, mb, Nat.reduceBEq, Bool.false_and, Bool.and_false, Zeq, tys, stb, Zer, Zes, Zet, Zeu, Zev, Zew, Bool.or_false, Bool.false_or, Bool.true_and, Bool.or_true, Bool.true_or, Zex, Zey, vBin_sneq]
  simp [oneOr, sealDepth, sealV_bool]
theorem less_call (a b : List UInt8) (σ : S) : callFn env (ev env) 86 [.str a, .str b] σ = some (.bool (Op.bytesLess a b), σ) := by
  refine callFn_pure rfl rfl rfl at86 rfl (by simp [Tryd.f86]) (by simp [Tryd.f86]) (G_start ?_) σ
  cases h : Op.bytesLess a b <;>
  · simp -implicitDefEqProofs only [Tryd.f86, Zaa, Zab, Zac, Zad, Zae, Zaf, Zag, Zah, Zai, Zaj, Zak, Zal, Zam, Zan, Zao, Zap, Zaq, Zar, Zas, Zat, Zau, Zav, Zaw, Zax, Zay, Zaz, Zba, Zbb, Zbc, Zbd, Zbe, Zbf, Zbg, Zbh, Zbi, Zbj, Zbk, Zbl, Zbm, Zbn, Zbo, Zbp, Zbq, Zbr, Zbs, Zbt, Zbu, Zbv, Zbw, Zbx, Zby, Zbz, Zca, Zcb, Zcc, Zcd, Zce, Zcf, Zcg, evalT, Zch, Nat.reduceLT, Nat.reduceEqDiff, if_true, if_false, reduceIte, true_and, Zci, Zcj, map_ite', Zck, bind_ite', Zcl, Zcm, Zcn, Zco, Zcp, Zcq, Zcr, Zcs, Zct, Zcu, Zcv, Zcw, Zcx, Zcy, Zcz, Zda, Zdb, Zdc, Zdd, Zde, Zdf, Zdg, ofVal, ofCell, argT, List.getD_cons_zero, List.getD_cons_succ, List.getElem?_toArray, List.getElem?_cons_zero, List.getElem?_cons_succ, List.nil_append, List.cons_append, List.append_nil, resT, Zdh, Zdi, Nat.mul_one, Zdj, Zdk, Zdl, Zdm, Zdn, Zdo, Zdp, Zdq, Zdr, Zds, Zdt, setT, Zdu, Zdv, Zdw, Zdx, Zdy, List.append_eq, Zdz, Zea, Zeb, Zec, Zed, Zee, Zef, Zeg, Zeh, Nat.add_zero, Zei, Zej, Zek, Zel, Zem, Zen, Int.toNat_natCast, Bool.false_eq_true, Int.reduceEq, Int.reduceLT, Int.reduceLE, Int.reduceNeg, not_false_eq_true, and_self, Zeo, Zep, Int.natCast_one, Int.cast_ofNat_Int, not_true_eq_false, decide_true, decide_false, true_implies, false_implies, Int.toNat_zero, List.length_cons, List.length_nil, Nat.zero_add, mb, Nat.reduceBEq, Bool.false_and, Bool.and_false, Zeq, tys, stb, Zer, Zes, Zet, Zeu, Zev, Zew, Bool.or_false, Bool.false_or, Bool.true_and, Bool.or_true, Bool.true_or, Zex, Zey, vBin_slss, nan_call, h]
    simp [oneOr, sealDepth, sealV_bool]

theorem less_trans : ∀ {a b c : List UInt8}, Op.bytesLess a b = true → Op.bytesLess b c = true → Op.bytesLess a c = true
  | _, [], _, h, _ => by simp [Op.bytesLess] at h
  | _, _ :: _, [], _, h => by simp [Op.bytesLess] at h
  | [], y :: b, z :: c, _, _ => rfl
  | x :: a, y :: b, z :: c, h, k => by
    simp only [Op.bytesLess, Bool.or_eq_true, Bool.and_eq_true, decide_eq_true_eq, beq_iff_eq] at h k ⊢
    rcases h with h | ⟨rfl, h⟩
    · rcases k with k | ⟨rfl, k⟩
      · exact .inl (UInt8.lt_trans h k)
      · exact .inl h
    · rcases k with k | ⟨rfl, k⟩
      · exact .inl k
      · exact .inr ⟨rfl, less_trans h k⟩

/-- in order -/
def Rising (ws : List (List UInt8)) : Prop := ∀ i j, i < j → j < ws.length → Op.bytesLess (ws.getD i []) (ws.getD j []) = true

theorem count_of {ws : List (List UInt8)} {s : List UInt8} {lo : Nat} (hl : lo ≤ ws.length) (h1 : ∀ i, i < lo → Op.bytesLess (ws.getD i []) s = true) (h2 : ∀ i, lo ≤ i → i < ws.length → Op.bytesLess (ws.getD i []) s = false) :
    ws.countP (fun w => Op.bytesLess w s) = lo := by
  have e : ws = ws.take lo ++ ws.drop lo := (List.take_append_drop lo ws).symm
  rw [e, List.countP_append]
  have a1 : (ws.take lo).countP (fun w => Op.bytesLess w s) = (ws.take lo).length := by
    rw [List.countP_eq_length]
    intro w hw
    obtain ⟨i, hi, rfl⟩ := List.mem_iff_getElem.1 hw
    have := h1 i (by simp at hi; omega)
    have hi2 : i < ws.length := by simp at hi; omega
    simpa [List.getD, hi2] using this
  have a2 : (ws.drop lo).countP (fun w => Op.bytesLess w s) = 0 := by
    rw [List.countP_eq_zero]
    intro w hw
    obtain ⟨i, hi, rfl⟩ := List.mem_iff_getElem.1 hw
    have hi2 : lo + i < ws.length := by simp at hi; omega
    have := h2 (lo + i) (by omega) hi2
    simpa [List.getD, hi2] using this
  rw [a1, a2]
  simp; omega

theorem mem_of {ws : List (List UInt8)} {s : List UInt8} {lo : Nat} (hr : Rising ws) (h1 : ∀ i, i < lo → Op.bytesLess (ws.getD i []) s = true) (h2 : ∀ i, lo ≤ i → i < ws.length → Op.bytesLess (ws.getD i []) s = false) :
    (s ∈ ws) ↔ (lo < ws.length ∧ ws.getD lo [] = s) := by
  constructor
  · intro hm
    obtain ⟨k, hk, rfl⟩ := List.mem_iff_getElem.1 hm
    have ek : ws.getD k [] = ws[k] := by simp [List.getD, hk]
    have hlo : lo ≤ k := by
      rcases Nat.lt_or_ge k lo with h | h
      · have := h1 k h; rw [ek, str_not_less] at this; simp at this
      · exact h
    rcases Nat.lt_or_ge lo k with h | h
    · have := hr lo k h hk
      rw [ek, h2 lo (Nat.le_refl _) (by omega)] at this; simp at this
    · have : lo = k := by omega
      subst this
      exact ⟨hk, ek⟩
  · rintro ⟨h, rfl⟩
    simp [List.getD, h]

theorem search_call (ws : List (List UInt8)) (hw : ws.length < 2 ^ 40) (hr : Rising ws) (s : List UInt8) (σ : S) :
    callFn env (ev env) 58 [.row (ws.map V.str) ws.length .full, .str s] σ = some (.tup [.int .i64 (ws.countP (fun w => Op.bytesLess w s) : Nat), .bool (decide (s ∈ ws))], σ) := by
  refine callFn_pure rfl rfl (by simp [V.closed, closed_strs]) at58 rfl (by simp [Tryd.f58]) (by simp [Tryd.f58]) (G_start ?_) σ
  simp -implicitDefEqProofs only [Tryd.f58, Zaa, Zab, Zac, Zad, Zae, Zaf, Zag, Zah, Zai, Zaj, Zak, Zal, Zam, Zan, Zao, Zap, Zaq, Zar, Zas, Zat, Zau, Zav, Zaw, Zax, Zay, Zaz, Zba, Zbb, Zbc, Zbd, Zbe, Zbf, Zbg, Zbh, Zbi, Zbj, Zbk, Zbl, Zbm, Zbn, Zbo, Zbp, Zbq, Zbr, Zbs, Zbt, Zbu, Zbv, Zbw, Zbx, Zby, Zbz, Zca, Zcb, Zcc, Zcd, Zce, Zcf, Zcg, evalT, Zch, Nat.reduceLT, Nat.reduceEqDiff, if_true, if_false, reduceIte, true_and, Zci, Zcj, map_ite', Zck, bind_ite', Zcl, Zcm, Zcn, Zco, Zcp, Zcq, Zcr, Zcs, Zct, Zcu, Zcv, Zcw, Zcx, Zcy, Zcz, Zda, Zdb, Zdc, Zdd, Zde, Zdf, Zdg, ofVal, ofCell, argT, List.getD_cons_zero, List.getD_cons_succ, List.getElem?_toArray, List.getElem?_cons_zero, List.getElem?_cons_succ, List.nil_append, List.cons_append, List.append_nil, resT, Zdh, Zdi, Nat.mul_one, Zdj, Zdk, Zdl, Zdm, Zdn, Zdo, Zdp, Zdq, Zdr, Zds, Zdt, setT, Zdu, Zdv, Zdw, Zdx, Zdy, List.append_eq, Zdz, Zea, Zeb, Zec, Zed, Zee, Zef, Zeg, Zeh, Nat.add_zero, Zei, Zej, Zek, Zel, Zem, Zen, Int.toNat_natCast, Bool.false_eq_true, Int.reduceEq, Int.reduceLT, Int.reduceLE, Int.reduceNeg, not_false_eq_true, and_self, Zeo, Zep, Int.natCast_one, Int.cast_ofNat_Int, not_true_eq_false, decide_true, decide_false, true_implies, false_implies, Int.toNat_zero, List.length_cons, List.length_nil, Nat.zero_add, mb, Nat.reduceBEq, Bool.false_and, Bool.and_false, Zeq, tys, stb, Zer, Zes, Zet, Zeu, Zev, Zew, Bool.or_false, Bool.false_or, Bool.true_and, Bool.or_true, Bool.true_or, Zex, Zey, vBin_slss, vBin_seql]
  refine loop_rule (fun m T D σ => D = [] ∧ σ = S.empty ∧ T 0 = .row (ws.map V.str) ws.length .full ∧ T 1 = .str s ∧ T 6 = .int .i64 ws.length ∧ ∃ lo hi : Nat, T 7 = .int .i64 lo ∧ T 8 = .int .i64 hi ∧ lo ≤ hi ∧ hi ≤ ws.length ∧ m = hi - lo ∧
    (∀ i, i < lo → Op.bytesLess (ws.getD i []) s = true) ∧ (∀ i, hi ≤ i → i < ws.length → Op.bytesLess (ws.getD i []) s = false)) ?_ _ _ _ _ ⟨rfl, rfl, rfl, rfl, rfl, 0, ws.length, rfl, rfl, by omega, by omega, rfl, fun i h => by omega, fun i h1 h2 => by omega⟩
  rintro m T D σ ⟨rfl, rfl, t0, t1, t6, lo, hi, t7, t8, h1, h2, rfl, i1, i2⟩
  refine G_start ?_
  by_cases hlt : lo < hi
  · have c1 : (lo : Int) < (hi : Int) := by omega
    have e1 : IntKind.i64.wrap ((lo : Int) + (hi : Int)) = ((lo + hi : Nat) : Int) := by rw [wrap_i64 (by omega) (by omega)]; omega
    have e2 : IntKind.u64.wrap (((lo + hi : Nat) : Int)) = ((lo + hi : Nat) : Int) := by rw [IntKind.wrap_u64]; omega
    have e3 : ((lo + hi : Nat) : Int).fdiv (2 ^ min (Int.toNat 1) IntKind.u64.bits) = (((lo + hi) / 2 : Nat) : Int) := by
      rw [show min (Int.toNat 1) IntKind.u64.bits = 1 from by decide]
      rw [Int.fdiv_eq_ediv_of_nonneg _ (by omega)]; omega
    have e4 : IntKind.i64.wrap ((((lo + hi) / 2 : Nat) : Int)) = (((lo + hi) / 2 : Nat) : Int) := by rw [wrap_i64 (by omega) (by omega)]
    have c2 : (lo + hi) / 2 < ws.length := by omega
    have e5 : IntKind.i64.wrap ((((lo + hi) / 2 : Nat) : Int) + 1) = (((lo + hi) / 2 + 1 : Nat) : Int) := by rw [wrap_i64 (by omega) (by omega)]; omega
    have e6 : ¬ ((1 : Int) < 0) := by omega
    cases hb : Op.bytesLess (ws.getD ((lo + hi) / 2) []) s with
    | true =>
      simp -implicitDefEqProofs only [Zaa, Zab, Zac, Zad, Zae, Zaf, Zag, Zah, Zai, Zaj, Zak, Zal, Zam, Zan, Zao, Zap, Zaq, Zar, Zas, Zat, Zau, Zav, Zaw, Zax, Zay, Zaz, Zba, Zbb, Zbc, Zbd, Zbe, Zbf, Zbg, Zbh, Zbi, Zbj, Zbk, Zbl, Zbm, Zbn, Zbo, Zbp, Zbq, Zbr, Zbs, Zbt, Zbu, Zbv, Zbw, Zbx, Zby, Zbz, Zca, Zcb, Zcc, Zcd, Zce, Zcf, Zcg, evalT, Zch, Nat.reduceLT, Nat.reduceEqDiff, if_true, if_false, reduceIte, true_and, Zci, Zcj, map_ite', Zck, bind_ite', Zcl, Zcm, Zcn, Zco, Zcp, Zcq, Zcr, Zcs, Zct, Zcu, Zcv, Zcw, Zcx, Zcy, Zcz, Zda, Zdb, Zdc, Zdd, Zde, Zdf, Zdg, ofVal, ofCell, argT, List.getD_cons_zero, List.getD_cons_succ, List.getElem?_toArray, List.getElem?_cons_zero, List.getElem?_cons_succ, List.nil_append, List.cons_append, List.append_nil, resT, Zdh, Zdi, Nat.mul_one, Zdj, Zdk, Zdl, Zdm, Zdn, Zdo, Zdp, Zdq, Zdr, Zds, Zdt, setT, Zdu, Zdv, Zdw, Zdx, Zdy, List.append_eq, Zdz, Zea, Zeb, Zec, Zed, Zee, Zef, Zeg, Zeh, Nat.add_zero, Zei, Zej, Zek, Zel, Zem, Zen, Int.toNat_natCast, Bool.false_eq_true, Int.reduceEq, Int.reduceLT, Int.reduceLE, Int.reduceNeg, not_false_eq_true, and_self, Zeo, Zep, Int.natCast_one, Int.cast_ofNat_Int, not_true_eq_false, decide_true, decide_false, true_implies, false_implies, Int.toNat_zero, List.length_cons, List.length_nil, Nat.zero_add, mb, Nat.reduceBEq, Bool.false_and, Bool.and_false, Zeq, tys, stb, Zer, Zes, Zet, Zeu, Zev, Zew, Bool.or_false, Bool.false_or, Bool.true_and, Bool.or_true, Bool.true_or, Zex, Zey, t0, t1, t6, t7, t8, c1, e1, e2, e3, e4, e5, e6, strs_get, c2, less_call, hb, vBin_shr]
      refine ⟨⟨by omega, by omega⟩, hi - ((lo + hi) / 2 + 1), by omega, (lo + hi) / 2 + 1, hi, rfl, rfl, by omega, by omega, rfl, fun i hi' => ?_, i2⟩
      rcases Nat.lt_or_ge i ((lo + hi) / 2) with h | h
      · exact less_trans (hr i _ h c2) hb
      · have : i = (lo + hi) / 2 := by omega
        subst this; exact hb
    | false =>
      simp -implicitDefEqProofs only [Zaa, Zab, Zac, Zad, Zae, Zaf, Zag, Zah, Zai, Zaj, Zak, Zal, Zam, Zan, Zao, Zap, Zaq, Zar, Zas, Zat, Zau, Zav, Zaw, Zax, Zay, Zaz, Zba, Zbb, Zbc, Zbd, Zbe, Zbf, Zbg, Zbh, Zbi, Zbj, Zbk, Zbl, Zbm, Zbn, Zbo, Zbp, Zbq, Zbr, Zbs, Zbt, Zbu, Zbv, Zbw, Zbx, Zby, Zbz, Zca, Zcb, Zcc, Zcd, Zce, Zcf, Zcg, evalT, Zch, Nat.reduceLT, Nat.reduceEqDiff, if_true, if_false, reduceIte, true_and, Zci, Zcj, map_ite', Zck, bind_ite', Zcl, Zcm, Zcn, Zco, Zcp, Zcq, Zcr, Zcs, Zct, Zcu, Zcv, Zcw, Zcx, Zcy, Zcz, Zda, Zdb, Zdc, Zdd, Zde, Zdf, Zdg, ofVal, ofCell, argT, List.getD_cons_zero, List.getD_cons_succ, List.getElem?_toArray, List.getElem?_cons_zero, List.getElem?_cons_succ, List.nil_append, List.cons_append, List.append_nil, resT, Zdh, Zdi, Nat.mul_one, Zdj, Zdk, Zdl, Zdm, Zdn, Zdo, Zdp, Zdq, Zdr, Zds, Zdt, setT, Zdu, Zdv, Zdw, Zdx, Zdy, List.append_eq, Zdz, Zea, Zeb, Zec, Zed, Zee, Zef, Zeg, Zeh, Nat.add_zero, Zei, Zej, Zek, Zel, Zem, Zen, Int.toNat_natCast, Bool.false_eq_true, Int.reduceEq, Int.reduceLT, Int.reduceLE, Int.reduceNeg, not_false_eq_true, and_self, Zeo, Zep, Int.natCast_one, Int.cast_ofNat_Int, not_true_eq_false, decide_true, decide_false, true_implies, false_implies, Int.toNat_zero, List.length_cons, List.length_nil, Nat.zero_add, mb, Nat.reduceBEq, Bool.false_and, Bool.and_false, Zeq, tys, stb, Zer, Zes, Zet, Zeu, Zev, Zew, Bool.or_false, Bool.false_or, Bool.true_and, Bool.or_true, Bool.true_or, Zex, Zey, t0, t1, t6, t7, t8, c1, e1, e2, e3, e4, e5, e6, strs_get, c2, less_call, hb, vBin_shr]
      refine ⟨⟨by omega, by omega⟩, (lo + hi) / 2 - lo, by omega, lo, (lo + hi) / 2, rfl, rfl, by omega, by omega, rfl, i1, fun i h3 h4 => ?_⟩
      rcases Nat.lt_or_ge ((lo + hi) / 2) i with h | h
      · cases hc : Op.bytesLess (ws.getD i []) s with
        | false => rfl
        | true =>
          have := less_trans (hr _ i h h4) hc
          rw [hb] at this; simp at this
      · have : i = (lo + hi) / 2 := by omega
        subst this; exact hb
  · have he : hi = lo := by omega
    obtain rfl : lo = hi := he.symm
    have c1 : ¬ (lo : Int) < (lo : Int) := by omega
    have hcnt := count_of h2 i1 i2
    have hmem := mem_of hr i1 i2
    by_cases c3 : lo < ws.length
    · have c4 : (lo : Int) < (ws.length : Int) := by omega
      have c6 : (0 : Int) ≤ (lo : Int) ∧ (lo : Int) < (ws.length : Int) := by omega
      by_cases c5 : ws.getD lo [] = s
      · have hm : s ∈ ws := hmem.2 ⟨c3, c5⟩
        simp -implicitDefEqProofs only [Zaa, Zab, Zac, Zad, Zae, Zaf, Zag, Zah, Zai, Zaj, Zak, Zal, Zam, Zan, Zao, Zap, Zaq, Zar, Zas, Zat, Zau, Zav, Zaw, Zax, Zay, Zaz, Zba, Zbb, Zbc, Zbd, Zbe, Zbf, Zbg, Zbh, Zbi, Zbj, Zbk, Zbl, Zbm, Zbn, Zbo, Zbp, Zbq, Zbr, Zbs, Zbt, Zbu, Zbv, Zbw, Zbx, Zby, Zbz, Zca, Zcb, Zcc, Zcd, Zce, Zcf, Zcg, evalT, Zch, Nat.reduceLT, Nat.reduceEqDiff, if_true, if_false, reduceIte, true_and, Zci, Zcj, map_ite', Zck, bind_ite', Zcl, Zcm, Zcn, Zco, Zcp, Zcq, Zcr, Zcs, Zct, Zcu, Zcv, Zcw, Zcx, Zcy, Zcz, Zda, Zdb, Zdc, Zdd, Zde, Zdf, Zdg, ofVal, ofCell, argT, List.getD_cons_zero, List.getD_cons_succ, List.getElem?_toArray, List.getElem?_cons_zero, List.getElem?_cons_succ, List.nil_append, List.cons_append, List.append_nil, resT, Zdh, Zdi, Nat.mul_one, Zdj, Zdk, Zdl, Zdm, Zdn, Zdo, Zdp, Zdq, Zdr, Zds, Zdt, setT, Zdu, Zdv, Zdw, Zdx, Zdy, List.append_eq, Zdz, Zea, Zeb, Zec, Zed, Zee, Zef, Zeg, Zeh, Nat.add_zero, Zei, Zej, Zek, Zel, Zem, Zen, Int.toNat_natCast, Bool.false_eq_true, Int.reduceEq, Int.reduceLT, Int.reduceLE, Int.reduceNeg, not_false_eq_true, and_self, Zeo, Zep, Int.natCast_one, Int.cast_ofNat_Int, not_true_eq_false, decide_true, decide_false, true_implies, false_implies, Int.toNat_zero, List.length_cons, List.length_nil, Nat.zero_add, mb, Nat.reduceBEq, Bool.false_and, Bool.and_false, Zeq, tys, stb, Zer, Zes, Zet, Zeu, Zev, Zew, Bool.or_false, Bool.false_or, Bool.true_and, Bool.or_true, Bool.true_or, Zex, Zey, t0, t1, t6, t7, t8, c1, c4, c6, strs_get, c3, c5, vBin_seql, nan2_call]
        simp [oneOr, sealDepth, sealV_tup, mapM_seal_cons, mapM_seal_nil, sealV_int, sealV_bool, hcnt, hm]
      · have hm : ¬ s ∈ ws := fun h => c5 (hmem.1 h).2
        simp -implicitDefEqProofs only [Zaa, Zab, Zac, Zad, Zae, Zaf, Zag, Zah, Zai, Zaj, Zak, Zal, Zam, Zan, Zao, Zap, Zaq, Zar, Zas, Zat, Zau, Zav, Zaw, Zax, Zay, Zaz, Zba, Zbb, Zbc, Zbd, Zbe, Zbf, Zbg, Zbh, Zbi, Zbj, Zbk, Zbl, Zbm, Zbn, Zbo, Zbp, Zbq, Zbr, Zbs, Zbt, Zbu, Zbv, Zbw, Zbx, Zby, Zbz, Zca, Zcb, Zcc, Zcd, Zce, Zcf, Zcg, evalT, Zch, Nat.reduceLT, Nat.reduceEqDiff, if_true, if_false, reduceIte, true_and, Zci, Zcj, map_ite', Zck, bind_ite', Zcl, Zcm, Zcn, Zco, Zcp, Zcq, Zcr, Zcs, Zct, Zcu, Zcv, Zcw, Zcx, Zcy, Zcz, Zda, Zdb, Zdc, Zdd, Zde, Zdf, Zdg, ofVal, ofCell, argT, List.getD_cons_zero, List.getD_cons_succ, List.getElem?_toArray, List.getElem?_cons_zero, List.getElem?_cons_succ, List.nil_append, List.cons_append, List.append_nil, resT, Zdh, Zdi, Nat.mul_one, Zdj, Zdk, Zdl, Zdm, Zdn, Zdo, Zdp, Zdq, Zdr, Zds, Zdt, setT, Zdu, Zdv, Zdw, Zdx, Zdy, List.append_eq, Zdz, Zea, Zeb, Zec, Zed, Zee, Zef, Zeg, Zeh, Nat.add_zero, Zei, Zej, Zek, Zel, Zem, Zen, Int.toNat_natCast, Bool.false_eq_true, Int.reduceEq, Int.reduceLT, Int.reduceLE, Int.reduceNeg, not_false_eq_true, and_self, Zeo, Zep, Int.natCast_one, Int.cast_ofNat_Int, not_true_eq_false, decide_true, decide_false, true_implies, false_implies, Int.toNat_zero, List.length_cons, List.length_nil, Nat.zero_add, mb, Nat.reduceBEq, Bool.false_and, Bool.and_false, Zeq, tys, stb, Zer, Zes, Zet, Zeu, Zev, Zew, Bool.or_false, Bool.false_or, Bool.true_and, Bool.or_true, Bool.true_or, Zex, Zey, t0, t1, t6, t7, t8, c1, c4, c6, strs_get, c3, c5, vBin_seql, nan2_call]
        simp [oneOr, sealDepth, sealV_tup, mapM_seal_cons, mapM_seal_nil, sealV_int, sealV_bool, hcnt, hm]
    · have c4 : ¬ (lo : Int) < (ws.length : Int) := by omega
      have hm : ¬ s ∈ ws := fun h => c3 (hmem.1 h).1
      simp -implicitDefEqProofs only [Zaa, Zab, Zac, Zad, Zae, Zaf, Zag, Zah, Zai, Zaj, Zak, Zal, Zam, Zan, Zao, Zap, Zaq, Zar, Zas, Zat, Zau, Zav, Zaw, Zax, Zay, Zaz, Zba, Zbb, Zbc, Zbd, Zbe, Zbf, Zbg, Zbh, Zbi, Zbj, Zbk, Zbl, Zbm, Zbn, Zbo, Zbp, Zbq, Zbr, Zbs, Zbt, Zbu, Zbv, Zbw, Zbx, Zby, Zbz, Zca, Zcb, Zcc, Zcd, Zce, Zcf, Zcg, evalT, Zch, Nat.reduceLT, Nat.reduceEqDiff, if_true, if_false, reduceIte, true_and, Zci, Zcj, map_ite', Zck, bind_ite', Zcl, Zcm, Zcn, Zco, Zcp, Zcq, Zcr, Zcs, Zct, Zcu, Zcv, Zcw, Zcx, Zcy, Zcz, Zda, Zdb, Zdc, Zdd, Zde, Zdf, Zdg, ofVal, ofCell, argT, List.getD_cons_zero, List.getD_cons_succ, List.getElem?_toArray, List.getElem?_cons_zero, List.getElem?_cons_succ, List.nil_append, List.cons_append, List.append_nil, resT, Zdh, Zdi, Nat.mul_one, Zdj, Zdk, Zdl, Zdm, Zdn, Zdo, Zdp, Zdq, Zdr, Zds, Zdt, setT, Zdu, Zdv, Zdw, Zdx, Zdy, List.append_eq, Zdz, Zea, Zeb, Zec, Zed, Zee, Zef, Zeg, Zeh, Nat.add_zero, Zei, Zej, Zek, Zel, Zem, Zen, Int.toNat_natCast, Bool.false_eq_true, Int.reduceEq, Int.reduceLT, Int.reduceLE, Int.reduceNeg, not_false_eq_true, and_self, Zeo, Zep, Int.natCast_one, Int.cast_ofNat_Int, not_true_eq_false, decide_true, decide_false, true_implies, false_implies, Int.toNat_zero, List.length_cons, List.length_nil, Nat.zero_add, mb, Nat.reduceBEq, Bool.false_and, Bool.and_false, Zeq, tys, stb, Zer, Zes, Zet, Zeu, Zev, Zew, Bool.or_false, Bool.false_or, Bool.true_and, Bool.or_true, Bool.true_or, Zex, Zey, t0, t1, t6, t7, t8, c1, c4, strs_get, c3, vBin_seql, nan2_call]
      simp [oneOr, sealDepth, sealV_tup, mapM_seal_cons, mapM_seal_nil, sealV_int, sealV_bool, hcnt, hm]
end Go.Proofs.YtbikmhpobflfeaaDoor.N

namespace Go.Proofs.YtbikmhpobflfeaaDoor.N
open Go.Ab
set_option maxRecDepth 100000
set_option linter.unusedSimpArgs false
set_option linter.unusedVariables false
/-- letters of names -/
def okC (c : UInt8) : Prop := (97 ≤ c.toNat ∧ c.toNat ≤ 122) ∨ (48 ≤ c.toNat ∧ c.toNat ≤ 57) ∨ c.toNat = 95
instance (c : UInt8) : Decidable (okC c) := by unfold okC; infer_instance
def wordsW : List (List UInt8) := ["above", "and", "batch", "between", "bits", "by", "consistent", "count", "else", "factor", "from", "histogram", "identity", "if", "join", "keep", "late", "limit", "mode", "none", "not", "of", "on", "or", "peak", "prefix", "quantile", "running", "sum", "then", "total", "tree", "using", "where", "with"].map fun s => s.toList.map fun c => UInt8.ofNat c.toNat
theorem resV_words : resV' = wordsW.map V.str := by kernel_rfl
theorem words_len : wordsW.length = 35 := by kernel_rfl
def risingB (ws : List (List UInt8)) : Bool := (List.range ws.length).all fun j => (List.range j).all fun i => Op.bytesLess (ws.getD i []) (ws.getD j [])
theorem words_rising : Rising wordsW := by
  have h : risingB wordsW = true := by kernel_rfl
  intro i j hij hj
  unfold risingB at h
  rw [List.all_eq_true] at h
  have h1 := h j (by simpa using hj)
  rw [List.all_eq_true] at h1
  exact h1 i (by simpa using hij)
def IsName (s : List UInt8) : Prop := 1 ≤ s.length ∧ s.length ≤ 20 ∧ 97 ≤ (s.getD 0 0).toNat ∧ (s.getD 0 0).toNat ≤ 122 ∧ (∀ i, i < s.length → okC (s.getD i 0)) ∧ s ∉ wordsW
instance (s : List UInt8) : Decidable (IsName s) := by unfold IsName; infer_instance

theorem sliceG0 : sliceO env 72 (.rptr resV') none none none = some (.row (wordsW.map V.str) wordsW.length .full) := by
  rw [resV_words, words_len]
  exact slice_arr u72 s9 (by rw [List.length_map, words_len])

theorem name_call (s : List UInt8) (hs : s.length < 2 ^ 63) (σ : S) : callFn env (ev env) 15 [.str s] σ = some (.bool (decide (IsName s)), σ) := by
  refine callFn_pure rfl rfl rfl at15 rfl (by simp [Tryd.f15]) (by simp [Tryd.f15]) (G_start ?_) σ
  by_cases h1 : (s.length : Int) < 1
  · have hn : ¬ IsName s := fun h => by have := h.1; omega
    simp -implicitDefEqProofs only [Tryd.f15, Zaa, Zab, Zac, Zad, Zae, Zaf, Zag, Zah, Zai, Zaj, Zak, Zal, Zam, Zan, Zao, Zap, Zaq, Zar, Zas, Zat, Zau, Zav, Zaw, Zax, Zay, Zaz, Zba, Zbb, Zbc, Zbd, Zbe, Zbf, Zbg, Zbh, Zbi, Zbj, Zbk, Zbl, Zbm, Zbn, Zbo, Zbp, Zbq, Zbr, Zbs, Zbt, Zbu, Zbv, Zbw, Zbx, Zby, Zbz, Zca, Zcb, Zcc, Zcd, Zce, Zcf, Zcg, evalT, Zch, Nat.reduceLT, Nat.reduceEqDiff, if_true, if_false, reduceIte, true_and, Zci, Zcj, map_ite', Zck, bind_ite', Zcl, Zcm, Zcn, Zco, Zcp, Zcq, Zcr, Zcs, Zct, Zcu, Zcv, Zcw, Zcx, Zcy, Zcz, Zda, Zdb, Zdc, Zdd, Zde, Zdf, Zdg, ofVal, ofCell, argT, List.getD_cons_zero, List.getD_cons_succ, List.getElem?_toArray, List.getElem?_cons_zero, List.getElem?_cons_succ, List.nil_append, List.cons_append, List.append_nil, resT, Zdh, Zdi, Nat.mul_one, Zdj, Zdk, Zdl, Zdm, Zdn, Zdo, Zdp, Zdq, Zdr, Zds, Zdt, setT, Zdu, Zdv, Zdw, Zdx, Zdy, List.append_eq, Zdz, Zea, Zeb, Zec, Zed, Zee, Zef, Zeg, Zeh, Nat.add_zero, Zei, Zej, Zek, Zel, Zem, Zen, Int.toNat_natCast, Bool.false_eq_true, Int.reduceEq, Int.reduceLT, Int.reduceLE, Int.reduceNeg, not_false_eq_true, and_self, Zeo, Zep, Int.natCast_one, Int.cast_ofNat_Int, not_true_eq_false, decide_true, decide_false, true_implies, false_implies, Int.toNat_zero, List.length_cons, List.length_nil, Nat.zero_add, mb, Nat.reduceBEq, Bool.false_and, Bool.and_false, Zeq, tys, stb, Zer, Zes, Zet, Zeu, Zev, Zew, Bool.or_false, Bool.false_or, Bool.true_and, Bool.or_true, Bool.true_or, Zex, Zey, h1, len_str, opT_index, indexO_str u9]
    simp [oneOr, sealDepth, sealV_bool, hn]
  by_cases h2 : (20 : Int) < (s.length : Int)
  · have hn : ¬ IsName s := fun h => by have := h.2.1; omega
    simp -implicitDefEqProofs only [Tryd.f15, Zaa, Zab, Zac, Zad, Zae, Zaf, Zag, Zah, Zai, Zaj, Zak, Zal, Zam, Zan, Zao, Zap, Zaq, Zar, Zas, Zat, Zau, Zav, Zaw, Zax, Zay, Zaz, Zba, Zbb, Zbc, Zbd, Zbe, Zbf, Zbg, Zbh, Zbi, Zbj, Zbk, Zbl, Zbm, Zbn, Zbo, Zbp, Zbq, Zbr, Zbs, Zbt, Zbu, Zbv, Zbw, Zbx, Zby, Zbz, Zca, Zcb, Zcc, Zcd, Zce, Zcf, Zcg, evalT, Zch, Nat.reduceLT, Nat.reduceEqDiff, if_true, if_false, reduceIte, true_and, Zci, Zcj, map_ite', Zck, bind_ite', Zcl, Zcm, Zcn, Zco, Zcp, Zcq, Zcr, Zcs, Zct, Zcu, Zcv, Zcw, Zcx, Zcy, Zcz, Zda, Zdb, Zdc, Zdd, Zde, Zdf, Zdg, ofVal, ofCell, argT, List.getD_cons_zero, List.getD_cons_succ, List.getElem?_toArray, List.getElem?_cons_zero, List.getElem?_cons_succ, List.nil_append, List.cons_append, List.append_nil, resT, Zdh, Zdi, Nat.mul_one, Zdj, Zdk, Zdl, Zdm, Zdn, Zdo, Zdp, Zdq, Zdr, Zds, Zdt, setT, Zdu, Zdv, Zdw, Zdx, Zdy, List.append_eq, Zdz, Zea, Zeb, Zec, Zed, Zee, Zef, Zeg, Zeh, Nat.add_zero, Zei, Zej, Zek, Zel, Zem, Zen, Int.toNat_natCast, Bool.false_eq_true, Int.reduceEq, Int.reduceLT, Int.reduceLE, Int.reduceNeg, not_false_eq_true, and_self, Zeo, Zep, Int.natCast_one, Int.cast_ofNat_Int, not_true_eq_false, decide_true, decide_false, true_implies, false_implies, Int.toNat_zero, List.length_cons, List.length_nil, Nat.zero_add, mb, Nat.reduceBEq, Bool.false_and, Bool.and_false, Zeq, tys, stb, Zer, Zes, Zet, Zeu, Zev, Zew, Bool.or_false, Bool.false_or, Bool.true_and, Bool.or_true, Bool.true_or, Zex, Zey, h1, h2, len_str, opT_index, indexO_str u9]
    simp [oneOr, sealDepth, sealV_bool, hn]
  have hb : (0 : Int) ≤ 0 ∧ (0 : Int) < (s.length : Int) := by omega
  have e0 : Int.toNat 0 = 0 := rfl
  by_cases h3 : (((s.getD 0 0).toNat : Nat) : Int) < 97
  · have hn : ¬ IsName s := fun h => by have := h.2.2.1; omega
    simp -implicitDefEqProofs only [Tryd.f15, Zaa, Zab, Zac, Zad, Zae, Zaf, Zag, Zah, Zai, Zaj, Zak, Zal, Zam, Zan, Zao, Zap, Zaq, Zar, Zas, Zat, Zau, Zav, Zaw, Zax, Zay, Zaz, Zba, Zbb, Zbc, Zbd, Zbe, Zbf, Zbg, Zbh, Zbi, Zbj, Zbk, Zbl, Zbm, Zbn, Zbo, Zbp, Zbq, Zbr, Zbs, Zbt, Zbu, Zbv, Zbw, Zbx, Zby, Zbz, Zca, Zcb, Zcc, Zcd, Zce, Zcf, Zcg, evalT, Zch, Nat.reduceLT, Nat.reduceEqDiff, if_true, if_false, reduceIte, true_and, Zci, Zcj, map_ite', Zck, bind_ite', Zcl, Zcm, Zcn, Zco, Zcp, Zcq, Zcr, Zcs, Zct, Zcu, Zcv, Zcw, Zcx, Zcy, Zcz, Zda, Zdb, Zdc, Zdd, Zde, Zdf, Zdg, ofVal, ofCell, argT, List.getD_cons_zero, List.getD_cons_succ, List.getElem?_toArray, List.getElem?_cons_zero, List.getElem?_cons_succ, List.nil_append, List.cons_append, List.append_nil, resT, Zdh, Zdi, Nat.mul_one, Zdj, Zdk, Zdl, Zdm, Zdn, Zdo, Zdp, Zdq, Zdr, Zds, Zdt, setT, Zdu, Zdv, Zdw, Zdx, Zdy, List.append_eq, Zdz, Zea, Zeb, Zec, Zed, Zee, Zef, Zeg, Zeh, Nat.add_zero, Zei, Zej, Zek, Zel, Zem, Zen, Int.toNat_natCast, Bool.false_eq_true, Int.reduceEq, Int.reduceLT, Int.reduceLE, Int.reduceNeg, not_false_eq_true, and_self, Zeo, Zep, Int.natCast_one, Int.cast_ofNat_Int, not_true_eq_false, decide_true, decide_false, true_implies, false_implies, Int.toNat_zero, List.length_cons, List.length_nil, Nat.zero_add, mb, Nat.reduceBEq, Bool.false_and, Bool.and_false, Zeq, tys, stb, Zer, Zes, Zet, Zeu, Zev, Zew, Bool.or_false, Bool.false_or, Bool.true_and, Bool.or_true, Bool.true_or, Zex, Zey, h1, h2, h3, len_str, opT_index, indexO_str u9, hb]
    simp [oneOr, sealDepth, sealV_bool, hn]
  by_cases h4 : (122 : Int) < (((s.getD 0 0).toNat : Nat) : Int)
  · have hn : ¬ IsName s := fun h => by have := h.2.2.2.1; omega
    simp -implicitDefEqProofs only [Tryd.f15, Zaa, Zab, Zac, Zad, Zae, Zaf, Zag, Zah, Zai, Zaj, Zak, Zal, Zam, Zan, Zao, Zap, Zaq, Zar, Zas, Zat, Zau, Zav, Zaw, Zax, Zay, Zaz, Zba, Zbb, Zbc, Zbd, Zbe, Zbf, Zbg, Zbh, Zbi, Zbj, Zbk, Zbl, Zbm, Zbn, Zbo, Zbp, Zbq, Zbr, Zbs, Zbt, Zbu, Zbv, Zbw, Zbx, Zby, Zbz, Zca, Zcb, Zcc, Zcd, Zce, Zcf, Zcg, evalT, Zch, Nat.reduceLT, Nat.reduceEqDiff, if_true, if_false, reduceIte, true_and, Zci, Zcj, map_ite', Zck, bind_ite', Zcl, Zcm, Zcn, Zco, Zcp, Zcq, Zcr, Zcs, Zct, Zcu, Zcv, Zcw, Zcx, Zcy, Zcz, Zda, Zdb, Zdc, Zdd, Zde, Zdf, Zdg, ofVal, ofCell, argT, List.getD_cons_zero, List.getD_cons_succ, List.getElem?_toArray, List.getElem?_cons_zero, List.getElem?_cons_succ, List.nil_append, List.cons_append, List.append_nil, resT, Zdh, Zdi, Nat.mul_one, Zdj, Zdk, Zdl, Zdm, Zdn, Zdo, Zdp, Zdq, Zdr, Zds, Zdt, setT, Zdu, Zdv, Zdw, Zdx, Zdy, List.append_eq, Zdz, Zea, Zeb, Zec, Zed, Zee, Zef, Zeg, Zeh, Nat.add_zero, Zei, Zej, Zek, Zel, Zem, Zen, Int.toNat_natCast, Bool.false_eq_true, Int.reduceEq, Int.reduceLT, Int.reduceLE, Int.reduceNeg, not_false_eq_true, and_self, Zeo, Zep, Int.natCast_one, Int.cast_ofNat_Int, not_true_eq_false, decide_true, decide_false, true_implies, false_implies, Int.toNat_zero, List.length_cons, List.length_nil, Nat.zero_add, mb, Nat.reduceBEq, Bool.false_and, Bool.and_false, Zeq, tys, stb, Zer, Zes, Zet, Zeu, Zev, Zew, Bool.or_false, Bool.false_or, Bool.true_and, Bool.or_true, Bool.true_or, Zex, Zey, h1, h2, h3, h4, len_str, opT_index, indexO_str u9, hb]
    simp [oneOr, sealDepth, sealV_bool, hn]
  simp -implicitDefEqProofs only [Tryd.f15, Zaa, Zab, Zac, Zad, Zae, Zaf, Zag, Zah, Zai, Zaj, Zak, Zal, Zam, Zan, Zao, Zap, Zaq, Zar, Zas, Zat, Zau, Zav, Zaw, Zax, Zay, Zaz, Zba, Zbb, Zbc, Zbd, Zbe, Zbf, Zbg, Zbh, Zbi, Zbj, Zbk, Zbl, Zbm, Zbn, Zbo, Zbp, Zbq, Zbr, Zbs, Zbt, Zbu, Zbv, Zbw, Zbx, Zby, Zbz, Zca, Zcb, Zcc, Zcd, Zce, Zcf, Zcg, evalT, Zch, Nat.reduceLT, Nat.reduceEqDiff, if_true, if_false, reduceIte, true_and, Zci, Zcj, map_ite', Zck, bind_ite', Zcl, Zcm, Zcn, Zco, Zcp, Zcq, Zcr, Zcs, Zct, Zcu, Zcv, Zcw, Zcx, Zcy, Zcz, Zda, Zdb, Zdc, Zdd, Zde, Zdf, Zdg, ofVal, ofCell, argT, List.getD_cons_zero, List.getD_cons_succ, List.getElem?_toArray, List.getElem?_cons_zero, List.getElem?_cons_succ, List.nil_append, List.cons_append, List.append_nil, resT, Zdh, Zdi, Nat.mul_one, Zdj, Zdk, Zdl, Zdm, Zdn, Zdo, Zdp, Zdq, Zdr, Zds, Zdt, setT, Zdu, Zdv, Zdw, Zdx, Zdy, List.append_eq, Zdz, Zea, Zeb, Zec, Zed, Zee, Zef, Zeg, Zeh, Nat.add_zero, Zei, Zej, Zek, Zel, Zem, Zen, Int.toNat_natCast, Bool.false_eq_true, Int.reduceEq, Int.reduceLT, Int.reduceLE, Int.reduceNeg, not_false_eq_true, and_self, Zeo, Zep, Int.natCast_one, Int.cast_ofNat_Int, not_true_eq_false, decide_true, decide_false, true_implies, false_implies, Int.toNat_zero, List.length_cons, List.length_nil, Nat.zero_add, mb, Nat.reduceBEq, Bool.false_and, Bool.and_false, Zeq, tys, stb, Zer, Zes, Zet, Zeu, Zev, Zew, Bool.or_false, Bool.false_or, Bool.true_and, Bool.or_true, Bool.true_or, Zex, Zey, h1, h2, h3, h4, len_str, opT_index, indexO_str u9, hb]
  refine loop_rule (fun m T D σ => D = [] ∧ σ = S.empty ∧ T 0 = .str s ∧ T 26 = .int .i64 s.length ∧ ∃ i : Nat, T 27 = .int .i64 i ∧ i ≤ s.length ∧ m = s.length - i ∧ ∀ j, j < i → okC (s.getD j 0)) ?_ _ _ _ _ ⟨rfl, rfl, rfl, rfl, 0, rfl, by omega, rfl, fun j h => by omega⟩
  rintro m T D σ ⟨rfl, rfl, t0, t26, i, t27, hi, rfl, hok⟩
  refine G_start ?_
  by_cases hlt : i < s.length
  · have c1 : (i : Int) < (s.length : Int) := by omega
    have c2 : (0 : Int) ≤ (i : Int) ∧ (i : Int) < (s.length : Int) := by omega
    have e1 : IntKind.i64.wrap ((i : Int) + 1) = ((i + 1 : Nat) : Int) := by rw [wrap_i64 (by omega) (by omega)]; omega
    have hstep : okC (s.getD i 0) → ∀ j, j < i + 1 → okC (s.getD j 0) := fun h j hj => by
      rcases Nat.lt_or_ge j i with h2 | h2
      · exact hok j h2
      · have : j = i := by omega
        subst this; exact h
    have hbad : ¬ okC (s.getD i 0) → ¬ IsName s := fun h hn => h (hn.2.2.2.2.1 i hlt)
    have hun : okC (s.getD i 0) ↔ ((97 ≤ (s.getD i 0).toNat ∧ (s.getD i 0).toNat ≤ 122) ∨ (48 ≤ (s.getD i 0).toNat ∧ (s.getD i 0).toNat ≤ 57) ∨ (s.getD i 0).toNat = 95) := Iff.rfl
    simp -implicitDefEqProofs only [Zaa, Zab, Zac, Zad, Zae, Zaf, Zag, Zah, Zai, Zaj, Zak, Zal, Zam, Zan, Zao, Zap, Zaq, Zar, Zas, Zat, Zau, Zav, Zaw, Zax, Zay, Zaz, Zba, Zbb, Zbc, Zbd, Zbe, Zbf, Zbg, Zbh, Zbi, Zbj, Zbk, Zbl, Zbm, Zbn, Zbo, Zbp, Zbq, Zbr, Zbs, Zbt, Zbu, Zbv, Zbw, Zbx, Zby, Zbz, Zca, Zcb, Zcc, Zcd, Zce, Zcf, Zcg, evalT, Zch, Nat.reduceLT, Nat.reduceEqDiff, if_true, if_false, reduceIte, true_and, Zci, Zcj, map_ite', Zck, bind_ite', Zcl, Zcm, Zcn, Zco, Zcp, Zcq, Zcr, Zcs, Zct, Zcu, Zcv, Zcw, Zcx, Zcy, Zcz, Zda, Zdb, Zdc, Zdd, Zde, Zdf, Zdg, ofVal, ofCell, argT, List.getD_cons_zero, List.getD_cons_succ, List.getElem?_toArray, List.getElem?_cons_zero, List.getElem?_cons_succ, List.nil_append, List.cons_append, List.append_nil, resT, Zdh, Zdi, Nat.mul_one, Zdj, Zdk, Zdl, Zdm, Zdn, Zdo, Zdp, Zdq, Zdr, Zds, Zdt, setT, Zdu, Zdv, Zdw, Zdx, Zdy, List.append_eq, Zdz, Zea, Zeb, Zec, Zed, Zee, Zef, Zeg, Zeh, Nat.add_zero, Zei, Zej, Zek, Zel, Zem, Zen, Int.toNat_natCast, Bool.false_eq_true, Int.reduceEq, Int.reduceLT, Int.reduceLE, Int.reduceNeg, not_false_eq_true, and_self, Zeo, Zep, Int.natCast_one, Int.cast_ofNat_Int, not_true_eq_false, decide_true, decide_false, true_implies, false_implies, Int.toNat_zero, List.length_cons, List.length_nil, Nat.zero_add, mb, Nat.reduceBEq, Bool.false_and, Bool.and_false, Zeq, tys, stb, Zer, Zes, Zet, Zeu, Zev, Zew, Bool.or_false, Bool.false_or, Bool.true_and, Bool.or_true, Bool.true_or, Zex, Zey, t0, t26, t27, c1, e1, len_str, opT_index, indexO_str u9, c2, Int.toNat_natCast]
    generalize (s.getD i 0) = c at *
    have inv : okC c → ∃ m', m' < s.length - i ∧ ∃ i_1 : Nat, V.int IntKind.i64 ((i + 1 : Nat) : Int) = V.int IntKind.i64 (i_1 : Nat) ∧ i_1 ≤ s.length ∧ m' = s.length - i_1 ∧ ∀ (j : Nat), j < i_1 → okC (s.getD j 0) :=
      fun h => ⟨s.length - (i + 1), by omega, i + 1, rfl, by omega, rfl, hstep h⟩
    have bad : ¬ okC c → sealV S.empty.heap sealDepth (oneOr [V.bool false]) = some (V.bool (decide (IsName s))) := fun h => by
      simp [oneOr, sealDepth, sealV_bool, hbad h]
    repeat' (first | apply And.intro | intro _)
    all_goals first | exact inv (by unfold okC; omega) | exact bad (by unfold okC; omega)
  · have hi2 : i = s.length := by omega
    have c1 : ¬ (i : Int) < (s.length : Int) := by omega
    subst hi2
    have key : (s ∈ wordsW) = ¬ IsName s := by
      apply propext
      constructor
      · exact fun h hn => hn.2.2.2.2.2 h
      · intro h
        apply Classical.byContradiction
        intro hm
        exact h ⟨by omega, by omega, by omega, by omega, hok, hm⟩
    simp -implicitDefEqProofs only [Zaa, Zab, Zac, Zad, Zae, Zaf, Zag, Zah, Zai, Zaj, Zak, Zal, Zam, Zan, Zao, Zap, Zaq, Zar, Zas, Zat, Zau, Zav, Zaw, Zax, Zay, Zaz, Zba, Zbb, Zbc, Zbd, Zbe, Zbf, Zbg, Zbh, Zbi, Zbj, Zbk, Zbl, Zbm, Zbn, Zbo, Zbp, Zbq, Zbr, Zbs, Zbt, Zbu, Zbv, Zbw, Zbx, Zby, Zbz, Zca, Zcb, Zcc, Zcd, Zce, Zcf, Zcg, evalT, Zch, Nat.reduceLT, Nat.reduceEqDiff, if_true, if_false, reduceIte, true_and, Zci, Zcj, map_ite', Zck, bind_ite', Zcl, Zcm, Zcn, Zco, Zcp, Zcq, Zcr, Zcs, Zct, Zcu, Zcv, Zcw, Zcx, Zcy, Zcz, Zda, Zdb, Zdc, Zdd, Zde, Zdf, Zdg, ofVal, ofCell, argT, List.getD_cons_zero, List.getD_cons_succ, List.getElem?_toArray, List.getElem?_cons_zero, List.getElem?_cons_succ, List.nil_append, List.cons_append, List.append_nil, resT, Zdh, Zdi, Nat.mul_one, Zdj, Zdk, Zdl, Zdm, Zdn, Zdo, Zdp, Zdq, Zdr, Zds, Zdt, setT, Zdu, Zdv, Zdw, Zdx, Zdy, List.append_eq, Zdz, Zea, Zeb, Zec, Zed, Zee, Zef, Zeg, Zeh, Nat.add_zero, Zei, Zej, Zek, Zel, Zem, Zen, Int.toNat_natCast, Bool.false_eq_true, Int.reduceEq, Int.reduceLT, Int.reduceLE, Int.reduceNeg, not_false_eq_true, and_self, Zeo, Zep, Int.natCast_one, Int.cast_ofNat_Int, not_true_eq_false, decide_true, decide_false, true_implies, false_implies, Int.toNat_zero, List.length_cons, List.length_nil, Nat.zero_add, mb, Nat.reduceBEq, Bool.false_and, Bool.and_false, Zeq, tys, stb, Zer, Zes, Zet, Zeu, Zev, Zew, Bool.or_false, Bool.false_or, Bool.true_and, Bool.or_true, Bool.true_or, Zex, Zey, t0, t26, t27, c1, len_str, opT_slice, optO_none, sliceG0, search_call wordsW (by rw [words_len]; decide) words_rising, show env.gl 0 = some (.rptr resV') from rfl]
    by_cases hn : IsName s
    · have hm : ¬ s ∈ wordsW := hn.2.2.2.2.2
      simp [oneOr, sealDepth, sealV_bool, hn, hm]
    · have hm : s ∈ wordsW := by rw [key]; exact hn
      simp [oneOr, sealDepth, sealV_bool, hn, hm]
end Go.Proofs.YtbikmhpobflfeaaDoor.N

namespace Go.Proofs.YtbikmhpobflfeaaDoor.N
open Go.Ab
set_option maxRecDepth 100000
set_option linter.unusedSimpArgs false
set_option linter.unusedVariables false
theorem res_call (σ : S) : callFn env (ev env) 18 [] σ = some (.row (wordsW.map V.str) wordsW.length .unk, σ) :=
  row_of_run rfl rfl rfl (k := 20) (by rw [← runQ_eq]; kernel_rfl) σ
theorem ref_call (σ : S) : callFn env (ev env) 19 [] σ = some (.row (wordsW.map V.str) wordsW.length .unk, σ) :=
  row_of_run rfl rfl rfl (k := 20) (by rw [← runQ_eq]; kernel_rfl) σ
theorem refname_call (s : List UInt8) (hs : s.length < 2 ^ 63) (σ : S) : callFn env (ev env) 16 [.str s] σ = some (.bool (decide (IsName s)), σ) := by
  refine callFn_pure rfl rfl rfl at16 rfl (by simp [Tryd.f16]) (by simp [Tryd.f16]) (G_start ?_) σ
  by_cases h1 : (s.length : Int) < 1
  · have hn : ¬ IsName s := fun h => by have := h.1; omega
    simp -implicitDefEqProofs only [Tryd.f16, Zaa, Zab, Zac, Zad, Zae, Zaf, Zag, Zah, Zai, Zaj, Zak, Zal, Zam, Zan, Zao, Zap, Zaq, Zar, Zas, Zat, Zau, Zav, Zaw, Zax, Zay, Zaz, Zba, Zbb, Zbc, Zbd, Zbe, Zbf, Zbg, Zbh, Zbi, Zbj, Zbk, Zbl, Zbm, Zbn, Zbo, Zbp, Zbq, Zbr, Zbs, Zbt, Zbu, Zbv, Zbw, Zbx, Zby, Zbz, Zca, Zcb, Zcc, Zcd, Zce, Zcf, Zcg, evalT, Zch, Nat.reduceLT, Nat.reduceEqDiff, if_true, if_false, reduceIte, true_and, Zci, Zcj, map_ite', Zck, bind_ite', Zcl, Zcm, Zcn, Zco, Zcp, Zcq, Zcr, Zcs, Zct, Zcu, Zcv, Zcw, Zcx, Zcy, Zcz, Zda, Zdb, Zdc, Zdd, Zde, Zdf, Zdg, ofVal, ofCell, argT, List.getD_cons_zero, List.getD_cons_succ, List.getElem?_toArray, List.getElem?_cons_zero, List.getElem?_cons_succ, List.nil_append, List.cons_append, List.append_nil, resT, Zdh, Zdi, Nat.mul_one, Zdj, Zdk, Zdl, Zdm, Zdn, Zdo, Zdp, Zdq, Zdr, Zds, Zdt, setT, Zdu, Zdv, Zdw, Zdx, Zdy, List.append_eq, Zdz, Zea, Zeb, Zec, Zed, Zee, Zef, Zeg, Zeh, Nat.add_zero, Zei, Zej, Zek, Zel, Zem, Zen, Int.toNat_natCast, Bool.false_eq_true, Int.reduceEq, Int.reduceLT, Int.reduceLE, Int.reduceNeg, not_false_eq_true, and_self, Zeo, Zep, Int.natCast_one, Int.cast_ofNat_Int, not_true_eq_false, decide_true, decide_false, true_implies, false_implies, Int.toNat_zero, List.length_cons, List.length_nil, Nat.zero_add, mb, Nat.reduceBEq, Bool.false_and, Bool.and_false, Zeq, tys, stb, Zer, Zes, Zet, Zeu, Zev, Zew, Bool.or_false, Bool.false_or, Bool.true_and, Bool.or_true, Bool.true_or, Zex, Zey, h1, len_str, opT_index, indexO_str u9]
    simp [oneOr, sealDepth, sealV_bool, hn]
  by_cases h2 : (20 : Int) < (s.length : Int)
  · have hn : ¬ IsName s := fun h => by have := h.2.1; omega
    simp -implicitDefEqProofs only [Tryd.f16, Zaa, Zab, Zac, Zad, Zae, Zaf, Zag, Zah, Zai, Zaj, Zak, Zal, Zam, Zan, Zao, Zap, Zaq, Zar, Zas, Zat, Zau, Zav, Zaw, Zax, Zay, Zaz, Zba, Zbb, Zbc, Zbd, Zbe, Zbf, Zbg, Zbh, Zbi, Zbj, Zbk, Zbl, Zbm, Zbn, Zbo, Zbp, Zbq, Zbr, Zbs, Zbt, Zbu, Zbv, Zbw, Zbx, Zby, Zbz, Zca, Zcb, Zcc, Zcd, Zce, Zcf, Zcg, evalT, Zch, Nat.reduceLT, Nat.reduceEqDiff, if_true, if_false, reduceIte, true_and, Zci, Zcj, map_ite', Zck, bind_ite', Zcl, Zcm, Zcn, Zco, Zcp, Zcq, Zcr, Zcs, Zct, Zcu, Zcv, Zcw, Zcx, Zcy, Zcz, Zda, Zdb, Zdc, Zdd, Zde, Zdf, Zdg, ofVal, ofCell, argT, List.getD_cons_zero, List.getD_cons_succ, List.getElem?_toArray, List.getElem?_cons_zero, List.getElem?_cons_succ, List.nil_append, List.cons_append, List.append_nil, resT, Zdh, Zdi, Nat.mul_one, Zdj, Zdk, Zdl, Zdm, Zdn, Zdo, Zdp, Zdq, Zdr, Zds, Zdt, setT, Zdu, Zdv, Zdw, Zdx, Zdy, List.append_eq, Zdz, Zea, Zeb, Zec, Zed, Zee, Zef, Zeg, Zeh, Nat.add_zero, Zei, Zej, Zek, Zel, Zem, Zen, Int.toNat_natCast, Bool.false_eq_true, Int.reduceEq, Int.reduceLT, Int.reduceLE, Int.reduceNeg, not_false_eq_true, and_self, Zeo, Zep, Int.natCast_one, Int.cast_ofNat_Int, not_true_eq_false, decide_true, decide_false, true_implies, false_implies, Int.toNat_zero, List.length_cons, List.length_nil, Nat.zero_add, mb, Nat.reduceBEq, Bool.false_and, Bool.and_false, Zeq, tys, stb, Zer, Zes, Zet, Zeu, Zev, Zew, Bool.or_false, Bool.false_or, Bool.true_and, Bool.or_true, Bool.true_or, Zex, Zey, h1, h2, len_str, opT_index, indexO_str u9]
    simp [oneOr, sealDepth, sealV_bool, hn]
  have hb : (0 : Int) ≤ 0 ∧ (0 : Int) < (s.length : Int) := by omega
  have e0 : Int.toNat 0 = 0 := rfl
  by_cases h3 : (((s.getD 0 0).toNat : Nat) : Int) < 97
  · have hn : ¬ IsName s := fun h => by have := h.2.2.1; omega
    simp -implicitDefEqProofs only [Tryd.f16, Zaa, Zab, Zac, Zad, Zae, Zaf, Zag, Zah, Zai, Zaj, Zak, Zal, Zam, Zan, Zao, Zap, Zaq, Zar, Zas, Zat, Zau, Zav, Zaw, Zax, Zay, Zaz, Zba, Zbb, Zbc, Zbd, Zbe, Zbf, Zbg, Zbh, Zbi, Zbj, Zbk, Zbl, Zbm, Zbn, Zbo, Zbp, Zbq, Zbr, Zbs, Zbt, Zbu, Zbv, Zbw, Zbx, Zby, Zbz, Zca, Zcb, Zcc, Zcd, Zce, Zcf, Zcg, evalT, Zch, Nat.reduceLT, Nat.reduceEqDiff, if_true, if_false, reduceIte, true_and, Zci, Zcj, map_ite', Zck, bind_ite', Zcl, Zcm, Zcn, Zco, Zcp, Zcq, Zcr, Zcs, Zct, Zcu, Zcv, Zcw, Zcx, Zcy, Zcz, Zda, Zdb, Zdc, Zdd, Zde, Zdf, Zdg, ofVal, ofCell, argT, List.getD_cons_zero, List.getD_cons_succ, List.getElem?_toArray, List.getElem?_cons_zero, List.getElem?_cons_succ, List.nil_append, List.cons_append, List.append_nil, resT, Zdh, Zdi, Nat.mul_one, Zdj, Zdk, Zdl, Zdm, Zdn, Zdo, Zdp, Zdq, Zdr, Zds, Zdt, setT, Zdu, Zdv, Zdw, Zdx, Zdy, List.append_eq, Zdz, Zea, Zeb, Zec, Zed, Zee, Zef, Zeg, Zeh, Nat.add_zero, Zei, Zej, Zek, Zel, Zem, Zen, Int.toNat_natCast, Bool.false_eq_true, Int.reduceEq, Int.reduceLT, Int.reduceLE, Int.reduceNeg, not_false_eq_true, and_self, Zeo, Zep, Int.natCast_one, Int.cast_ofNat_Int, not_true_eq_false, decide_true, decide_false, true_implies, false_implies, Int.toNat_zero, List.length_cons, List.length_nil, Nat.zero_add, mb, Nat.reduceBEq, Bool.false_and, Bool.and_false, Zeq, tys, stb, Zer, Zes, Zet, Zeu, Zev, Zew, Bool.or_false, Bool.false_or, Bool.true_and, Bool.or_true, Bool.true_or, Zex, Zey, h1, h2, h3, len_str, opT_index, indexO_str u9, hb]
    simp [oneOr, sealDepth, sealV_bool, hn]
  by_cases h4 : (122 : Int) < (((s.getD 0 0).toNat : Nat) : Int)
  · have hn : ¬ IsName s := fun h => by have := h.2.2.2.1; omega
    simp -implicitDefEqProofs only [Tryd.f16, Zaa, Zab, Zac, Zad, Zae, Zaf, Zag, Zah, Zai, Zaj, Zak, Zal, Zam, Zan, Zao, Zap, Zaq, Zar, Zas, Zat, Zau, Zav, Zaw, Zax, Zay, Zaz, Zba, Zbb, Zbc, Zbd, Zbe, Zbf, Zbg, Zbh, Zbi, Zbj, Zbk, Zbl, Zbm, Zbn, Zbo, Zbp, Zbq, Zbr, Zbs, Zbt, Zbu, Zbv, Zbw, Zbx, Zby, Zbz, Zca, Zcb, Zcc, Zcd, Zce, Zcf, Zcg, evalT, Zch, Nat.reduceLT, Nat.reduceEqDiff, if_true, if_false, reduceIte, true_and, Zci, Zcj, map_ite', Zck, bind_ite', Zcl, Zcm, Zcn, Zco, Zcp, Zcq, Zcr, Zcs, Zct, Zcu, Zcv, Zcw, Zcx, Zcy, Zcz, Zda, Zdb, Zdc, Zdd, Zde, Zdf, Zdg, ofVal, ofCell, argT, List.getD_cons_zero, List.getD_cons_succ, List.getElem?_toArray, List.getElem?_cons_zero, List.getElem?_cons_succ, List.nil_append, List.cons_append, List.append_nil, resT, Zdh, Zdi, Nat.mul_one, Zdj, Zdk, Zdl, Zdm, Zdn, Zdo, Zdp, Zdq, Zdr, Zds, Zdt, setT, Zdu, Zdv, Zdw, Zdx, Zdy, List.append_eq, Zdz, Zea, Zeb, Zec, Zed, Zee, Zef, Zeg, Zeh, Nat.add_zero, Zei, Zej, Zek, Zel, Zem, Zen, Int.toNat_natCast, Bool.false_eq_true, Int.reduceEq, Int.reduceLT, Int.reduceLE, Int.reduceNeg, not_false_eq_true, and_self, Zeo, Zep, Int.natCast_one, Int.cast_ofNat_Int, not_true_eq_false, decide_true, decide_false, true_implies, false_implies, Int.toNat_zero, List.length_cons, List.length_nil, Nat.zero_add, mb, Nat.reduceBEq, Bool.false_and, Bool.and_false, Zeq, tys, stb, Zer, Zes, Zet, Zeu, Zev, Zew, Bool.or_false, Bool.false_or, Bool.true_and, Bool.or_true, Bool.true_or, Zex, Zey, h1, h2, h3, h4, len_str, opT_index, indexO_str u9, hb]
    simp [oneOr, sealDepth, sealV_bool, hn]
  simp -implicitDefEqProofs only [Tryd.f16, Zaa, Zab, Zac, Zad, Zae, Zaf, Zag, Zah, Zai, Zaj, Zak, Zal, Zam, Zan, Zao, Zap, Zaq, Zar, Zas, Zat, Zau, Zav, Zaw, Zax, Zay, Zaz, Zba, Zbb, Zbc, Zbd, Zbe, Zbf, Zbg, Zbh, Zbi, Zbj, Zbk, Zbl, Zbm, Zbn, Zbo, Zbp, Zbq, Zbr, Zbs, Zbt, Zbu, Zbv, Zbw, Zbx, Zby, Zbz, Zca, Zcb, Zcc, Zcd, Zce, Zcf, Zcg, evalT, Zch, Nat.reduceLT, Nat.reduceEqDiff, if_true, if_false, reduceIte, true_and, Zci, Zcj, map_ite', Zck, bind_ite', Zcl, Zcm, Zcn, Zco, Zcp, Zcq, Zcr, Zcs, Zct, Zcu, Zcv, Zcw, Zcx, Zcy, Zcz, Zda, Zdb, Zdc, Zdd, Zde, Zdf, Zdg, ofVal, ofCell, argT, List.getD_cons_zero, List.getD_cons_succ, List.getElem?_toArray, List.getElem?_cons_zero, List.getElem?_cons_succ, List.nil_append, List.cons_append, List.append_nil, resT, Zdh, Zdi, Nat.mul_one, Zdj, Zdk, Zdl, Zdm, Zdn, Zdo, Zdp, Zdq, Zdr, Zds, Zdt, setT, Zdu, Zdv, Zdw, Zdx, Zdy, List.append_eq, Zdz, Zea, Zeb, Zec, Zed, Zee, Zef, Zeg, Zeh, Nat.add_zero, Zei, Zej, Zek, Zel, Zem, Zen, Int.toNat_natCast, Bool.false_eq_true, Int.reduceEq, Int.reduceLT, Int.reduceLE, Int.reduceNeg, not_false_eq_true, and_self, Zeo, Zep, Int.natCast_one, Int.cast_ofNat_Int, not_true_eq_false, decide_true, decide_false, true_implies, false_implies, Int.toNat_zero, List.length_cons, List.length_nil, Nat.zero_add, mb, Nat.reduceBEq, Bool.false_and, Bool.and_false, Zeq, tys, stb, Zer, Zes, Zet, Zeu, Zev, Zew, Bool.or_false, Bool.false_or, Bool.true_and, Bool.or_true, Bool.true_or, Zex, Zey, h1, h2, h3, h4, len_str, opT_index, indexO_str u9, hb]
  refine loop_rule (fun m T D σ => D = [] ∧ σ = S.empty ∧ T 0 = .str s ∧ ∃ i : Nat, T 3 = .int .i64 i ∧ i ≤ s.length ∧ m = s.length - i ∧ ∀ j, j < i → okC (s.getD j 0)) ?_ _ _ _ _ ⟨rfl, rfl, rfl, 0, rfl, by omega, rfl, fun j h => by omega⟩
  rintro m T D σ ⟨rfl, rfl, t0, i, t3, hi, rfl, hok⟩
  refine G_start ?_
  by_cases hlt : i < s.length
  · have c1 : (i : Int) < (s.length : Int) := by omega
    have c2 : (0 : Int) ≤ (i : Int) ∧ (i : Int) < (s.length : Int) := by omega
    have e1 : IntKind.i64.wrap ((i : Int) + 1) = ((i + 1 : Nat) : Int) := by rw [wrap_i64 (by omega) (by omega)]; omega
    have hstep : okC (s.getD i 0) → ∀ j, j < i + 1 → okC (s.getD j 0) := fun h j hj => by
      rcases Nat.lt_or_ge j i with h2 | h2
      · exact hok j h2
      · have : j = i := by omega
        subst this; exact h
    have hbad : ¬ okC (s.getD i 0) → ¬ IsName s := fun h hn => h (hn.2.2.2.2.1 i hlt)
    simp -implicitDefEqProofs only [Zaa, Zab, Zac, Zad, Zae, Zaf, Zag, Zah, Zai, Zaj, Zak, Zal, Zam, Zan, Zao, Zap, Zaq, Zar, Zas, Zat, Zau, Zav, Zaw, Zax, Zay, Zaz, Zba, Zbb, Zbc, Zbd, Zbe, Zbf, Zbg, Zbh, Zbi, Zbj, Zbk, Zbl, Zbm, Zbn, Zbo, Zbp, Zbq, Zbr, Zbs, Zbt, Zbu, Zbv, Zbw, Zbx, Zby, Zbz, Zca, Zcb, Zcc, Zcd, Zce, Zcf, Zcg, evalT, Zch, Nat.reduceLT, Nat.reduceEqDiff, if_true, if_false, reduceIte, true_and, Zci, Zcj, map_ite', Zck, bind_ite', Zcl, Zcm, Zcn, Zco, Zcp, Zcq, Zcr, Zcs, Zct, Zcu, Zcv, Zcw, Zcx, Zcy, Zcz, Zda, Zdb, Zdc, Zdd, Zde, Zdf, Zdg, ofVal, ofCell, argT, List.getD_cons_zero, List.getD_cons_succ, List.getElem?_toArray, List.getElem?_cons_zero, List.getElem?_cons_succ, List.nil_append, List.cons_append, List.append_nil, resT, Zdh, Zdi, Nat.mul_one, Zdj, Zdk, Zdl, Zdm, Zdn, Zdo, Zdp, Zdq, Zdr, Zds, Zdt, setT, Zdu, Zdv, Zdw, Zdx, Zdy, List.append_eq, Zdz, Zea, Zeb, Zec, Zed, Zee, Zef, Zeg, Zeh, Nat.add_zero, Zei, Zej, Zek, Zel, Zem, Zen, Int.toNat_natCast, Bool.false_eq_true, Int.reduceEq, Int.reduceLT, Int.reduceLE, Int.reduceNeg, not_false_eq_true, and_self, Zeo, Zep, Int.natCast_one, Int.cast_ofNat_Int, not_true_eq_false, decide_true, decide_false, true_implies, false_implies, Int.toNat_zero, List.length_cons, List.length_nil, Nat.zero_add, mb, Nat.reduceBEq, Bool.false_and, Bool.and_false, Zeq, tys, stb, Zer, Zes, Zet, Zeu, Zev, Zew, Bool.or_false, Bool.false_or, Bool.true_and, Bool.or_true, Bool.true_or, Zex, Zey, t0, t3, c1, e1, len_str, opT_index, indexO_str u9, c2, Int.toNat_natCast]
    generalize (s.getD i 0) = c at *
    have inv : okC c → ∃ m', m' < s.length - i ∧ ∃ i_1 : Nat, V.int IntKind.i64 ((i + 1 : Nat) : Int) = V.int IntKind.i64 (i_1 : Nat) ∧ i_1 ≤ s.length ∧ m' = s.length - i_1 ∧ ∀ (j : Nat), j < i_1 → okC (s.getD j 0) :=
      fun h => ⟨s.length - (i + 1), by omega, i + 1, rfl, by omega, rfl, hstep h⟩
    have bad : ¬ okC c → sealV S.empty.heap sealDepth (oneOr [V.bool false]) = some (V.bool (decide (IsName s))) := fun h => by
      simp [oneOr, sealDepth, sealV_bool, hbad h]
    repeat' (first | apply And.intro | intro _)
    all_goals first | exact inv (by unfold okC; omega) | exact bad (by unfold okC; omega)
  · have hi2 : i = s.length := by omega
    have c1 : ¬ (i : Int) < (s.length : Int) := by omega
    subst hi2
    have key : (s ∈ wordsW) = ¬ IsName s := by
      apply propext
      constructor
      · exact fun h hn => hn.2.2.2.2.2 h
      · intro h
        apply Classical.byContradiction
        intro hm
        exact h ⟨by omega, by omega, by omega, by omega, hok, hm⟩
    simp -implicitDefEqProofs only [Zaa, Zab, Zac, Zad, Zae, Zaf, Zag, Zah, Zai, Zaj, Zak, Zal, Zam, Zan, Zao, Zap, Zaq, Zar, Zas, Zat, Zau, Zav, Zaw, Zax, Zay, Zaz, Zba, Zbb, Zbc, Zbd, Zbe, Zbf, Zbg, Zbh, Zbi, Zbj, Zbk, Zbl, Zbm, Zbn, Zbo, Zbp, Zbq, Zbr, Zbs, Zbt, Zbu, Zbv, Zbw, Zbx, Zby, Zbz, Zca, Zcb, Zcc, Zcd, Zce, Zcf, Zcg, evalT, Zch, Nat.reduceLT, Nat.reduceEqDiff, if_true, if_false, reduceIte, true_and, Zci, Zcj, map_ite', Zck, bind_ite', Zcl, Zcm, Zcn, Zco, Zcp, Zcq, Zcr, Zcs, Zct, Zcu, Zcv, Zcw, Zcx, Zcy, Zcz, Zda, Zdb, Zdc, Zdd, Zde, Zdf, Zdg, ofVal, ofCell, argT, List.getD_cons_zero, List.getD_cons_succ, List.getElem?_toArray, List.getElem?_cons_zero, List.getElem?_cons_succ, List.nil_append, List.cons_append, List.append_nil, resT, Zdh, Zdi, Nat.mul_one, Zdj, Zdk, Zdl, Zdm, Zdn, Zdo, Zdp, Zdq, Zdr, Zds, Zdt, setT, Zdu, Zdv, Zdw, Zdx, Zdy, List.append_eq, Zdz, Zea, Zeb, Zec, Zed, Zee, Zef, Zeg, Zeh, Nat.add_zero, Zei, Zej, Zek, Zel, Zem, Zen, Int.toNat_natCast, Bool.false_eq_true, Int.reduceEq, Int.reduceLT, Int.reduceLE, Int.reduceNeg, not_false_eq_true, and_self, Zeo, Zep, Int.natCast_one, Int.cast_ofNat_Int, not_true_eq_false, decide_true, decide_false, true_implies, false_implies, Int.toNat_zero, List.length_cons, List.length_nil, Nat.zero_add, mb, Nat.reduceBEq, Bool.false_and, Bool.and_false, Zeq, tys, stb, Zer, Zes, Zet, Zeu, Zev, Zew, Bool.or_false, Bool.false_or, Bool.true_and, Bool.or_true, Bool.true_or, Zex, Zey, t0, t3, c1, len_str, ref_call]
    refine loop_rule (fun m T D σ => D = [] ∧ σ = S.empty ∧ T 0 = .str s ∧ T 5 = .row (wordsW.map V.str) wordsW.length .unk ∧ ∃ i : Nat, T 6 = .int .i64 i ∧ i ≤ wordsW.length ∧ m = wordsW.length - i ∧ ∀ j, j < i → wordsW.getD j [] ≠ s) ?_ _ _ _ _ ⟨rfl, rfl, t0, rfl, 0, rfl, by omega, rfl, fun j h => by omega⟩
    rintro m T D σ ⟨rfl, rfl, t0, t5, i, t6, hi, rfl, hno⟩
    refine G_start ?_
    have hw := words_len
    by_cases hlt : i < wordsW.length
    · have c1 : (i : Int) < (wordsW.length : Int) := by omega
      have c2 : (0 : Int) ≤ (i : Int) ∧ (i : Int) < (wordsW.length : Int) := by omega
      have e1 : IntKind.i64.wrap ((i : Int) + 1) = ((i + 1 : Nat) : Int) := by rw [wrap_i64 (by omega) (by omega)]; omega
      by_cases he : wordsW.getD i [] = s
      · have hn : ¬ IsName s := fun h => h.2.2.2.2.2 (by rw [← he]; simp [List.getD, hlt])
        simp -implicitDefEqProofs only [Zaa, Zab, Zac, Zad, Zae, Zaf, Zag, Zah, Zai, Zaj, Zak, Zal, Zam, Zan, Zao, Zap, Zaq, Zar, Zas, Zat, Zau, Zav, Zaw, Zax, Zay, Zaz, Zba, Zbb, Zbc, Zbd, Zbe, Zbf, Zbg, Zbh, Zbi, Zbj, Zbk, Zbl, Zbm, Zbn, Zbo, Zbp, Zbq, Zbr, Zbs, Zbt, Zbu, Zbv, Zbw, Zbx, Zby, Zbz, Zca, Zcb, Zcc, Zcd, Zce, Zcf, Zcg, evalT, Zch, Nat.reduceLT, Nat.reduceEqDiff, if_true, if_false, reduceIte, true_and, Zci, Zcj, map_ite', Zck, bind_ite', Zcl, Zcm, Zcn, Zco, Zcp, Zcq, Zcr, Zcs, Zct, Zcu, Zcv, Zcw, Zcx, Zcy, Zcz, Zda, Zdb, Zdc, Zdd, Zde, Zdf, Zdg, ofVal, ofCell, argT, List.getD_cons_zero, List.getD_cons_succ, List.getElem?_toArray, List.getElem?_cons_zero, List.getElem?_cons_succ, List.nil_append, List.cons_append, List.append_nil, resT, Zdh, Zdi, Nat.mul_one, Zdj, Zdk, Zdl, Zdm, Zdn, Zdo, Zdp, Zdq, Zdr, Zds, Zdt, setT, Zdu, Zdv, Zdw, Zdx, Zdy, List.append_eq, Zdz, Zea, Zeb, Zec, Zed, Zee, Zef, Zeg, Zeh, Nat.add_zero, Zei, Zej, Zek, Zel, Zem, Zen, Int.toNat_natCast, Bool.false_eq_true, Int.reduceEq, Int.reduceLT, Int.reduceLE, Int.reduceNeg, not_false_eq_true, and_self, Zeo, Zep, Int.natCast_one, Int.cast_ofNat_Int, not_true_eq_false, decide_true, decide_false, true_implies, false_implies, Int.toNat_zero, List.length_cons, List.length_nil, Nat.zero_add, mb, Nat.reduceBEq, Bool.false_and, Bool.and_false, Zeq, tys, stb, Zer, Zes, Zet, Zeu, Zev, Zew, Bool.or_false, Bool.false_or, Bool.true_and, Bool.or_true, Bool.true_or, Zex, Zey, t0, t5, t6, c1, c2, e1, strs_get, hlt, he, vBin_seql]
        simp [oneOr, sealDepth, sealV_bool, hn]
      · simp -implicitDefEqProofs only [Zaa, Zab, Zac, Zad, Zae, Zaf, Zag, Zah, Zai, Zaj, Zak, Zal, Zam, Zan, Zao, Zap, Zaq, Zar, Zas, Zat, Zau, Zav, Zaw, Zax, Zay, Zaz, Zba, Zbb, Zbc, Zbd, Zbe, Zbf, Zbg, Zbh, Zbi, Zbj, Zbk, Zbl, Zbm, Zbn, Zbo, Zbp, Zbq, Zbr, Zbs, Zbt, Zbu, Zbv, Zbw, Zbx, Zby, Zbz, Zca, Zcb, Zcc, Zcd, Zce, Zcf, Zcg, evalT, Zch, Nat.reduceLT, Nat.reduceEqDiff, if_true, if_false, reduceIte, true_and, Zci, Zcj, map_ite', Zck, bind_ite', Zcl, Zcm, Zcn, Zco, Zcp, Zcq, Zcr, Zcs, Zct, Zcu, Zcv, Zcw, Zcx, Zcy, Zcz, Zda, Zdb, Zdc, Zdd, Zde, Zdf, Zdg, ofVal, ofCell, argT, List.getD_cons_zero, List.getD_cons_succ, List.getElem?_toArray, List.getElem?_cons_zero, List.getElem?_cons_succ, List.nil_append, List.cons_append, List.append_nil, resT, Zdh, Zdi, Nat.mul_one, Zdj, Zdk, Zdl, Zdm, Zdn, Zdo, Zdp, Zdq, Zdr, Zds, Zdt, setT, Zdu, Zdv, Zdw, Zdx, Zdy, List.append_eq, Zdz, Zea, Zeb, Zec, Zed, Zee, Zef, Zeg, Zeh, Nat.add_zero, Zei, Zej, Zek, Zel, Zem, Zen, Int.toNat_natCast, Bool.false_eq_true, Int.reduceEq, Int.reduceLT, Int.reduceLE, Int.reduceNeg, not_false_eq_true, and_self, Zeo, Zep, Int.natCast_one, Int.cast_ofNat_Int, not_true_eq_false, decide_true, decide_false, true_implies, false_implies, Int.toNat_zero, List.length_cons, List.length_nil, Nat.zero_add, mb, Nat.reduceBEq, Bool.false_and, Bool.and_false, Zeq, tys, stb, Zer, Zes, Zet, Zeu, Zev, Zew, Bool.or_false, Bool.false_or, Bool.true_and, Bool.or_true, Bool.true_or, Zex, Zey, t0, t5, t6, c1, c2, e1, strs_get, hlt, he, vBin_seql]
        exact ⟨wordsW.length - (i + 1), by omega, i + 1, rfl, by omega, rfl, fun j hj => by
          rcases Nat.lt_or_ge j i with h2 | h2
          · exact hno j h2
          · have : j = i := by omega
            subst this; exact he⟩
    · have hi3 : i = wordsW.length := by omega
      subst hi3
      have c1 : ¬ (wordsW.length : Int) < (wordsW.length : Int) := by omega
      have hm : ¬ s ∈ wordsW := by
        intro hm
        obtain ⟨k, hk, rfl⟩ := List.mem_iff_getElem.1 hm
        exact hno k hk (by simp [List.getD, hk])
      have hn : IsName s := ⟨by omega, by omega, by omega, by omega, hok, hm⟩
      simp -implicitDefEqProofs only [Zaa, Zab, Zac, Zad, Zae, Zaf, Zag, Zah, Zai, Zaj, Zak, Zal, Zam, Zan, Zao, Zap, Zaq, Zar, Zas, Zat, Zau, Zav, Zaw, Zax, Zay, Zaz, Zba, Zbb, Zbc, Zbd, Zbe, Zbf, Zbg, Zbh, Zbi, Zbj, Zbk, Zbl, Zbm, Zbn, Zbo, Zbp, Zbq, Zbr, Zbs, Zbt, Zbu, Zbv, Zbw, Zbx, Zby, Zbz, Zca, Zcb, Zcc, Zcd, Zce, Zcf, Zcg, evalT, Zch, Nat.reduceLT, Nat.reduceEqDiff, if_true, if_false, reduceIte, true_and, Zci, Zcj, map_ite', Zck, bind_ite', Zcl, Zcm, Zcn, Zco, Zcp, Zcq, Zcr, Zcs, Zct, Zcu, Zcv, Zcw, Zcx, Zcy, Zcz, Zda, Zdb, Zdc, Zdd, Zde, Zdf, Zdg, ofVal, ofCell, argT, List.getD_cons_zero, List.getD_cons_succ, List.getElem?_toArray, List.getElem?_cons_zero, List.getElem?_cons_succ, List.nil_append, List.cons_append, List.append_nil, resT, Zdh, Zdi, Nat.mul_one, Zdj, Zdk, Zdl, Zdm, Zdn, Zdo, Zdp, Zdq, Zdr, Zds, Zdt, setT, Zdu, Zdv, Zdw, Zdx, Zdy, List.append_eq, Zdz, Zea, Zeb, Zec, Zed, Zee, Zef, Zeg, Zeh, Nat.add_zero, Zei, Zej, Zek, Zel, Zem, Zen, Int.toNat_natCast, Bool.false_eq_true, Int.reduceEq, Int.reduceLT, Int.reduceLE, Int.reduceNeg, not_false_eq_true, and_self, Zeo, Zep, Int.natCast_one, Int.cast_ofNat_Int, not_true_eq_false, decide_true, decide_false, true_implies, false_implies, Int.toNat_zero, List.length_cons, List.length_nil, Nat.zero_add, mb, Nat.reduceBEq, Bool.false_and, Bool.and_false, Zeq, tys, stb, Zer, Zes, Zet, Zeu, Zev, Zew, Bool.or_false, Bool.false_or, Bool.true_and, Bool.or_true, Bool.true_or, Zex, Zey, t0, t5, t6, c1, strs_get]
      simp [oneOr, sealDepth, sealV_bool, hn]
end Go.Proofs.YtbikmhpobflfeaaDoor.N

namespace Go.Proofs.YtbikmhpobflfeaaDoor
open Go.Ab
set_option maxRecDepth 100000
set_option linter.unusedSimpArgs false
set_option linter.unusedVariables false
/-- a digit -/
def IsDg (c : UInt8) : Prop := 48 ≤ c.toNat ∧ c.toNat ≤ 57
/-- the number of some digits -/
def decV : Nat → List UInt8 → Nat
  | a, [] => a
  | a, c :: r => decV (a * 10 + (c.toNat - 48)) r
theorem decV_app (l r : List UInt8) : ∀ a : Nat, decV a (l ++ r) = decV (decV a l) r := by
  induction l with
  | nil => exact fun a => rfl
  | cons c l ih => exact fun a => ih _
theorem decV_le (l : List UInt8) : ∀ a : Nat, a ≤ decV a l := by
  induction l with
  | nil => exact fun a => Nat.le_refl _
  | cons c l ih =>
    intro a
    show a ≤ decV (a * 10 + (c.toNat - 48)) l
    generalize c.toNat - 48 = x
    have h1 : a ≤ a * 10 + x := by omega
    exact Nat.le_trans h1 (ih (a * 10 + x))
theorem take_snoc {s : List UInt8} {i : Nat} (h : i < s.length) : s.take (i + 1) = s.take i ++ [s.getD i 0] := by
  rw [List.take_add_one]
  simp [List.getD, h]
theorem decV_step {s : List UInt8} {i : Nat} (h : i < s.length) : decV 0 (s.take (i + 1)) = decV 0 (s.take i) * 10 + ((s.getD i 0).toNat - 48) := by
  rw [take_snoc h, decV_app]; rfl
theorem decV_take (s : List UInt8) (i : Nat) : decV 0 (s.take i) ≤ decV 0 s := by
  conv => rhs; rw [← List.take_append_drop i s, decV_app]
  exact decV_le _ _
theorem at135 : env.P.funcs[135]? = some Tryd.f135 := by kernel_rfl
theorem at123 : env.P.funcs[123]? = some Tryd.f123 := by kernel_rfl
theorem at107 : env.P.funcs[107]? = some Tryd.f107 := by kernel_rfl
theorem u140 : env.P.underlying 140 = some (.int .i64) := by kernel_rfl
theorem u151 : env.P.underlying 151 = some (.int .u64) := by kernel_rfl
theorem u115 : env.P.underlying 115 = some (.int .u64) := by kernel_rfl
theorem u2 : env.P.underlying 2 = some (.int .i64) := by kernel_rfl
theorem bytes_get (s : List UInt8) (i : Nat) : (byteCells s)[i]? = if i < s.length then some (V.int .u8 (s.getD i 0).toNat) else none := by
  unfold byteCells
  rw [List.getElem?_map]
  by_cases h : i < s.length
  · simp [h]
  · simp [h]
theorem aload5 (h : List AObj) (p : V) : aload env h 5 p = (loadCellsV h 1 p).bind (·[0]?) := aload_one (by kernel_rfl)
def uintV (n : Nat) : V := if n < 18446744073709551616 then .tup [.int .u64 n, .nilif] else .tup [.int .u64 18446744073709551615, .iface 140 (.int .i64 1)]
theorem sealV_iface (h : List AObj) (d : Nat) (t : TypeId) (v : V) : sealV h (d + 1) (.iface t v) = (sealV h d v).map (.iface t) := rfl
theorem sealV_nilif (h : List AObj) (d : Nat) : sealV h (d + 1) .nilif = some .nilif := rfl
theorem w64a : IntKind.u64.wrap 64 = 64 := by decide
theorem w64 : IntKind.u64.wrap (1 * 2 ^ min (Int.toNat 64) IntKind.u64.bits) = 0 := by decide
theorem w64m : IntKind.u64.wrap (0 - 1) = 18446744073709551615 := by decide
theorem w10 : IntKind.u8.wrap 10 = 10 := by decide
theorem w10b : IntKind.u64.wrap 10 = 10 := by decide
theorem dec_take0 (s : List UInt8) : decV 0 (s.take 0) < 18446744073709551616 := by
  rw [List.take_zero]
  show 0 < 18446744073709551616
  omega
abbrev Q135 (s : List UInt8) : Post := ⟨wpR env [.tmp 6, .tmp 7] fun v' σ' => sealV σ'.heap sealDepth v' = some (uintV (decV 0 s)), fun _ _ _ _ => False, wpR env [.tmp 6, .tmp 7] fun v' σ' => sealV σ'.heap sealDepth v' = some (uintV (decV 0 s))⟩
theorem parseuint_loop (s : List UInt8) (hd : ∀ i, i < s.length → IsDg (s.getD i 0)) (hl : s.length ≤ 2 ^ 30) (c2 : Code) (h2 : ∀ T, decV 0 s < 18446744073709551616 → T 12 = .bool false → T 13 = .int .u64 (decV 0 s) → G env 135 none 172 (Q135 s) [] c2 T [] ⟨[], []⟩) (T : Tm)
    (a1 : T 1 = .int .i64 10) (a8 : T 8 = .bool false) (a9 : T 9 = .str s) (a10 : T 10 = .int .u64 1844674407370955162) (a11 : T 11 = .int .u64 18446744073709551615) (a12 : T 12 = .bool false) (a99 : T 99 = .row (byteCells s) s.length .unk) (a100 : T 100 = .int .i64 s.length) (a101 : T 101 = .int .i64 (0 : Nat)) (a13 : T 13 = .int .u64 (decV 0 (s.take 0))) :
    wpLoop env 135 none 172 (loopB 3 (bodyOf Tryd.f135)) T [] ⟨[], []⟩ (Kt.post env 135 none 172 (Q135 s) [.blk 3, .code c2]) := by
  simp only [bodyOf, Tryd.f135, Option.getD_some, loopB, blkC, Option.or, Nat.reduceEqDiff, if_false, if_true, reduceIte]
  refine loop_rule (fun m T D σ => D = [] ∧ σ = ⟨[], []⟩ ∧ T 1 = .int .i64 10 ∧ T 8 = .bool false ∧ T 9 = .str s ∧ T 10 = .int .u64 1844674407370955162 ∧ T 11 = .int .u64 18446744073709551615 ∧ T 12 = .bool false ∧ T 99 = .row (byteCells s) s.length .unk ∧ T 100 = .int .i64 s.length ∧
    ∃ i : Nat, T 101 = .int .i64 i ∧ i ≤ s.length ∧ m = s.length - i ∧ T 13 = .int .u64 (decV 0 (s.take i)) ∧ decV 0 (s.take i) < 18446744073709551616) ?_ _ _ _ _ ⟨rfl, rfl, a1, a8, a9, a10, a11, a12, a99, a100, 0, a101, Nat.zero_le _, rfl, a13, dec_take0 s⟩
  clear a1 a8 a9 a10 a11 a12 a99 a100 a101 a13 T
  rintro m T D σ ⟨rfl, rfl, t1, t8, t9, t10, t11, t12, t99, t100, i, t101, hi, rfl, t13, hn⟩
  refine G_start ?_
  by_cases hlt : i < s.length
  · have c1 : (i : Int) < (s.length : Int) := by omega
    have c2 : (0 : Int) ≤ (i : Int) ∧ (i : Int) < (s.length : Int) := by omega
    have e1 : IntKind.i64.wrap ((i : Int) + 1) = ((i + 1 : Nat) : Int) := by rw [wrap_i64 (by omega) (by omega)]; omega
    obtain ⟨d1, d2⟩ := hd i hlt
    have hst := decV_step hlt
    have hle := decV_take s (i + 1)
    have hov : ¬ decV 0 (s.take (i + 1)) < 18446744073709551616 → uintV (decV 0 s) = .tup [.int .u64 18446744073709551615, .iface 140 (.int .i64 1)] := fun h => by
      unfold uintV; rw [if_neg (by omega)]
    generalize hc : s.getD i 0 = c at *
    generalize hP : decV 0 (s.take i) = P at *
    generalize hP2 : decV 0 (s.take (i + 1)) = P2 at *
    have k1 : (48 : Int) ≤ (c.toNat : Int) := by omega
    have k2 : (c.toNat : Int) ≤ 57 := by omega
    have k3 : ((c.toNat : Int) = 95) = False := eq_false (by omega)
    have k4 : IntKind.u8.wrap ((c.toNat : Int) - 48) = ((c.toNat - 48 : Nat) : Int) := by rw [wrap_u8 (by omega) (by omega)]; omega
    have k5 : ¬ (10 : Int) ≤ ((c.toNat - 48 : Nat) : Int) := by omega
    by_cases h1 : (1844674407370955162 : Int) ≤ (P : Int)
    · have hv := hov (by omega)
      simp -implicitDefEqProofs only [Zaa, Zab, Zac, Zad, Zae, Zaf, Zag, Zah, Zai, Zaj, Zak, Zal, Zam, Zan, Zao, Zap, Zaq, Zar, Zas, Zat, Zau, Zav, Zaw, Zax, Zay, Zaz, Zba, Zbb, Zbc, Zbd, Zbe, Zbf, Zbg, Zbh, Zbi, Zbj, Zbk, Zbl, Zbm, Zbn, Zbo, Zbp, Zbq, Zbr, Zbs, Zbt, Zbu, Zbv, Zbw, Zbx, Zby, Zbz, Zca, Zcb, Zcc, Zcd, Zce, Zcf, Zcg, evalT, Zch, Nat.reduceLT, Nat.reduceEqDiff, if_true, if_false, reduceIte, true_and, Zci, Zcj, map_ite', Zck, bind_ite', Zcl, Zcm, Zcn, Zco, Zcp, Zcq, Zcr, Zcs, Zct, Zcu, Zcv, Zcw, Zcx, Zcy, Zcz, Zda, Zdb, Zdc, Zdd, Zde, Zdf, Zdg, ofVal, ofCell, argT, List.getD_cons_zero, List.getD_cons_succ, List.getElem?_toArray, List.getElem?_cons_zero, List.getElem?_cons_succ, List.nil_append, List.cons_append, List.append_nil, resT, Zdh, Zdi, Nat.mul_one, Zdj, Zdk, Zdl, Zdm, Zdn, Zdo, Zdp, Zdq, Zdr, Zds, Zdt, setT, Zdu, Zdv, Zdw, Zdx, Zdy, List.append_eq, Zdz, Zea, Zeb, Zec, Zed, Zee, Zef, Zeg, Zeh, Nat.add_zero, Zei, Zej, Zek, Zel, Zem, Zen, Int.toNat_natCast, Bool.false_eq_true, Int.reduceEq, Int.reduceLT, Int.reduceLE, Int.reduceNeg, not_false_eq_true, and_self, Zeo, Zep, Int.natCast_one, Int.cast_ofNat_Int, not_true_eq_false, decide_true, decide_false, true_implies, false_implies, Int.toNat_zero, List.length_cons, List.length_nil, Nat.zero_add, mb, Nat.reduceBEq, Bool.false_and, Bool.and_false, Zeq, tys, stb, Zer, Zes, Zet, Zeu, Zev, Zew, Bool.or_false, Bool.false_or, Bool.true_and, Bool.or_true, Bool.true_or, Zex, Zey, t1, t8, t9, t10, t11, t12, t13, t99, t100, t101, c1, c2, e1, bytes_get, hlt, hc, aload5, u140, u151, u115, k1, k2, k3, k4, k5, w10, Zcf, h1, opT_mkIf, mkIf_int u140]
      rw [hv]
      simp only [oneOr, sealDepth, sealV_tup, mapM_seal_cons, mapM_seal_nil, sealV_int, sealV_iface, sealV_nilif, Option.bind_some, Option.map_some]
    have k6 : IntKind.u64.wrap ((P : Int) * 10) = ((P * 10 : Nat) : Int) := by rw [wrap_u64 (by omega) (by omega)]; omega
    have k7 : IntKind.u64.wrap ((c.toNat - 48 : Nat) : Int) = ((c.toNat - 48 : Nat) : Int) := wrap_u64 (by omega) (by omega)
    by_cases h2 : P2 < 18446744073709551616
    · have k8 : IntKind.u64.wrap (((P * 10 : Nat) : Int) + ((c.toNat - 48 : Nat) : Int)) = (P2 : Int) := by rw [wrap_u64 (by omega) (by omega)]; omega
      have k9 : ¬ (P2 : Int) < ((P * 10 : Nat) : Int) := by omega
      have k10 : ¬ (18446744073709551615 : Int) < (P2 : Int) := by omega
      simp -implicitDefEqProofs only [Zaa, Zab, Zac, Zad, Zae, Zaf, Zag, Zah, Zai, Zaj, Zak, Zal, Zam, Zan, Zao, Zap, Zaq, Zar, Zas, Zat, Zau, Zav, Zaw, Zax, Zay, Zaz, Zba, Zbb, Zbc, Zbd, Zbe, Zbf, Zbg, Zbh, Zbi, Zbj, Zbk, Zbl, Zbm, Zbn, Zbo, Zbp, Zbq, Zbr, Zbs, Zbt, Zbu, Zbv, Zbw, Zbx, Zby, Zbz, Zca, Zcb, Zcc, Zcd, Zce, Zcf, Zcg, evalT, Zch, Nat.reduceLT, Nat.reduceEqDiff, if_true, if_false, reduceIte, true_and, Zci, Zcj, map_ite', Zck, bind_ite', Zcl, Zcm, Zcn, Zco, Zcp, Zcq, Zcr, Zcs, Zct, Zcu, Zcv, Zcw, Zcx, Zcy, Zcz, Zda, Zdb, Zdc, Zdd, Zde, Zdf, Zdg, ofVal, ofCell, argT, List.getD_cons_zero, List.getD_cons_succ, List.getElem?_toArray, List.getElem?_cons_zero, List.getElem?_cons_succ, List.nil_append, List.cons_append, List.append_nil, resT, Zdh, Zdi, Nat.mul_one, Zdj, Zdk, Zdl, Zdm, Zdn, Zdo, Zdp, Zdq, Zdr, Zds, Zdt, setT, Zdu, Zdv, Zdw, Zdx, Zdy, List.append_eq, Zdz, Zea, Zeb, Zec, Zed, Zee, Zef, Zeg, Zeh, Nat.add_zero, Zei, Zej, Zek, Zel, Zem, Zen, Int.toNat_natCast, Bool.false_eq_true, Int.reduceEq, Int.reduceLT, Int.reduceLE, Int.reduceNeg, not_false_eq_true, and_self, Zeo, Zep, Int.natCast_one, Int.cast_ofNat_Int, not_true_eq_false, decide_true, decide_false, true_implies, false_implies, Int.toNat_zero, List.length_cons, List.length_nil, Nat.zero_add, mb, Nat.reduceBEq, Bool.false_and, Bool.and_false, Zeq, tys, stb, Zer, Zes, Zet, Zeu, Zev, Zew, Bool.or_false, Bool.false_or, Bool.true_and, Bool.or_true, Bool.true_or, Zex, Zey, t1, t8, t9, t10, t11, t12, t13, t99, t100, t101, c1, c2, e1, bytes_get, hlt, hc, aload5, u140, u151, u115, k1, k2, k3, k4, k5, k6, k7, k8, k9, k10, w10, w10b, Zcf, h1, opT_mkIf, mkIf_int u140]
      exact ⟨s.length - (i + 1), by omega, i + 1, rfl, by omega, rfl, by rw [hP2], by rw [hP2]; exact h2⟩
    · have hv := hov h2
      have k8 : IntKind.u64.wrap (((P * 10 : Nat) : Int) + ((c.toNat - 48 : Nat) : Int)) = ((P2 - 18446744073709551616 : Nat) : Int) := by rw [wrap_u64_over (by omega) (by omega)]; omega
      have k9 : ((P2 - 18446744073709551616 : Nat) : Int) < ((P * 10 : Nat) : Int) := by omega
      simp -implicitDefEqProofs only [Zaa, Zab, Zac, Zad, Zae, Zaf, Zag, Zah, Zai, Zaj, Zak, Zal, Zam, Zan, Zao, Zap, Zaq, Zar, Zas, Zat, Zau, Zav, Zaw, Zax, Zay, Zaz, Zba, Zbb, Zbc, Zbd, Zbe, Zbf, Zbg, Zbh, Zbi, Zbj, Zbk, Zbl, Zbm, Zbn, Zbo, Zbp, Zbq, Zbr, Zbs, Zbt, Zbu, Zbv, Zbw, Zbx, Zby, Zbz, Zca, Zcb, Zcc, Zcd, Zce, Zcf, Zcg, evalT, Zch, Nat.reduceLT, Nat.reduceEqDiff, if_true, if_false, reduceIte, true_and, Zci, Zcj, map_ite', Zck, bind_ite', Zcl, Zcm, Zcn, Zco, Zcp, Zcq, Zcr, Zcs, Zct, Zcu, Zcv, Zcw, Zcx, Zcy, Zcz, Zda, Zdb, Zdc, Zdd, Zde, Zdf, Zdg, ofVal, ofCell, argT, List.getD_cons_zero, List.getD_cons_succ, List.getElem?_toArray, List.getElem?_cons_zero, List.getElem?_cons_succ, List.nil_append, List.cons_append, List.append_nil, resT, Zdh, Zdi, Nat.mul_one, Zdj, Zdk, Zdl, Zdm, Zdn, Zdo, Zdp, Zdq, Zdr, Zds, Zdt, setT, Zdu, Zdv, Zdw, Zdx, Zdy, List.append_eq, Zdz, Zea, Zeb, Zec, Zed, Zee, Zef, Zeg, Zeh, Nat.add_zero, Zei, Zej, Zek, Zel, Zem, Zen, Int.toNat_natCast, Bool.false_eq_true, Int.reduceEq, Int.reduceLT, Int.reduceLE, Int.reduceNeg, not_false_eq_true, and_self, Zeo, Zep, Int.natCast_one, Int.cast_ofNat_Int, not_true_eq_false, decide_true, decide_false, true_implies, false_implies, Int.toNat_zero, List.length_cons, List.length_nil, Nat.zero_add, mb, Nat.reduceBEq, Bool.false_and, Bool.and_false, Zeq, tys, stb, Zer, Zes, Zet, Zeu, Zev, Zew, Bool.or_false, Bool.false_or, Bool.true_and, Bool.or_true, Bool.true_or, Zex, Zey, t1, t8, t9, t10, t11, t12, t13, t99, t100, t101, c1, c2, e1, bytes_get, hlt, hc, aload5, u140, u151, u115, k1, k2, k3, k4, k5, k6, k7, k8, k9, w10, w10b, Zcf, h1, opT_mkIf, mkIf_int u140]
      rw [hv]
      simp only [oneOr, sealDepth, sealV_tup, mapM_seal_cons, mapM_seal_nil, sealV_int, sealV_iface, sealV_nilif, Option.bind_some, Option.map_some]
  · have hi2 : i = s.length := by omega
    subst hi2
    have c1 : ¬ (s.length : Int) < (s.length : Int) := by omega
    rw [List.take_length] at t13 hn
    simp -implicitDefEqProofs only [Zaa, Zab, Zac, Zad, Zae, Zaf, Zag, Zah, Zai, Zaj, Zak, Zal, Zam, Zan, Zao, Zap, Zaq, Zar, Zas, Zat, Zau, Zav, Zaw, Zax, Zay, Zaz, Zba, Zbb, Zbc, Zbd, Zbe, Zbf, Zbg, Zbh, Zbi, Zbj, Zbk, Zbl, Zbm, Zbn, Zbo, Zbp, Zbq, Zbr, Zbs, Zbt, Zbu, Zbv, Zbw, Zbx, Zby, Zbz, Zca, Zcb, Zcc, Zcd, Zce, Zcf, Zcg, evalT, Zch, Nat.reduceLT, Nat.reduceEqDiff, if_true, if_false, reduceIte, true_and, Zci, Zcj, map_ite', Zck, bind_ite', Zcl, Zcm, Zcn, Zco, Zcp, Zcq, Zcr, Zcs, Zct, Zcu, Zcv, Zcw, Zcx, Zcy, Zcz, Zda, Zdb, Zdc, Zdd, Zde, Zdf, Zdg, ofVal, ofCell, argT, List.getD_cons_zero, List.getD_cons_succ, List.getElem?_toArray, List.getElem?_cons_zero, List.getElem?_cons_succ, List.nil_append, List.cons_append, List.append_nil, resT, Zdh, Zdi, Nat.mul_one, Zdj, Zdk, Zdl, Zdm, Zdn, Zdo, Zdp, Zdq, Zdr, Zds, Zdt, setT, Zdu, Zdv, Zdw, Zdx, Zdy, List.append_eq, Zdz, Zea, Zeb, Zec, Zed, Zee, Zef, Zeg, Zeh, Nat.add_zero, Zei, Zej, Zek, Zel, Zem, Zen, Int.toNat_natCast, Bool.false_eq_true, Int.reduceEq, Int.reduceLT, Int.reduceLE, Int.reduceNeg, not_false_eq_true, and_self, Zeo, Zep, Int.natCast_one, Int.cast_ofNat_Int, not_true_eq_false, decide_true, decide_false, true_implies, false_implies, Int.toNat_zero, List.length_cons, List.length_nil, Nat.zero_add, mb, Nat.reduceBEq, Bool.false_and, Bool.and_false, Zeq, tys, stb, Zer, Zes, Zet, Zeu, Zev, Zew, Bool.or_false, Bool.false_or, Bool.true_and, Bool.or_true, Bool.true_or, Zex, Zey, t1, t8, t9, t10, t11, t12, t13, t99, t100, t101, c1]
    exact h2 _ hn t12 t13
theorem parseuint_call (s : List UInt8) (hd : ∀ i, i < s.length → IsDg (s.getD i 0)) (hne : s ≠ []) (hl : s.length ≤ 2 ^ 30) (σ : S) : callFn env (ev env) 135 [.str s, .int .i64 10, .int .i64 0] σ = some (uintV (decV 0 s), σ) := by
  refine callFn_pure rfl rfl rfl at135 rfl (by simp [Tryd.f135]) (by simp [Tryd.f135]) (G_start ?_) σ
  have hne2 : (s = []) = False := eq_false hne
  simp -implicitDefEqProofs only [Tryd.f135, Zaa, Zab, Zac, Zad, Zae, Zaf, Zag, Zah, Zai, Zaj, Zak, Zal, Zam, Zan, Zao, Zap, Zaq, Zar, Zas, Zat, Zau, Zav, Zaw, Zax, Zay, Zaz, Zba, Zbb, Zbc, Zbd, Zbe, Zbf, Zbg, Zbh, Zbi, Zbj, Zbk, Zbl, Zbm, Zbn, Zbo, Zbp, Zbq, Zbr, Zbs, Zbt, Zbu, Zbv, Zbw, Zbx, Zby, Zbz, Zca, Zcb, Zcc, Zcd, Zce, Zcf, Zcg, evalT, Zch, Nat.reduceLT, Nat.reduceEqDiff, if_true, if_false, reduceIte, true_and, Zci, Zcj, map_ite', Zck, bind_ite', Zcl, Zcm, Zcn, Zco, Zcp, Zcq, Zcr, Zcs, Zct, Zcu, Zcv, Zcw, Zcx, Zcy, Zcz, Zda, Zdb, Zdc, Zdd, Zde, Zdf, Zdg, ofVal, ofCell, argT, List.getD_cons_zero, List.getD_cons_succ, List.getElem?_toArray, List.getElem?_cons_zero, List.getElem?_cons_succ, List.nil_append, List.cons_append, List.append_nil, resT, Zdh, Zdi, Nat.mul_one, Zdj, Zdk, Zdl, Zdm, Zdn, Zdo, Zdp, Zdq, Zdr, Zds, Zdt, setT, Zdu, Zdv, Zdw, Zdx, Zdy, List.append_eq, Zdz, Zea, Zeb, Zec, Zed, Zee, Zef, Zeg, Zeh, Nat.add_zero, Zei, Zej, Zek, Zel, Zem, Zen, Int.toNat_natCast, Bool.false_eq_true, Int.reduceEq, Int.reduceLT, Int.reduceLE, Int.reduceNeg, not_false_eq_true, and_self, Zeo, Zep, Int.natCast_one, Int.cast_ofNat_Int, not_true_eq_false, decide_true, decide_false, true_implies, false_implies, Int.toNat_zero, List.length_cons, List.length_nil, Nat.zero_add, mb, Nat.reduceBEq, Bool.false_and, Bool.and_false, Zeq, tys, stb, Zer, Zes, Zet, Zeu, Zev, Zew, Bool.or_false, Bool.false_or, Bool.true_and, Bool.or_true, Bool.true_or, Zex, Zey, empty_mk, vBin_seql, hne2, u140, u151, u115, Zcf, convO_bytes u5, vBin_shl, w64a, w64, w64m, byteCells_len]
  refine parseuint_loop s hd hl _ (fun T hn t12 t13 => ?_) _ rfl rfl rfl rfl rfl rfl rfl rfl rfl rfl
  simp -implicitDefEqProofs only [Zaa, Zab, Zac, Zad, Zae, Zaf, Zag, Zah, Zai, Zaj, Zak, Zal, Zam, Zan, Zao, Zap, Zaq, Zar, Zas, Zat, Zau, Zav, Zaw, Zax, Zay, Zaz, Zba, Zbb, Zbc, Zbd, Zbe, Zbf, Zbg, Zbh, Zbi, Zbj, Zbk, Zbl, Zbm, Zbn, Zbo, Zbp, Zbq, Zbr, Zbs, Zbt, Zbu, Zbv, Zbw, Zbx, Zby, Zbz, Zca, Zcb, Zcc, Zcd, Zce, Zcf, Zcg, evalT, Zch, Nat.reduceLT, Nat.reduceEqDiff, if_true, if_false, reduceIte, true_and, Zci, Zcj, map_ite', Zck, bind_ite', Zcl, Zcm, Zcn, Zco, Zcp, Zcq, Zcr, Zcs, Zct, Zcu, Zcv, Zcw, Zcx, Zcy, Zcz, Zda, Zdb, Zdc, Zdd, Zde, Zdf, Zdg, ofVal, ofCell, argT, List.getD_cons_zero, List.getD_cons_succ, List.getElem?_toArray, List.getElem?_cons_zero, List.getElem?_cons_succ, List.nil_append, List.cons_append, List.append_nil, resT, Zdh, Zdi, Nat.mul_one, Zdj, Zdk, Zdl, Zdm, Zdn, Zdo, Zdp, Zdq, Zdr, Zds, Zdt, setT, Zdu, Zdv, Zdw, Zdx, Zdy, List.append_eq, Zdz, Zea, Zeb, Zec, Zed, Zee, Zef, Zeg, Zeh, Nat.add_zero, Zei, Zej, Zek, Zel, Zem, Zen, Int.toNat_natCast, Bool.false_eq_true, Int.reduceEq, Int.reduceLT, Int.reduceLE, Int.reduceNeg, not_false_eq_true, and_self, Zeo, Zep, Int.natCast_one, Int.cast_ofNat_Int, not_true_eq_false, decide_true, decide_false, true_implies, false_implies, Int.toNat_zero, List.length_cons, List.length_nil, Nat.zero_add, mb, Nat.reduceBEq, Bool.false_and, Bool.and_false, Zeq, tys, stb, Zer, Zes, Zet, Zeu, Zev, Zew, Bool.or_false, Bool.false_or, Bool.true_and, Bool.or_true, Bool.true_or, Zex, Zey, t12, t13]
  unfold uintV
  rw [if_pos hn]
  simp only [oneOr, sealDepth, sealV_tup, mapM_seal_cons, mapM_seal_nil, sealV_int, sealV_iface, sealV_nilif, Option.bind_some, Option.map_some]
/-- internal/strconv.ParseInt of digits -/
def intV (n : Nat) : V := if n < 9223372036854775808 then .tup [.int .i64 n, .nilif] else .tup [.int .i64 9223372036854775807, .iface 140 (.int .i64 1)]
theorem if140 : ifaceInt env 100 140 = true := by kernel_rfl
def isIf : Option TypeDesc → Bool
  | some (.interface _) => true
  | _ => false
theorem u100 : ∃ ms, env.P.underlying 100 = some (.interface ms) := by
  have h : isIf (env.P.underlying 100) = true := by kernel_rfl
  unfold isIf at h
  split at h
  · exact ⟨_, ‹_›⟩
  · simp at h
theorem w63 : IntKind.u64.wrap (1 * 2 ^ min (Int.toNat 63) IntKind.u64.bits) = 9223372036854775808 := by decide
theorem w63a : IntKind.u64.wrap 63 = 63 := by decide
theorem w63b : IntKind.i64.wrap (64 - 1) = 63 := by decide
theorem w63c : IntKind.u64.wrap (9223372036854775808 - 1) = 9223372036854775807 := by decide
theorem w63d : IntKind.i64.wrap 9223372036854775807 = 9223372036854775807 := by decide
theorem parseint_call (s : List UInt8) (hd : ∀ i, i < s.length → IsDg (s.getD i 0)) (hne : s ≠ []) (hl : s.length ≤ 2 ^ 30) (σ : S) : callFn env (ev env) 123 [.str s, .int .i64 10, .int .i64 0] σ = some (intV (decV 0 s), σ) := by
  refine callFn_pure rfl rfl rfl at123 rfl (by simp [Tryd.f123]) (by simp [Tryd.f123]) (G_start ?_) σ
  have hne2 : (s = []) = False := eq_false hne
  have hlen : 0 < s.length := by
    rcases Nat.eq_zero_or_pos s.length with h | h
    · exact absurd (List.eq_nil_of_length_eq_zero h) hne
    · exact h
  have c0 : (0 : Int) ≤ 0 ∧ (0 : Int) < (s.length : Int) := by omega
  obtain ⟨d1, d2⟩ := hd 0 hlen
  obtain ⟨ms, u100⟩ := u100
  have hP := parseuint_call s hd hne hl
  unfold uintV at hP
  unfold intV
  generalize hc : s.getD 0 0 = c at *
  generalize decV 0 s = n at *
  have k1 : ((c.toNat : Int) = 43) = False := eq_false (by omega)
  have k2 : ((c.toNat : Int) = 45) = False := eq_false (by omega)
  by_cases h1 : n < 18446744073709551616
  · rw [if_pos h1] at hP
    by_cases h2 : n < 9223372036854775808
    · rw [if_pos h2]
      have k3 : ¬ (9223372036854775808 : Int) ≤ (n : Int) := by omega
      have k4 : IntKind.i64.wrap (n : Int) = n := wrap_i64 (by omega) (by omega)
      simp -implicitDefEqProofs only [Tryd.f123, Zaa, Zab, Zac, Zad, Zae, Zaf, Zag, Zah, Zai, Zaj, Zak, Zal, Zam, Zan, Zao, Zap, Zaq, Zar, Zas, Zat, Zau, Zav, Zaw, Zax, Zay, Zaz, Zba, Zbb, Zbc, Zbd, Zbe, Zbf, Zbg, Zbh, Zbi, Zbj, Zbk, Zbl, Zbm, Zbn, Zbo, Zbp, Zbq, Zbr, Zbs, Zbt, Zbu, Zbv, Zbw, Zbx, Zby, Zbz, Zca, Zcb, Zcc, Zcd, Zce, Zcf, Zcg, evalT, Zch, Nat.reduceLT, Nat.reduceEqDiff, if_true, if_false, reduceIte, true_and, Zci, Zcj, map_ite', Zck, bind_ite', Zcl, Zcm, Zcn, Zco, Zcp, Zcq, Zcr, Zcs, Zct, Zcu, Zcv, Zcw, Zcx, Zcy, Zcz, Zda, Zdb, Zdc, Zdd, Zde, Zdf, Zdg, ofVal, ofCell, argT, List.getD_cons_zero, List.getD_cons_succ, List.getElem?_toArray, List.getElem?_cons_zero, List.getElem?_cons_succ, List.nil_append, List.cons_append, List.append_nil, resT, Zdh, Zdi, Nat.mul_one, Zdj, Zdk, Zdl, Zdm, Zdn, Zdo, Zdp, Zdq, Zdr, Zds, Zdt, setT, Zdu, Zdv, Zdw, Zdx, Zdy, List.append_eq, Zdz, Zea, Zeb, Zec, Zed, Zee, Zef, Zeg, Zeh, Nat.add_zero, Zei, Zej, Zek, Zel, Zem, Zen, Int.toNat_natCast, Bool.false_eq_true, Int.reduceEq, Int.reduceLT, Int.reduceLE, Int.reduceNeg, not_false_eq_true, and_self, Zeo, Zep, Int.natCast_one, Int.cast_ofNat_Int, not_true_eq_false, decide_true, decide_false, true_implies, false_implies, Int.toNat_zero, List.length_cons, List.length_nil, Nat.zero_add, mb, Nat.reduceBEq, Bool.false_and, Bool.and_false, Zeq, tys, stb, Zer, Zes, Zet, Zeu, Zev, Zew, Bool.or_false, Bool.false_or, Bool.true_and, Bool.or_true, Bool.true_or, Zex, Zey, empty_mk, vBin_seql, hne2, u140, u151, u115, u2, opT_index, indexO_str u9, c0, hc, k1, k2, k3, k4, hP, binO_nil_if u100, Zcf, vBin_shl, w63, w63a, w63b, w63c, w63d, opT_mkIf, mkIf_int u140, isConst]
      simp only [oneOr, sealDepth, sealV_tup, mapM_seal_cons, mapM_seal_nil, sealV_int, sealV_iface, sealV_nilif, Option.bind_some, Option.map_some]
    · rw [if_neg h2]
      have k3 : (9223372036854775808 : Int) ≤ (n : Int) := by omega
      simp -implicitDefEqProofs only [Tryd.f123, Zaa, Zab, Zac, Zad, Zae, Zaf, Zag, Zah, Zai, Zaj, Zak, Zal, Zam, Zan, Zao, Zap, Zaq, Zar, Zas, Zat, Zau, Zav, Zaw, Zax, Zay, Zaz, Zba, Zbb, Zbc, Zbd, Zbe, Zbf, Zbg, Zbh, Zbi, Zbj, Zbk, Zbl, Zbm, Zbn, Zbo, Zbp, Zbq, Zbr, Zbs, Zbt, Zbu, Zbv, Zbw, Zbx, Zby, Zbz, Zca, Zcb, Zcc, Zcd, Zce, Zcf, Zcg, evalT, Zch, Nat.reduceLT, Nat.reduceEqDiff, if_true, if_false, reduceIte, true_and, Zci, Zcj, map_ite', Zck, bind_ite', Zcl, Zcm, Zcn, Zco, Zcp, Zcq, Zcr, Zcs, Zct, Zcu, Zcv, Zcw, Zcx, Zcy, Zcz, Zda, Zdb, Zdc, Zdd, Zde, Zdf, Zdg, ofVal, ofCell, argT, List.getD_cons_zero, List.getD_cons_succ, List.getElem?_toArray, List.getElem?_cons_zero, List.getElem?_cons_succ, List.nil_append, List.cons_append, List.append_nil, resT, Zdh, Zdi, Nat.mul_one, Zdj, Zdk, Zdl, Zdm, Zdn, Zdo, Zdp, Zdq, Zdr, Zds, Zdt, setT, Zdu, Zdv, Zdw, Zdx, Zdy, List.append_eq, Zdz, Zea, Zeb, Zec, Zed, Zee, Zef, Zeg, Zeh, Nat.add_zero, Zei, Zej, Zek, Zel, Zem, Zen, Int.toNat_natCast, Bool.false_eq_true, Int.reduceEq, Int.reduceLT, Int.reduceLE, Int.reduceNeg, not_false_eq_true, and_self, Zeo, Zep, Int.natCast_one, Int.cast_ofNat_Int, not_true_eq_false, decide_true, decide_false, true_implies, false_implies, Int.toNat_zero, List.length_cons, List.length_nil, Nat.zero_add, mb, Nat.reduceBEq, Bool.false_and, Bool.and_false, Zeq, tys, stb, Zer, Zes, Zet, Zeu, Zev, Zew, Bool.or_false, Bool.false_or, Bool.true_and, Bool.or_true, Bool.true_or, Zex, Zey, empty_mk, vBin_seql, hne2, u140, u151, u115, u2, opT_index, indexO_str u9, c0, hc, k1, k2, k3, hP, binO_nil_if u100, Zcf, vBin_shl, w63, w63a, w63b, w63c, w63d, opT_mkIf, mkIf_int u140, isConst]
      simp only [oneOr, sealDepth, sealV_tup, mapM_seal_cons, mapM_seal_nil, sealV_int, sealV_iface, sealV_nilif, Option.bind_some, Option.map_some]
  · rw [if_neg h1] at hP
    rw [if_neg (by omega)]
    simp -implicitDefEqProofs only [Tryd.f123, Zaa, Zab, Zac, Zad, Zae, Zaf, Zag, Zah, Zai, Zaj, Zak, Zal, Zam, Zan, Zao, Zap, Zaq, Zar, Zas, Zat, Zau, Zav, Zaw, Zax, Zay, Zaz, Zba, Zbb, Zbc, Zbd, Zbe, Zbf, Zbg, Zbh, Zbi, Zbj, Zbk, Zbl, Zbm, Zbn, Zbo, Zbp, Zbq, Zbr, Zbs, Zbt, Zbu, Zbv, Zbw, Zbx, Zby, Zbz, Zca, Zcb, Zcc, Zcd, Zce, Zcf, Zcg, evalT, Zch, Nat.reduceLT, Nat.reduceEqDiff, if_true, if_false, reduceIte, true_and, Zci, Zcj, map_ite', Zck, bind_ite', Zcl, Zcm, Zcn, Zco, Zcp, Zcq, Zcr, Zcs, Zct, Zcu, Zcv, Zcw, Zcx, Zcy, Zcz, Zda, Zdb, Zdc, Zdd, Zde, Zdf, Zdg, ofVal, ofCell, argT, List.getD_cons_zero, List.getD_cons_succ, List.getElem?_toArray, List.getElem?_cons_zero, List.getElem?_cons_succ, List.nil_append, List.cons_append, List.append_nil, resT, Zdh, Zdi, Nat.mul_one, Zdj, Zdk, Zdl, Zdm, Zdn, Zdo, Zdp, Zdq, Zdr, Zds, Zdt, setT, Zdu, Zdv, Zdw, Zdx, Zdy, List.append_eq, Zdz, Zea, Zeb, Zec, Zed, Zee, Zef, Zeg, Zeh, Nat.add_zero, Zei, Zej, Zek, Zel, Zem, Zen, Int.toNat_natCast, Bool.false_eq_true, Int.reduceEq, Int.reduceLT, Int.reduceLE, Int.reduceNeg, not_false_eq_true, and_self, Zeo, Zep, Int.natCast_one, Int.cast_ofNat_Int, not_true_eq_false, decide_true, decide_false, true_implies, false_implies, Int.toNat_zero, List.length_cons, List.length_nil, Nat.zero_add, mb, Nat.reduceBEq, Bool.false_and, Bool.and_false, Zeq, tys, stb, Zer, Zes, Zet, Zeu, Zev, Zew, Bool.or_false, Bool.false_or, Bool.true_and, Bool.or_true, Bool.true_or, Zex, Zey, empty_mk, vBin_seql, hne2, u140, u151, u115, u2, opT_index, indexO_str u9, c0, hc, k1, k2, hP, binO_if_nil u100, binO_if_ne if140 ⟨ms, u100⟩, Zcf, vBin_shl, w63, w63a, w63b, w63c, w63d, opT_mkIf, mkIf_int u140, isConst]
    simp only [oneOr, sealDepth, sealV_tup, mapM_seal_cons, mapM_seal_nil, sealV_int, sealV_iface, sealV_nilif, Option.bind_some, Option.map_some]
end Go.Proofs.YtbikmhpobflfeaaDoor

namespace Go.Proofs.YtbikmhpobflfeaaDoor
open Go.Ab
set_option maxRecDepth 100000
set_option linter.unusedSimpArgs false
set_option linter.unusedVariables false
/-! ### strings.Clone -/
theorem at136 : env.P.funcs[136]? = some Tryd.f136 := by kernel_rfl
theorem at125 : env.P.funcs[125]? = some Tryd.f125 := by kernel_rfl
theorem at108 : env.P.funcs[108]? = some Tryd.f108 := by kernel_rfl
theorem at78 : env.P.funcs[78]? = some Tryd.f78 := by kernel_rfl
theorem mb136 (r : Nat) : env.mutb 136 r = true := rfl
theorem s5 : sz env 5 = some 1 := by kernel_rfl
theorem z5 : zeroV env 5 = some (.int .u8 0) := by kernel_rfl
theorem rep_flat (n : Nat) (v : V) : (List.replicate n [v]).flatten = List.replicate n v := by
  induction n with
  | zero => rfl
  | succ n ih => simp [List.replicate_succ, ih]
theorem make_b {σ : S} (n : Nat) (hn : n ≠ 0) (hl : n ≤ 2 ^ 30) : makeO env true σ 97 (.int .i64 n) (.int .i64 n) = some (.hsl σ.heap.length 0 n n .exact, σ.push (.cells (List.replicate n (.int .u8 0)) 5)) := by
  have hlim : (lim : Nat) = 2 ^ 40 := rfl
  have h1 : 0 ≤ (n : Int) ∧ (n : Int) ≤ n ∧ (n : Int) ≤ (lim : Nat) ∧ (n : Int) * ((1 : Nat) : Int) ≤ (lim : Nat) := by rw [hlim]; omega
  have h2 : ¬ n * 1 = 0 := by omega
  simp only [makeO, e97, s5, b5, z5, Option.bind_some, h1, and_self, if_true, Int.toNat_natCast, h2, if_false, Zeq, List.length_cons, List.length_nil, Nat.zero_add, true_or, rep_flat]
theorem copy_b (L : List AObj) (ts : List Nat) (b : Nat) (s : List UInt8) (hs : s ≠ []) (hb : L[b]? = some (.cells (List.replicate s.length (.int .u8 0)) 5)) (c : HCap) :
    copyO env ⟨L, ts⟩ 97 (.hsl b 0 s.length s.length c) (.str s) = some (.int .i64 s.length, ⟨L.set b (.cells (byteCells s) 5), ts⟩) := by
  have h1 : ¬ s.length = 0 := fun h => hs (List.eq_nil_of_length_eq_zero h)
  have hv : vCells L 1 s.length (.str s) = some (byteCells s) := by simp [vCells, byteCells]
  have h2 : 0 + (byteCells s).length ≤ (List.replicate s.length (V.int .u8 0)).length := by rw [byteCells_len, List.length_replicate]; omega
  have h3 : storeList (List.replicate s.length (V.int .u8 0)) 0 (byteCells s) = byteCells s := by simp [storeList, byteCells_len]
  simp only [copyO, e97, s5, Option.bind_some, vLen, Nat.min_self, hv, h1, if_false, storeCellsV, hb, h2, byteCells_cell, and_self, if_true, h3, S.set, Option.map_some]
theorem idx_b (b n : Nat) (c : HCap) (hn : 0 < n) : vIndexAddr 1 (.hsl b 0 n n c) (.int .i64 0) = some (.ptr b 0) := by
  simp [vIndexAddr, hn]
theorem sclone_call (s : List UInt8) (hl : s.length ≤ 2 ^ 30) (σ : S) : callFn env (ev env) 136 [.str s] σ = some (.str s, σ) := by
  refine callFn_pure rfl rfl rfl at136 rfl (by simp [Tryd.f136]) (by simp [Tryd.f136]) (G_start ?_) σ
  by_cases hs : s = []
  · subst hs
    simp -implicitDefEqProofs only [Tryd.f136, Zaa, Zab, Zac, Zad, Zae, Zaf, Zag, Zah, Zai, Zaj, Zak, Zal, Zam, Zan, Zao, Zap, Zaq, Zar, Zas, Zat, Zau, Zav, Zaw, Zax, Zay, Zaz, Zba, Zbb, Zbc, Zbd, Zbe, Zbf, Zbg, Zbh, Zbi, Zbj, Zbk, Zbl, Zbm, Zbn, Zbo, Zbp, Zbq, Zbr, Zbs, Zbt, Zbu, Zbv, Zbw, Zbx, Zby, Zbz, Zca, Zcb, Zcc, Zcd, Zce, Zcf, Zcg, evalT, Zch, Nat.reduceLT, Nat.reduceEqDiff, if_true, if_false, reduceIte, true_and, Zci, Zcj, map_ite', Zck, bind_ite', Zcl, Zcm, Zcn, Zco, Zcp, Zcq, Zcr, Zcs, Zct, Zcu, Zcv, Zcw, Zcx, Zcy, Zcz, Zda, Zdb, Zdc, Zdd, Zde, Zdf, Zdg, ofVal, ofCell, argT, List.getD_cons_zero, List.getD_cons_succ, List.getElem?_toArray, List.getElem?_cons_zero, List.getElem?_cons_succ, List.nil_append, List.cons_append, List.append_nil, resT, Zdh, Zdi, Nat.mul_one, Zdj, Zdk, Zdl, Zdm, Zdn, Zdo, Zdp, Zdq, Zdr, Zds, Zdt, setT, Zdu, Zdv, Zdw, Zdx, Zdy, List.append_eq, Zdz, Zea, Zeb, Zec, Zed, Zee, Zef, Zeg, Zeh, Nat.add_zero, Zei, Zej, Zek, Zel, Zem, Zen, Int.toNat_natCast, Bool.false_eq_true, Int.reduceEq, Int.reduceLT, Int.reduceLE, Int.reduceNeg, not_false_eq_true, and_self, Zeo, Zep, Int.natCast_one, Int.cast_ofNat_Int, not_true_eq_false, decide_true, decide_false, true_implies, false_implies, Int.toNat_zero, List.length_cons, List.length_nil, Nat.zero_add, mb, Nat.reduceBEq, Bool.false_and, Bool.and_false, Zeq, tys, stb, Zer, Zes, Zet, Zeu, Zev, Zew, Bool.or_false, Bool.false_or, Bool.true_and, Bool.or_true, Bool.true_or, Zex, Zey, len_str, List.length_nil]
    simp [oneOr, sealDepth, sealV_str]
  · have h1 : ¬ s.length = 0 := fun h => hs (List.eq_nil_of_length_eq_zero h)
    have h2 : ((s.length : Int) = 0) = False := eq_false (by omega)
    have h3 : 0 < s.length := by omega
    simp -implicitDefEqProofs only [Tryd.f136, Zaa, Zab, Zac, Zad, Zae, Zaf, Zag, Zah, Zai, Zaj, Zak, Zal, Zam, Zan, Zao, Zap, Zaq, Zar, Zas, Zat, Zau, Zav, Zaw, Zax, Zay, Zaz, Zba, Zbb, Zbc, Zbd, Zbe, Zbf, Zbg, Zbh, Zbi, Zbj, Zbk, Zbl, Zbm, Zbn, Zbo, Zbp, Zbq, Zbr, Zbs, Zbt, Zbu, Zbv, Zbw, Zbx, Zby, Zbz, Zca, Zcb, Zcc, Zcd, Zce, Zcf, Zcg, evalT, Zch, Nat.reduceLT, Nat.reduceEqDiff, if_true, if_false, reduceIte, true_and, Zci, Zcj, map_ite', Zck, bind_ite', Zcl, Zcm, Zcn, Zco, Zcp, Zcq, Zcr, Zcs, Zct, Zcu, Zcv, Zcw, Zcx, Zcy, Zcz, Zda, Zdb, Zdc, Zdd, Zde, Zdf, Zdg, ofVal, ofCell, argT, List.getD_cons_zero, List.getD_cons_succ, List.getElem?_toArray, List.getElem?_cons_zero, List.getElem?_cons_succ, List.nil_append, List.cons_append, List.append_nil, resT, Zdh, Zdi, Nat.mul_one, Zdj, Zdk, Zdl, Zdm, Zdn, Zdo, Zdp, Zdq, Zdr, Zds, Zdt, setT, Zdu, Zdv, Zdw, Zdx, Zdy, List.append_eq, Zdz, Zea, Zeb, Zec, Zed, Zee, Zef, Zeg, Zeh, Nat.add_zero, Zei, Zej, Zek, Zel, Zem, Zen, Int.toNat_natCast, Bool.false_eq_true, Int.reduceEq, Int.reduceLT, Int.reduceLE, Int.reduceNeg, not_false_eq_true, and_self, Zeo, Zep, Int.natCast_one, Int.cast_ofNat_Int, not_true_eq_false, decide_true, decide_false, true_implies, false_implies, Int.toNat_zero, List.length_cons, List.length_nil, Nat.zero_add, mb, Nat.reduceBEq, Bool.false_and, Bool.and_false, Zeq, tys, stb, Zer, Zes, Zet, Zeu, Zev, Zew, Bool.or_false, Bool.false_or, Bool.true_and, Bool.or_true, Bool.true_or, Zex, Zey, len_str, h2, opT_makeSlice, mb136, make_b s.length h1 hl, opT_copy, copy_b [.cells (List.replicate s.length (.int .u8 0)) 5] [] 0 s hs rfl, idx_b _ _ _ h3, len_hsl, opT_ustr, ustr_hsl ⟨[.cells (byteCells s) 5], []⟩ 0 s hs hl rfl, S.push, empty_mk, List.set_cons_zero]
    simp [oneOr, sealDepth, sealV_str]

end Go.Proofs.YtbikmhpobflfeaaDoor
namespace Go.Proofs.YtbikmhpobflfeaaDoor
open Go.Ab
set_option maxRecDepth 100000
set_option linter.unusedSimpArgs false
set_option linter.unusedVariables false
theorem gl2 : env.gl 2 = some (.rptr [.any]) := rfl
theorem u143 : ∃ t, env.P.underlying 143 = some (.pointer t) := by
  have h : (match env.P.underlying 143 with | some (.pointer t) => true | _ => false) = true := by kernel_rfl
  split at h
  · exact ⟨_, ‹_›⟩
  · simp at h
theorem s100 : sz env 100 = some 1 := by kernel_rfl
theorem aload100 (h : List AObj) : aload env h 100 (.rptr [.any]) = some .any := by rw [aload_one (by kernel_rfl)]; simp [loadCellsV]
theorem cells_any : V.any.cells = [.any] := rfl
theorem isCell_any : V.any.isCell = true := rfl
theorem build156 (a s : List UInt8) : buildO env 156 [(0, .str a), (1, .str s), (2, .any)] = some (.agg [.str a, .str s, .any]) := by kernel_rfl
theorem range_call (a s : List UInt8) (hl : s.length ≤ 2 ^ 30) (L : List AObj) (ts : List Nat) : callFn env (ev env) 125 [.str a, .str s] ⟨L, ts⟩ = some (.ptr L.length 0, ⟨L ++ [.cells [.str a, .str s, .any] 156], ts⟩) := by
  refine callFn_eq rfl rfl at125 rfl (by simp [Tryd.f125]) (by simp [Tryd.f125]) (G_start ?_)
  simp -implicitDefEqProofs only [Tryd.f125, Zaa, Zab, Zac, Zad, Zae, Zaf, Zag, Zah, Zai, Zaj, Zak, Zal, Zam, Zan, Zao, Zap, Zaq, Zar, Zas, Zat, Zau, Zav, Zaw, Zax, Zay, Zaz, Zba, Zbb, Zbc, Zbd, Zbe, Zbf, Zbg, Zbh, Zbi, Zbj, Zbk, Zbl, Zbm, Zbn, Zbo, Zbp, Zbq, Zbr, Zbs, Zbt, Zbu, Zbv, Zbw, Zbx, Zby, Zbz, Zca, Zcb, Zcc, Zcd, Zce, Zcf, Zcg, evalT, Zch, Nat.reduceLT, Nat.reduceEqDiff, if_true, if_false, reduceIte, true_and, Zci, Zcj, map_ite', Zck, bind_ite', Zcl, Zcm, Zcn, Zco, Zcp, Zcq, Zcr, Zcs, Zct, Zcu, Zcv, Zcw, Zcx, Zcy, Zcz, Zda, Zdb, Zdc, Zdd, Zde, Zdf, Zdg, ofVal, ofCell, argT, List.getD_cons_zero, List.getD_cons_succ, List.getElem?_toArray, List.getElem?_cons_zero, List.getElem?_cons_succ, List.nil_append, List.cons_append, List.append_nil, resT, Zdh, Zdi, Nat.mul_one, Zdj, Zdk, Zdl, Zdm, Zdn, Zdo, Zdp, Zdq, Zdr, Zds, Zdt, setT, Zdu, Zdv, Zdw, Zdx, Zdy, List.append_eq, Zdz, Zea, Zeb, Zec, Zed, Zee, Zef, Zeg, Zeh, Nat.add_zero, Zei, Zej, Zek, Zel, Zem, Zen, Int.toNat_natCast, Bool.false_eq_true, Int.reduceEq, Int.reduceLT, Int.reduceLE, Int.reduceNeg, not_false_eq_true, and_self, Zeo, Zep, Int.natCast_one, Int.cast_ofNat_Int, not_true_eq_false, decide_true, decide_false, true_implies, false_implies, Int.toNat_zero, List.length_cons, List.length_nil, Nat.zero_add, mb, Nat.reduceBEq, Bool.false_and, Bool.and_false, Zeq, tys, stb, Zer, Zes, Zet, Zeu, Zev, Zew, Bool.or_false, Bool.false_or, Bool.true_and, Bool.or_true, Bool.true_or, Zex, Zey, sclone_call s hl, gl2, oneOr, aload100, cells_any, isCell_any, build156]
  exact ⟨by kernel_rfl, trivial⟩

end Go.Proofs.YtbikmhpobflfeaaDoor
namespace Go.Proofs.YtbikmhpobflfeaaDoor
open Go.Ab
set_option maxRecDepth 100000
set_option linter.unusedSimpArgs false
set_option linter.unusedVariables false
theorem seal_ptr (h : List AObj) (d b o : Nat) : sealV h (d + 1) (.ptr b o) = some .any := rfl
theorem toerr_call (a s : List UInt8) (hl : s.length ≤ 2 ^ 30) (σ : S) : callFn env (ev env) 108 [.str a, .str s, .int .i64 0, .int .i64 0, .iface 140 (.int .i64 1)] σ = some (.iface 143 .any, σ) := by
  refine callFn_pure rfl rfl rfl at108 rfl (by simp [Tryd.f108]) (by simp [Tryd.f108]) (G_start ?_) σ
  have n12 : ((1 : Int) = 2) = False := eq_false (by omega)
  obtain ⟨t, u143⟩ := u143
  simp -implicitDefEqProofs only [Tryd.f108, Zaa, Zab, Zac, Zad, Zae, Zaf, Zag, Zah, Zai, Zaj, Zak, Zal, Zam, Zan, Zao, Zap, Zaq, Zar, Zas, Zat, Zau, Zav, Zaw, Zax, Zay, Zaz, Zba, Zbb, Zbc, Zbd, Zbe, Zbf, Zbg, Zbh, Zbi, Zbj, Zbk, Zbl, Zbm, Zbn, Zbo, Zbp, Zbq, Zbr, Zbs, Zbt, Zbu, Zbv, Zbw, Zbx, Zby, Zbz, Zca, Zcb, Zcc, Zcd, Zce, Zcf, Zcg, evalT, Zch, Nat.reduceLT, Nat.reduceEqDiff, if_true, if_false, reduceIte, true_and, Zci, Zcj, map_ite', Zck, bind_ite', Zcl, Zcm, Zcn, Zco, Zcp, Zcq, Zcr, Zcs, Zct, Zcu, Zcv, Zcw, Zcx, Zcy, Zcz, Zda, Zdb, Zdc, Zdd, Zde, Zdf, Zdg, ofVal, ofCell, argT, List.getD_cons_zero, List.getD_cons_succ, List.getElem?_toArray, List.getElem?_cons_zero, List.getElem?_cons_succ, List.nil_append, List.cons_append, List.append_nil, resT, Zdh, Zdi, Nat.mul_one, Zdj, Zdk, Zdl, Zdm, Zdn, Zdo, Zdp, Zdq, Zdr, Zds, Zdt, setT, Zdu, Zdv, Zdw, Zdx, Zdy, List.append_eq, Zdz, Zea, Zeb, Zec, Zed, Zee, Zef, Zeg, Zeh, Nat.add_zero, Zei, Zej, Zek, Zel, Zem, Zen, Int.toNat_natCast, Bool.false_eq_true, Int.reduceEq, Int.reduceLT, Int.reduceLE, Int.reduceNeg, not_false_eq_true, and_self, Zeo, Zep, Int.natCast_one, Int.cast_ofNat_Int, not_true_eq_false, decide_true, decide_false, true_implies, false_implies, Int.toNat_zero, List.length_cons, List.length_nil, Nat.zero_add, mb, Nat.reduceBEq, Bool.false_and, Bool.and_false, Zeq, tys, stb, Zer, Zes, Zet, Zeu, Zev, Zew, Bool.or_false, Bool.false_or, Bool.true_and, Bool.or_true, Bool.true_or, Zex, Zey, u140, opT_mkIf, mkIf_int u140, mkIf_ptr u143, binO_if_eq if140 u100, n12, range_call a s hl, empty_mk]
  simp only [oneOr, sealDepth, sealV_iface, seal_ptr, Option.map_some]
/-- internal/strconv.Atoi of digits -/
theorem dec_bound (s : List UInt8) (hd : ∀ i, i < s.length → IsDg (s.getD i 0)) : ∀ i, i ≤ s.length → decV 0 (s.take i) < 10 ^ i
  | 0, _ => by rw [List.take_zero]; exact Nat.zero_lt_one
  | i + 1, hi => by
    have h := dec_bound s hd i (by omega)
    have hst := decV_step (s := s) (i := i) (by omega)
    have h2 := hd i (by omega)
    have h3 : 10 ^ (i + 1) = 10 * 10 ^ i := by rw [Nat.pow_succ]; omega
    unfold IsDg at h2
    omega

end Go.Proofs.YtbikmhpobflfeaaDoor
namespace Go.Proofs.YtbikmhpobflfeaaDoor
open Go.Ab
set_option maxRecDepth 100000
set_option linter.unusedSimpArgs false
set_option linter.unusedVariables false
theorem dec_small (s : List UInt8) (hd : ∀ i, i < s.length → IsDg (s.getD i 0)) (hl : s.length ≤ 18) (i : Nat) (hi : i ≤ s.length) : decV 0 (s.take i) < 1000000000000000000 := by
  have h1 := dec_bound s hd i hi
  have h2 : 10 ^ i ≤ 10 ^ 18 := Nat.pow_le_pow_right (by omega) (by omega)
  have h3 : (10 : Nat) ^ 18 = 1000000000000000000 := by decide
  omega
theorem atoi_loop (s : List UInt8) (hd : ∀ i, i < s.length → IsDg (s.getD i 0)) (hl : s.length ≤ 18) (Q : Post) (ks : List Kt) (c2 : Code) (h2 : ∀ T, T 5 = .str s → T 6 = .int .i64 (decV 0 s) → G env 107 none 77 Q ks c2 T [] ⟨[], []⟩) (T : Tm)
    (a5 : T 5 = .str s) (a6 : T 6 = .int .i64 (0 : Nat)) (a47 : T 47 = .row (byteCells s) s.length .unk) (a48 : T 48 = .int .i64 s.length) (a49 : T 49 = .int .i64 (0 : Nat)) :
    wpLoop env 107 none 77 (loopB 0 (bodyOf Tryd.f107)) T [] ⟨[], []⟩ (Kt.post env 107 none 77 Q (.blk 0 :: .code c2 :: ks)) := by
  simp only [bodyOf, Tryd.f107, Option.getD_some, loopB, blkC, Option.or, Nat.reduceEqDiff, if_false, if_true, reduceIte]
  refine loop_rule (fun m T D σ => D = [] ∧ σ = ⟨[], []⟩ ∧ T 5 = .str s ∧ T 47 = .row (byteCells s) s.length .unk ∧ T 48 = .int .i64 s.length ∧ ∃ i : Nat, T 49 = .int .i64 i ∧ i ≤ s.length ∧ m = s.length - i ∧ T 6 = .int .i64 (decV 0 (s.take i))) ?_ _ _ _ _ ⟨rfl, rfl, a5, a47, a48, 0, a49, Nat.zero_le _, rfl, by rw [a6, List.take_zero]; rfl⟩
  clear a5 a6 a47 a48 a49 T
  rintro m T D σ ⟨rfl, rfl, t5, t47, t48, i, t49, hi, rfl, t6⟩
  refine G_start ?_
  by_cases hlt : i < s.length
  · have c1 : (i : Int) < (s.length : Int) := by omega
    have c2 : (0 : Int) ≤ (i : Int) ∧ (i : Int) < (s.length : Int) := by omega
    have e1 : IntKind.i64.wrap ((i : Int) + 1) = ((i + 1 : Nat) : Int) := by rw [wrap_i64 (by omega) (by omega)]; omega
    obtain ⟨d1, d2⟩ := hd i hlt
    have hst := decV_step hlt
    have b1 := dec_small s hd hl i hi
    have b2 := dec_small s hd hl (i + 1) hlt
    generalize hc : s.getD i 0 = c at *
    generalize hP : decV 0 (s.take i) = P at *
    generalize hP2 : decV 0 (s.take (i + 1)) = P2 at *
    have k4 : IntKind.u8.wrap ((c.toNat : Int) - 48) = ((c.toNat - 48 : Nat) : Int) := by rw [wrap_u8 (by omega) (by omega)]; omega
    have k5 : ¬ (9 : Int) < ((c.toNat - 48 : Nat) : Int) := by omega
    have k6 : IntKind.i64.wrap ((P : Int) * 10) = ((P * 10 : Nat) : Int) := by rw [wrap_i64 (by omega) (by omega)]; omega
    have k7 : IntKind.i64.wrap ((c.toNat - 48 : Nat) : Int) = ((c.toNat - 48 : Nat) : Int) := wrap_i64 (by omega) (by omega)
    have k8 : IntKind.i64.wrap (((P * 10 : Nat) : Int) + ((c.toNat - 48 : Nat) : Int)) = (P2 : Int) := by rw [wrap_i64 (by omega) (by omega)]; omega
    simp -implicitDefEqProofs only [Zaa, Zab, Zac, Zad, Zae, Zaf, Zag, Zah, Zai, Zaj, Zak, Zal, Zam, Zan, Zao, Zap, Zaq, Zar, Zas, Zat, Zau, Zav, Zaw, Zax, Zay, Zaz, Zba, Zbb, Zbc, Zbd, Zbe, Zbf, Zbg, Zbh, Zbi, Zbj, Zbk, Zbl, Zbm, Zbn, Zbo, Zbp, Zbq, Zbr, Zbs, Zbt, Zbu, Zbv, Zbw, Zbx, Zby, Zbz, Zca, Zcb, Zcc, Zcd, Zce, Zcf, Zcg, evalT, Zch, Nat.reduceLT, Nat.reduceEqDiff, if_true, if_false, reduceIte, true_and, Zci, Zcj, map_ite', Zck, bind_ite', Zcl, Zcm, Zcn, Zco, Zcp, Zcq, Zcr, Zcs, Zct, Zcu, Zcv, Zcw, Zcx, Zcy, Zcz, Zda, Zdb, Zdc, Zdd, Zde, Zdf, Zdg, ofVal, ofCell, argT, List.getD_cons_zero, List.getD_cons_succ, List.getElem?_toArray, List.getElem?_cons_zero, List.getElem?_cons_succ, List.nil_append, List.cons_append, List.append_nil, resT, Zdh, Zdi, Nat.mul_one, Zdj, Zdk, Zdl, Zdm, Zdn, Zdo, Zdp, Zdq, Zdr, Zds, Zdt, setT, Zdu, Zdv, Zdw, Zdx, Zdy, List.append_eq, Zdz, Zea, Zeb, Zec, Zed, Zee, Zef, Zeg, Zeh, Nat.add_zero, Zei, Zej, Zek, Zel, Zem, Zen, Int.toNat_natCast, Bool.false_eq_true, Int.reduceEq, Int.reduceLT, Int.reduceLE, Int.reduceNeg, not_false_eq_true, and_self, Zeo, Zep, Int.natCast_one, Int.cast_ofNat_Int, not_true_eq_false, decide_true, decide_false, true_implies, false_implies, Int.toNat_zero, List.length_cons, List.length_nil, Nat.zero_add, mb, Nat.reduceBEq, Bool.false_and, Bool.and_false, Zeq, tys, stb, Zer, Zes, Zet, Zeu, Zev, Zew, Bool.or_false, Bool.false_or, Bool.true_and, Bool.or_true, Bool.true_or, Zex, Zey, t5, t6, t47, t48, t49, c1, c2, e1, bytes_get, hlt, hc, aload5, k4, k5, k6, k7, k8, Zcf]
    exact ⟨s.length - (i + 1), by omega, i + 1, rfl, by omega, rfl, by rw [hP2]⟩
  · have hi2 : i = s.length := by omega
    subst hi2
    have c1 : ¬ (s.length : Int) < (s.length : Int) := by omega
    rw [List.take_length] at t6
    simp -implicitDefEqProofs only [Zaa, Zab, Zac, Zad, Zae, Zaf, Zag, Zah, Zai, Zaj, Zak, Zal, Zam, Zan, Zao, Zap, Zaq, Zar, Zas, Zat, Zau, Zav, Zaw, Zax, Zay, Zaz, Zba, Zbb, Zbc, Zbd, Zbe, Zbf, Zbg, Zbh, Zbi, Zbj, Zbk, Zbl, Zbm, Zbn, Zbo, Zbp, Zbq, Zbr, Zbs, Zbt, Zbu, Zbv, Zbw, Zbx, Zby, Zbz, Zca, Zcb, Zcc, Zcd, Zce, Zcf, Zcg, evalT, Zch, Nat.reduceLT, Nat.reduceEqDiff, if_true, if_false, reduceIte, true_and, Zci, Zcj, map_ite', Zck, bind_ite', Zcl, Zcm, Zcn, Zco, Zcp, Zcq, Zcr, Zcs, Zct, Zcu, Zcv, Zcw, Zcx, Zcy, Zcz, Zda, Zdb, Zdc, Zdd, Zde, Zdf, Zdg, ofVal, ofCell, argT, List.getD_cons_zero, List.getD_cons_succ, List.getElem?_toArray, List.getElem?_cons_zero, List.getElem?_cons_succ, List.nil_append, List.cons_append, List.append_nil, resT, Zdh, Zdi, Nat.mul_one, Zdj, Zdk, Zdl, Zdm, Zdn, Zdo, Zdp, Zdq, Zdr, Zds, Zdt, setT, Zdu, Zdv, Zdw, Zdx, Zdy, List.append_eq, Zdz, Zea, Zeb, Zec, Zed, Zee, Zef, Zeg, Zeh, Nat.add_zero, Zei, Zej, Zek, Zel, Zem, Zen, Int.toNat_natCast, Bool.false_eq_true, Int.reduceEq, Int.reduceLT, Int.reduceLE, Int.reduceNeg, not_false_eq_true, and_self, Zeo, Zep, Int.natCast_one, Int.cast_ofNat_Int, not_true_eq_false, decide_true, decide_false, true_implies, false_implies, Int.toNat_zero, List.length_cons, List.length_nil, Nat.zero_add, mb, Nat.reduceBEq, Bool.false_and, Bool.and_false, Zeq, tys, stb, Zer, Zes, Zet, Zeu, Zev, Zew, Bool.or_false, Bool.false_or, Bool.true_and, Bool.or_true, Bool.true_or, Zex, Zey, t5, t6, t47, t48, t49, c1]
    exact h2 _ t5 t6

end Go.Proofs.YtbikmhpobflfeaaDoor
namespace Go.Proofs.YtbikmhpobflfeaaDoor
open Go.Ab
set_option maxRecDepth 100000
set_option linter.unusedSimpArgs false
set_option linter.unusedVariables false
theorem atoi_call (s : List UInt8) (hd : ∀ i, i < s.length → IsDg (s.getD i 0)) (hne : s ≠ []) (hl : s.length ≤ 2 ^ 30) (σ : S) : callFn env (ev env) 107 [.str s] σ = some (intV (decV 0 s), σ) := by
  refine callFn_pure rfl rfl rfl at107 rfl (by simp [Tryd.f107]) (by simp [Tryd.f107]) (G_start ?_) σ
  have hlen : 0 < s.length := by
    rcases Nat.eq_zero_or_pos s.length with h | h
    · exact absurd (List.eq_nil_of_length_eq_zero h) hne
    · exact h
  have g0 : (0 : Int) < (s.length : Int) := by omega
  have c0 : (0 : Int) ≤ 0 ∧ (0 : Int) < (s.length : Int) := by omega
  have g1 : ((s.length : Int) < 1) = False := eq_false (by omega)
  obtain ⟨d1, d2⟩ := hd 0 hlen
  have k1 : (((s.getD 0 0).toNat : Int) = 43) = False := eq_false (by omega)
  have k2 : (((s.getD 0 0).toNat : Int) = 45) = False := eq_false (by omega)
  by_cases h18 : s.length ≤ 18
  · have g2 : (s.length : Int) < 19 := by omega
    simp -implicitDefEqProofs only [Tryd.f107, Zaa, Zab, Zac, Zad, Zae, Zaf, Zag, Zah, Zai, Zaj, Zak, Zal, Zam, Zan, Zao, Zap, Zaq, Zar, Zas, Zat, Zau, Zav, Zaw, Zax, Zay, Zaz, Zba, Zbb, Zbc, Zbd, Zbe, Zbf, Zbg, Zbh, Zbi, Zbj, Zbk, Zbl, Zbm, Zbn, Zbo, Zbp, Zbq, Zbr, Zbs, Zbt, Zbu, Zbv, Zbw, Zbx, Zby, Zbz, Zca, Zcb, Zcc, Zcd, Zce, Zcf, Zcg, evalT, Zch, Nat.reduceLT, Nat.reduceEqDiff, if_true, if_false, reduceIte, true_and, Zci, Zcj, map_ite', Zck, bind_ite', Zcl, Zcm, Zcn, Zco, Zcp, Zcq, Zcr, Zcs, Zct, Zcu, Zcv, Zcw, Zcx, Zcy, Zcz, Zda, Zdb, Zdc, Zdd, Zde, Zdf, Zdg, ofVal, ofCell, argT, List.getD_cons_zero, List.getD_cons_succ, List.getElem?_toArray, List.getElem?_cons_zero, List.getElem?_cons_succ, List.nil_append, List.cons_append, List.append_nil, resT, Zdh, Zdi, Nat.mul_one, Zdj, Zdk, Zdl, Zdm, Zdn, Zdo, Zdp, Zdq, Zdr, Zds, Zdt, setT, Zdu, Zdv, Zdw, Zdx, Zdy, List.append_eq, Zdz, Zea, Zeb, Zec, Zed, Zee, Zef, Zeg, Zeh, Nat.add_zero, Zei, Zej, Zek, Zel, Zem, Zen, Int.toNat_natCast, Bool.false_eq_true, Int.reduceEq, Int.reduceLT, Int.reduceLE, Int.reduceNeg, not_false_eq_true, and_self, Zeo, Zep, Int.natCast_one, Int.cast_ofNat_Int, not_true_eq_false, decide_true, decide_false, true_implies, false_implies, Int.toNat_zero, List.length_cons, List.length_nil, Nat.zero_add, mb, Nat.reduceBEq, Bool.false_and, Bool.and_false, Zeq, tys, stb, Zer, Zes, Zet, Zeu, Zev, Zew, Bool.or_false, Bool.false_or, Bool.true_and, Bool.or_true, Bool.true_or, Zex, Zey, empty_mk, len_str, g0, g1, g2, opT_index, indexO_str u9, c0, k1, k2, convO_bytes u5, byteCells_len]
    refine atoi_loop s hd h18 _ _ _ (fun T t5 t6 => ?_) _ rfl rfl rfl rfl rfl
    simp -implicitDefEqProofs only [Zaa, Zab, Zac, Zad, Zae, Zaf, Zag, Zah, Zai, Zaj, Zak, Zal, Zam, Zan, Zao, Zap, Zaq, Zar, Zas, Zat, Zau, Zav, Zaw, Zax, Zay, Zaz, Zba, Zbb, Zbc, Zbd, Zbe, Zbf, Zbg, Zbh, Zbi, Zbj, Zbk, Zbl, Zbm, Zbn, Zbo, Zbp, Zbq, Zbr, Zbs, Zbt, Zbu, Zbv, Zbw, Zbx, Zby, Zbz, Zca, Zcb, Zcc, Zcd, Zce, Zcf, Zcg, evalT, Zch, Nat.reduceLT, Nat.reduceEqDiff, if_true, if_false, reduceIte, true_and, Zci, Zcj, map_ite', Zck, bind_ite', Zcl, Zcm, Zcn, Zco, Zcp, Zcq, Zcr, Zcs, Zct, Zcu, Zcv, Zcw, Zcx, Zcy, Zcz, Zda, Zdb, Zdc, Zdd, Zde, Zdf, Zdg, ofVal, ofCell, argT, List.getD_cons_zero, List.getD_cons_succ, List.getElem?_toArray, List.getElem?_cons_zero, List.getElem?_cons_succ, List.nil_append, List.cons_append, List.append_nil, resT, Zdh, Zdi, Nat.mul_one, Zdj, Zdk, Zdl, Zdm, Zdn, Zdo, Zdp, Zdq, Zdr, Zds, Zdt, setT, Zdu, Zdv, Zdw, Zdx, Zdy, List.append_eq, Zdz, Zea, Zeb, Zec, Zed, Zee, Zef, Zeg, Zeh, Nat.add_zero, Zei, Zej, Zek, Zel, Zem, Zen, Int.toNat_natCast, Bool.false_eq_true, Int.reduceEq, Int.reduceLT, Int.reduceLE, Int.reduceNeg, not_false_eq_true, and_self, Zeo, Zep, Int.natCast_one, Int.cast_ofNat_Int, not_true_eq_false, decide_true, decide_false, true_implies, false_implies, Int.toNat_zero, List.length_cons, List.length_nil, Nat.zero_add, mb, Nat.reduceBEq, Bool.false_and, Bool.and_false, Zeq, tys, stb, Zer, Zes, Zet, Zeu, Zev, Zew, Bool.or_false, Bool.false_or, Bool.true_and, Bool.or_true, Bool.true_or, Zex, Zey, t5, t6, opT_index, indexO_str u9, c0, k1, k2]
    have hb := dec_small s hd h18 s.length (Nat.le_refl _)
    rw [List.take_length] at hb
    unfold intV
    rw [if_pos (by omega)]
    simp only [oneOr, sealDepth, sealV_tup, mapM_seal_cons, mapM_seal_nil, sealV_int, sealV_iface, sealV_nilif, Option.bind_some, Option.map_some]
  · have g2 : ((s.length : Int) < 19) = False := eq_false (by omega)
    have hP := parseint_call s hd hne hl
    unfold intV at hP ⊢
    by_cases h1 : decV 0 s < 9223372036854775808
    · rw [if_pos h1] at hP ⊢
      simp -implicitDefEqProofs only [Tryd.f107, Zaa, Zab, Zac, Zad, Zae, Zaf, Zag, Zah, Zai, Zaj, Zak, Zal, Zam, Zan, Zao, Zap, Zaq, Zar, Zas, Zat, Zau, Zav, Zaw, Zax, Zay, Zaz, Zba, Zbb, Zbc, Zbd, Zbe, Zbf, Zbg, Zbh, Zbi, Zbj, Zbk, Zbl, Zbm, Zbn, Zbo, Zbp, Zbq, Zbr, Zbs, Zbt, Zbu, Zbv, Zbw, Zbx, Zby, Zbz, Zca, Zcb, Zcc, Zcd, Zce, Zcf, Zcg, evalT, Zch, Nat.reduceLT, Nat.reduceEqDiff, if_true, if_false, reduceIte, true_and, Zci, Zcj, map_ite', Zck, bind_ite', Zcl, Zcm, Zcn, Zco, Zcp, Zcq, Zcr, Zcs, Zct, Zcu, Zcv, Zcw, Zcx, Zcy, Zcz, Zda, Zdb, Zdc, Zdd, Zde, Zdf, Zdg, ofVal, ofCell, argT, List.getD_cons_zero, List.getD_cons_succ, List.getElem?_toArray, List.getElem?_cons_zero, List.getElem?_cons_succ, List.nil_append, List.cons_append, List.append_nil, resT, Zdh, Zdi, Nat.mul_one, Zdj, Zdk, Zdl, Zdm, Zdn, Zdo, Zdp, Zdq, Zdr, Zds, Zdt, setT, Zdu, Zdv, Zdw, Zdx, Zdy, List.append_eq, Zdz, Zea, Zeb, Zec, Zed, Zee, Zef, Zeg, Zeh, Nat.add_zero, Zei, Zej, Zek, Zel, Zem, Zen, Int.toNat_natCast, Bool.false_eq_true, Int.reduceEq, Int.reduceLT, Int.reduceLE, Int.reduceNeg, not_false_eq_true, and_self, Zeo, Zep, Int.natCast_one, Int.cast_ofNat_Int, not_true_eq_false, decide_true, decide_false, true_implies, false_implies, Int.toNat_zero, List.length_cons, List.length_nil, Nat.zero_add, mb, Nat.reduceBEq, Bool.false_and, Bool.and_false, Zeq, tys, stb, Zer, Zes, Zet, Zeu, Zev, Zew, Bool.or_false, Bool.false_or, Bool.true_and, Bool.or_true, Bool.true_or, Zex, Zey, empty_mk, len_str, g0, g2, hP]
      simp only [oneOr, sealDepth, sealV_tup, mapM_seal_cons, mapM_seal_nil, sealV_int, sealV_iface, sealV_nilif, Option.bind_some, Option.map_some]
    · rw [if_neg h1] at hP ⊢
      simp -implicitDefEqProofs only [Tryd.f107, Zaa, Zab, Zac, Zad, Zae, Zaf, Zag, Zah, Zai, Zaj, Zak, Zal, Zam, Zan, Zao, Zap, Zaq, Zar, Zas, Zat, Zau, Zav, Zaw, Zax, Zay, Zaz, Zba, Zbb, Zbc, Zbd, Zbe, Zbf, Zbg, Zbh, Zbi, Zbj, Zbk, Zbl, Zbm, Zbn, Zbo, Zbp, Zbq, Zbr, Zbs, Zbt, Zbu, Zbv, Zbw, Zbx, Zby, Zbz, Zca, Zcb, Zcc, Zcd, Zce, Zcf, Zcg, evalT, Zch, Nat.reduceLT, Nat.reduceEqDiff, if_true, if_false, reduceIte, true_and, Zci, Zcj, map_ite', Zck, bind_ite', Zcl, Zcm, Zcn, Zco, Zcp, Zcq, Zcr, Zcs, Zct, Zcu, Zcv, Zcw, Zcx, Zcy, Zcz, Zda, Zdb, Zdc, Zdd, Zde, Zdf, Zdg, ofVal, ofCell, argT, List.getD_cons_zero, List.getD_cons_succ, List.getElem?_toArray, List.getElem?_cons_zero, List.getElem?_cons_succ, List.nil_append, List.cons_append, List.append_nil, resT, Zdh, Zdi, Nat.mul_one, Zdj, Zdk, Zdl, Zdm, Zdn, Zdo, Zdp, Zdq, Zdr, Zds, Zdt, setT, Zdu, Zdv, Zdw, Zdx, Zdy, List.append_eq, Zdz, Zea, Zeb, Zec, Zed, Zee, Zef, Zeg, Zeh, Nat.add_zero, Zei, Zej, Zek, Zel, Zem, Zen, Int.toNat_natCast, Bool.false_eq_true, Int.reduceEq, Int.reduceLT, Int.reduceLE, Int.reduceNeg, not_false_eq_true, and_self, Zeo, Zep, Int.natCast_one, Int.cast_ofNat_Int, not_true_eq_false, decide_true, decide_false, true_implies, false_implies, Int.toNat_zero, List.length_cons, List.length_nil, Nat.zero_add, mb, Nat.reduceBEq, Bool.false_and, Bool.and_false, Zeq, tys, stb, Zer, Zes, Zet, Zeu, Zev, Zew, Bool.or_false, Bool.false_or, Bool.true_and, Bool.or_true, Bool.true_or, Zex, Zey, empty_mk, len_str, g0, g2, hP]
      simp only [oneOr, sealDepth, sealV_tup, mapM_seal_cons, mapM_seal_nil, sealV_int, sealV_iface, sealV_nilif, Option.bind_some, Option.map_some]
/-- strconv.Atoi of digits -/
def atoiV (n : Nat) : V := if n < 9223372036854775808 then .tup [.int .i64 n, .nilif] else .tup [.int .i64 9223372036854775807, .iface 143 .any]
theorem sealV_any (h : List AObj) (d : Nat) : sealV h (d + 1) .any = some .any := rfl
theorem strconv_atoi (s : List UInt8) (hd : ∀ i, i < s.length → IsDg (s.getD i 0)) (hne : s ≠ []) (hl : s.length ≤ 2 ^ 30) (σ : S) : callFn env (ev env) 78 [.str s] σ = some (atoiV (decV 0 s), σ) := by
  refine callFn_pure rfl rfl rfl at78 rfl (by simp [Tryd.f78]) (by simp [Tryd.f78]) (G_start ?_) σ
  have hP := atoi_call s hd hne hl
  have hE := fun a => toerr_call a s hl
  obtain ⟨ms, u100⟩ := u100
  unfold intV at hP
  unfold atoiV
  by_cases h1 : decV 0 s < 9223372036854775808
  · rw [if_pos h1] at hP ⊢
    simp -implicitDefEqProofs only [Tryd.f78, Zaa, Zab, Zac, Zad, Zae, Zaf, Zag, Zah, Zai, Zaj, Zak, Zal, Zam, Zan, Zao, Zap, Zaq, Zar, Zas, Zat, Zau, Zav, Zaw, Zax, Zay, Zaz, Zba, Zbb, Zbc, Zbd, Zbe, Zbf, Zbg, Zbh, Zbi, Zbj, Zbk, Zbl, Zbm, Zbn, Zbo, Zbp, Zbq, Zbr, Zbs, Zbt, Zbu, Zbv, Zbw, Zbx, Zby, Zbz, Zca, Zcb, Zcc, Zcd, Zce, Zcf, Zcg, evalT, Zch, Nat.reduceLT, Nat.reduceEqDiff, if_true, if_false, reduceIte, true_and, Zci, Zcj, map_ite', Zck, bind_ite', Zcl, Zcm, Zcn, Zco, Zcp, Zcq, Zcr, Zcs, Zct, Zcu, Zcv, Zcw, Zcx, Zcy, Zcz, Zda, Zdb, Zdc, Zdd, Zde, Zdf, Zdg, ofVal, ofCell, argT, List.getD_cons_zero, List.getD_cons_succ, List.getElem?_toArray, List.getElem?_cons_zero, List.getElem?_cons_succ, List.nil_append, List.cons_append, List.append_nil, resT, Zdh, Zdi, Nat.mul_one, Zdj, Zdk, Zdl, Zdm, Zdn, Zdo, Zdp, Zdq, Zdr, Zds, Zdt, setT, Zdu, Zdv, Zdw, Zdx, Zdy, List.append_eq, Zdz, Zea, Zeb, Zec, Zed, Zee, Zef, Zeg, Zeh, Nat.add_zero, Zei, Zej, Zek, Zel, Zem, Zen, Int.toNat_natCast, Bool.false_eq_true, Int.reduceEq, Int.reduceLT, Int.reduceLE, Int.reduceNeg, not_false_eq_true, and_self, Zeo, Zep, Int.natCast_one, Int.cast_ofNat_Int, not_true_eq_false, decide_true, decide_false, true_implies, false_implies, Int.toNat_zero, List.length_cons, List.length_nil, Nat.zero_add, mb, Nat.reduceBEq, Bool.false_and, Bool.and_false, Zeq, tys, stb, Zer, Zes, Zet, Zeu, Zev, Zew, Bool.or_false, Bool.false_or, Bool.true_and, Bool.or_true, Bool.true_or, Zex, Zey, empty_mk, hP, binO_nil_if u100, isConst]
    simp only [oneOr, sealDepth, sealV_tup, mapM_seal_cons, mapM_seal_nil, sealV_int, sealV_iface, sealV_nilif, Option.bind_some, Option.map_some]
  · rw [if_neg h1] at hP ⊢
    simp -implicitDefEqProofs only [Tryd.f78, Zaa, Zab, Zac, Zad, Zae, Zaf, Zag, Zah, Zai, Zaj, Zak, Zal, Zam, Zan, Zao, Zap, Zaq, Zar, Zas, Zat, Zau, Zav, Zaw, Zax, Zay, Zaz, Zba, Zbb, Zbc, Zbd, Zbe, Zbf, Zbg, Zbh, Zbi, Zbj, Zbk, Zbl, Zbm, Zbn, Zbo, Zbp, Zbq, Zbr, Zbs, Zbt, Zbu, Zbv, Zbw, Zbx, Zby, Zbz, Zca, Zcb, Zcc, Zcd, Zce, Zcf, Zcg, evalT, Zch, Nat.reduceLT, Nat.reduceEqDiff, if_true, if_false, reduceIte, true_and, Zci, Zcj, map_ite', Zck, bind_ite', Zcl, Zcm, Zcn, Zco, Zcp, Zcq, Zcr, Zcs, Zct, Zcu, Zcv, Zcw, Zcx, Zcy, Zcz, Zda, Zdb, Zdc, Zdd, Zde, Zdf, Zdg, ofVal, ofCell, argT, List.getD_cons_zero, List.getD_cons_succ, List.getElem?_toArray, List.getElem?_cons_zero, List.getElem?_cons_succ, List.nil_append, List.cons_append, List.append_nil, resT, Zdh, Zdi, Nat.mul_one, Zdj, Zdk, Zdl, Zdm, Zdn, Zdo, Zdp, Zdq, Zdr, Zds, Zdt, setT, Zdu, Zdv, Zdw, Zdx, Zdy, List.append_eq, Zdz, Zea, Zeb, Zec, Zed, Zee, Zef, Zeg, Zeh, Nat.add_zero, Zei, Zej, Zek, Zel, Zem, Zen, Int.toNat_natCast, Bool.false_eq_true, Int.reduceEq, Int.reduceLT, Int.reduceLE, Int.reduceNeg, not_false_eq_true, and_self, Zeo, Zep, Int.natCast_one, Int.cast_ofNat_Int, not_true_eq_false, decide_true, decide_false, true_implies, false_implies, Int.toNat_zero, List.length_cons, List.length_nil, Nat.zero_add, mb, Nat.reduceBEq, Bool.false_and, Bool.and_false, Zeq, tys, stb, Zer, Zes, Zet, Zeu, Zev, Zew, Bool.or_false, Bool.false_or, Bool.true_and, Bool.or_true, Bool.true_or, Zex, Zey, empty_mk, hP, binO_if_nil u100, asciiV, hE, isConst]
    simp only [oneOr, sealDepth, sealV_tup, mapM_seal_cons, mapM_seal_nil, sealV_int, sealV_iface, sealV_any, Option.bind_some, Option.map_some]

end Go.Proofs.YtbikmhpobflfeaaDoor
namespace Go.Proofs.YtbikmhpobflfeaaDoor
open Go.Ab
set_option maxRecDepth 100000
set_option linter.unusedSimpArgs false
set_option linter.unusedVariables false
/-! ### token.number -/
def aggT (t : Tok) : V := .agg [.int .i64 t.kind, .str t.text, .int .i64 t.n, .int .i64 t.pos]
def tokE (t : Tok) (e : Int) : V := .tup [aggT t, .int .i64 e]
def numV (s : List UInt8) (p : Int) : V :=
  if 1 < s.length ∧ (s.getD 0 0).toNat = 48 then tokE ⟨0, [], 0, 0⟩ 11 else
  if 1000000000 < decV 0 s then tokE ⟨0, [], 0, 0⟩ 2 else tokE ⟨3, s, decV 0 s, p⟩ 0
theorem at121 : env.P.funcs[121]? = some Tryd.f121 := by kernel_rfl
theorem zv52 : zeroV env 52 = some (.agg [.int .i64 0, .str [], .int .i64 0, .int .i64 0]) := by kernel_rfl
theorem ld52 (a b c d : V) : aload env [.cells [a, b, c, d] 52] 52 (.ptr 0 0) = some (.agg [a, b, c, d]) := by kernel_rfl
theorem build52 : buildO env 52 [] = some (.agg [.int .i64 0, .str [], .int .i64 0, .int .i64 0]) := by kernel_rfl
theorem build52n (s : List UInt8) (n p : Int) : buildO env 52 [(0, .int .i64 3), (1, .str s), (2, .int .i64 n), (3, .int .i64 p)] = some (.agg [.int .i64 3, .str s, .int .i64 n, .int .i64 p]) := by kernel_rfl
theorem number_call (s : List UInt8) (p : Int) (hd : ∀ i, i < s.length → IsDg (s.getD i 0)) (hne : s ≠ []) (hl : s.length ≤ 2 ^ 30) (σ : S) : callFn env (ev env) 121 [.str s, .int .i64 p] σ = some (numV s p, σ) := by
  refine callFn_pure rfl rfl rfl at121 rfl (by simp [Tryd.f121]) (by simp [Tryd.f121]) (G_start ?_) σ
  have hlen : 0 < s.length := by
    rcases Nat.eq_zero_or_pos s.length with h | h
    · exact absurd (List.eq_nil_of_length_eq_zero h) hne
    · exact h
  have c0 : (0 : Int) ≤ 0 ∧ (0 : Int) < (s.length : Int) := by omega
  have e0 : Int.toNat 0 = 0 := rfl
  have hP := strconv_atoi s hd hne hl
  obtain ⟨ms, u100⟩ := u100
  unfold numV tokE aggT
  unfold atoiV at hP
  by_cases h1 : (1 : Int) < (s.length : Int) ∧ ((s.getD 0 0).toNat : Int) = 48
  · obtain ⟨h1, h2⟩ := h1
    have h3 : 1 < s.length ∧ (s.getD 0 0).toNat = 48 := by omega
    rw [if_pos h3]
    simp -implicitDefEqProofs only [Tryd.f121, Zaa, Zab, Zac, Zad, Zae, Zaf, Zag, Zah, Zai, Zaj, Zak, Zal, Zam, Zan, Zao, Zap, Zaq, Zar, Zas, Zat, Zau, Zav, Zaw, Zax, Zay, Zaz, Zba, Zbb, Zbc, Zbd, Zbe, Zbf, Zbg, Zbh, Zbi, Zbj, Zbk, Zbl, Zbm, Zbn, Zbo, Zbp, Zbq, Zbr, Zbs, Zbt, Zbu, Zbv, Zbw, Zbx, Zby, Zbz, Zca, Zcb, Zcc, Zcd, Zce, Zcf, Zcg, evalT, Zch, Nat.reduceLT, Nat.reduceEqDiff, if_true, if_false, reduceIte, true_and, Zci, Zcj, map_ite', Zck, bind_ite', Zcl, Zcm, Zcn, Zco, Zcp, Zcq, Zcr, Zcs, Zct, Zcu, Zcv, Zcw, Zcx, Zcy, Zcz, Zda, Zdb, Zdc, Zdd, Zde, Zdf, Zdg, ofVal, ofCell, argT, List.getD_cons_zero, List.getD_cons_succ, List.getElem?_toArray, List.getElem?_cons_zero, List.getElem?_cons_succ, List.nil_append, List.cons_append, List.append_nil, resT, Zdh, Zdi, Nat.mul_one, Zdj, Zdk, Zdl, Zdm, Zdn, Zdo, Zdp, Zdq, Zdr, Zds, Zdt, setT, Zdu, Zdv, Zdw, Zdx, Zdy, List.append_eq, Zdz, Zea, Zeb, Zec, Zed, Zee, Zef, Zeg, Zeh, Nat.add_zero, Zei, Zej, Zek, Zel, Zem, Zen, Int.toNat_natCast, Bool.false_eq_true, Int.reduceEq, Int.reduceLT, Int.reduceLE, Int.reduceNeg, not_false_eq_true, and_self, Zeo, Zep, Int.natCast_one, Int.cast_ofNat_Int, not_true_eq_false, decide_true, decide_false, true_implies, false_implies, Int.toNat_zero, List.length_cons, List.length_nil, Nat.zero_add, mb, Nat.reduceBEq, Bool.false_and, Bool.and_false, Zeq, tys, stb, Zer, Zes, Zet, Zeu, Zev, Zew, Bool.or_false, Bool.false_or, Bool.true_and, Bool.or_true, Bool.true_or, Zex, Zey, empty_mk, len_str, zv52, storeList, List.take_zero, List.take_succ_cons, List.drop_zero, List.drop_succ_cons, List.drop_nil, List.all_cons, List.all_nil, List.set_cons_zero, List.set_cons_succ, cells_hsl, isCell_hsl, Nat.reduceAdd, Nat.reduceLeDiff, isCell_int, isCell_str, ld52, Zdi, h1, h2, e0, opT_index, indexO_str u9, c0, build52]
    simp [oneOr, sealDepth, sealV_tup, sealV_agg, mapM_seal_cons, mapM_seal_nil, sealV_int, sealV_str]
  have h3 : ¬ (1 < s.length ∧ (s.getD 0 0).toNat = 48) := by omega
  rw [if_neg h3]
  by_cases h4 : decV 0 s < 9223372036854775808
  · rw [if_pos h4] at hP
    by_cases h5 : 1000000000 < decV 0 s
    · rw [if_pos h5]
      have h6 : (1000000000 : Int) < (decV 0 s : Nat) := by omega
      by_cases h7 : (1 : Int) < (s.length : Int)
      · have h8 : (((s.getD 0 0).toNat : Int) = 48) = False := eq_false (by omega)
        simp -implicitDefEqProofs only [Tryd.f121, Zaa, Zab, Zac, Zad, Zae, Zaf, Zag, Zah, Zai, Zaj, Zak, Zal, Zam, Zan, Zao, Zap, Zaq, Zar, Zas, Zat, Zau, Zav, Zaw, Zax, Zay, Zaz, Zba, Zbb, Zbc, Zbd, Zbe, Zbf, Zbg, Zbh, Zbi, Zbj, Zbk, Zbl, Zbm, Zbn, Zbo, Zbp, Zbq, Zbr, Zbs, Zbt, Zbu, Zbv, Zbw, Zbx, Zby, Zbz, Zca, Zcb, Zcc, Zcd, Zce, Zcf, Zcg, evalT, Zch, Nat.reduceLT, Nat.reduceEqDiff, if_true, if_false, reduceIte, true_and, Zci, Zcj, map_ite', Zck, bind_ite', Zcl, Zcm, Zcn, Zco, Zcp, Zcq, Zcr, Zcs, Zct, Zcu, Zcv, Zcw, Zcx, Zcy, Zcz, Zda, Zdb, Zdc, Zdd, Zde, Zdf, Zdg, ofVal, ofCell, argT, List.getD_cons_zero, List.getD_cons_succ, List.getElem?_toArray, List.getElem?_cons_zero, List.getElem?_cons_succ, List.nil_append, List.cons_append, List.append_nil, resT, Zdh, Zdi, Nat.mul_one, Zdj, Zdk, Zdl, Zdm, Zdn, Zdo, Zdp, Zdq, Zdr, Zds, Zdt, setT, Zdu, Zdv, Zdw, Zdx, Zdy, List.append_eq, Zdz, Zea, Zeb, Zec, Zed, Zee, Zef, Zeg, Zeh, Nat.add_zero, Zei, Zej, Zek, Zel, Zem, Zen, Int.toNat_natCast, Bool.false_eq_true, Int.reduceEq, Int.reduceLT, Int.reduceLE, Int.reduceNeg, not_false_eq_true, and_self, Zeo, Zep, Int.natCast_one, Int.cast_ofNat_Int, not_true_eq_false, decide_true, decide_false, true_implies, false_implies, Int.toNat_zero, List.length_cons, List.length_nil, Nat.zero_add, mb, Nat.reduceBEq, Bool.false_and, Bool.and_false, Zeq, tys, stb, Zer, Zes, Zet, Zeu, Zev, Zew, Bool.or_false, Bool.false_or, Bool.true_and, Bool.or_true, Bool.true_or, Zex, Zey, empty_mk, len_str, zv52, storeList, List.take_zero, List.take_succ_cons, List.drop_zero, List.drop_succ_cons, List.drop_nil, List.all_cons, List.all_nil, List.set_cons_zero, List.set_cons_succ, cells_hsl, isCell_hsl, Nat.reduceAdd, Nat.reduceLeDiff, isCell_int, isCell_str, ld52, Zdi, h7, h8, h6, e0, opT_index, indexO_str u9, c0, build52, hP, binO_nil_if u100, isConst]
        simp [oneOr, sealDepth, sealV_tup, sealV_agg, mapM_seal_cons, mapM_seal_nil, sealV_int, sealV_str]
      · simp -implicitDefEqProofs only [Tryd.f121, Zaa, Zab, Zac, Zad, Zae, Zaf, Zag, Zah, Zai, Zaj, Zak, Zal, Zam, Zan, Zao, Zap, Zaq, Zar, Zas, Zat, Zau, Zav, Zaw, Zax, Zay, Zaz, Zba, Zbb, Zbc, Zbd, Zbe, Zbf, Zbg, Zbh, Zbi, Zbj, Zbk, Zbl, Zbm, Zbn, Zbo, Zbp, Zbq, Zbr, Zbs, Zbt, Zbu, Zbv, Zbw, Zbx, Zby, Zbz, Zca, Zcb, Zcc, Zcd, Zce, Zcf, Zcg, evalT, Zch, Nat.reduceLT, Nat.reduceEqDiff, if_true, if_false, reduceIte, true_and, Zci, Zcj, map_ite', Zck, bind_ite', Zcl, Zcm, Zcn, Zco, Zcp, Zcq, Zcr, Zcs, Zct, Zcu, Zcv, Zcw, Zcx, Zcy, Zcz, Zda, Zdb, Zdc, Zdd, Zde, Zdf, Zdg, ofVal, ofCell, argT, List.getD_cons_zero, List.getD_cons_succ, List.getElem?_toArray, List.getElem?_cons_zero, List.getElem?_cons_succ, List.nil_append, List.cons_append, List.append_nil, resT, Zdh, Zdi, Nat.mul_one, Zdj, Zdk, Zdl, Zdm, Zdn, Zdo, Zdp, Zdq, Zdr, Zds, Zdt, setT, Zdu, Zdv, Zdw, Zdx, Zdy, List.append_eq, Zdz, Zea, Zeb, Zec, Zed, Zee, Zef, Zeg, Zeh, Nat.add_zero, Zei, Zej, Zek, Zel, Zem, Zen, Int.toNat_natCast, Bool.false_eq_true, Int.reduceEq, Int.reduceLT, Int.reduceLE, Int.reduceNeg, not_false_eq_true, and_self, Zeo, Zep, Int.natCast_one, Int.cast_ofNat_Int, not_true_eq_false, decide_true, decide_false, true_implies, false_implies, Int.toNat_zero, List.length_cons, List.length_nil, Nat.zero_add, mb, Nat.reduceBEq, Bool.false_and, Bool.and_false, Zeq, tys, stb, Zer, Zes, Zet, Zeu, Zev, Zew, Bool.or_false, Bool.false_or, Bool.true_and, Bool.or_true, Bool.true_or, Zex, Zey, empty_mk, len_str, zv52, storeList, List.take_zero, List.take_succ_cons, List.drop_zero, List.drop_succ_cons, List.drop_nil, List.all_cons, List.all_nil, List.set_cons_zero, List.set_cons_succ, cells_hsl, isCell_hsl, Nat.reduceAdd, Nat.reduceLeDiff, isCell_int, isCell_str, ld52, Zdi, h7, h6, e0, opT_index, indexO_str u9, c0, build52, hP, binO_nil_if u100, isConst]
        simp [oneOr, sealDepth, sealV_tup, sealV_agg, mapM_seal_cons, mapM_seal_nil, sealV_int, sealV_str]
    · rw [if_neg h5]
      have h6 : ¬ (1000000000 : Int) < (decV 0 s : Nat) := by omega
      by_cases h7 : (1 : Int) < (s.length : Int)
      · have h8 : (((s.getD 0 0).toNat : Int) = 48) = False := eq_false (by omega)
        simp -implicitDefEqProofs only [Tryd.f121, Zaa, Zab, Zac, Zad, Zae, Zaf, Zag, Zah, Zai, Zaj, Zak, Zal, Zam, Zan, Zao, Zap, Zaq, Zar, Zas, Zat, Zau, Zav, Zaw, Zax, Zay, Zaz, Zba, Zbb, Zbc, Zbd, Zbe, Zbf, Zbg, Zbh, Zbi, Zbj, Zbk, Zbl, Zbm, Zbn, Zbo, Zbp, Zbq, Zbr, Zbs, Zbt, Zbu, Zbv, Zbw, Zbx, Zby, Zbz, Zca, Zcb, Zcc, Zcd, Zce, Zcf, Zcg, evalT, Zch, Nat.reduceLT, Nat.reduceEqDiff, if_true, if_false, reduceIte, true_and, Zci, Zcj, map_ite', Zck, bind_ite', Zcl, Zcm, Zcn, Zco, Zcp, Zcq, Zcr, Zcs, Zct, Zcu, Zcv, Zcw, Zcx, Zcy, Zcz, Zda, Zdb, Zdc, Zdd, Zde, Zdf, Zdg, ofVal, ofCell, argT, List.getD_cons_zero, List.getD_cons_succ, List.getElem?_toArray, List.getElem?_cons_zero, List.getElem?_cons_succ, List.nil_append, List.cons_append, List.append_nil, resT, Zdh, Zdi, Nat.mul_one, Zdj, Zdk, Zdl, Zdm, Zdn, Zdo, Zdp, Zdq, Zdr, Zds, Zdt, setT, Zdu, Zdv, Zdw, Zdx, Zdy, List.append_eq, Zdz, Zea, Zeb, Zec, Zed, Zee, Zef, Zeg, Zeh, Nat.add_zero, Zei, Zej, Zek, Zel, Zem, Zen, Int.toNat_natCast, Bool.false_eq_true, Int.reduceEq, Int.reduceLT, Int.reduceLE, Int.reduceNeg, not_false_eq_true, and_self, Zeo, Zep, Int.natCast_one, Int.cast_ofNat_Int, not_true_eq_false, decide_true, decide_false, true_implies, false_implies, Int.toNat_zero, List.length_cons, List.length_nil, Nat.zero_add, mb, Nat.reduceBEq, Bool.false_and, Bool.and_false, Zeq, tys, stb, Zer, Zes, Zet, Zeu, Zev, Zew, Bool.or_false, Bool.false_or, Bool.true_and, Bool.or_true, Bool.true_or, Zex, Zey, empty_mk, len_str, zv52, storeList, List.take_zero, List.take_succ_cons, List.drop_zero, List.drop_succ_cons, List.drop_nil, List.all_cons, List.all_nil, List.set_cons_zero, List.set_cons_succ, cells_hsl, isCell_hsl, Nat.reduceAdd, Nat.reduceLeDiff, isCell_int, isCell_str, ld52, Zdi, h7, h8, h6, e0, opT_index, indexO_str u9, c0, build52n, hP, binO_nil_if u100, isConst]
        simp [oneOr, sealDepth, sealV_tup, sealV_agg, mapM_seal_cons, mapM_seal_nil, sealV_int, sealV_str]
      · simp -implicitDefEqProofs only [Tryd.f121, Zaa, Zab, Zac, Zad, Zae, Zaf, Zag, Zah, Zai, Zaj, Zak, Zal, Zam, Zan, Zao, Zap, Zaq, Zar, Zas, Zat, Zau, Zav, Zaw, Zax, Zay, Zaz, Zba, Zbb, Zbc, Zbd, Zbe, Zbf, Zbg, Zbh, Zbi, Zbj, Zbk, Zbl, Zbm, Zbn, Zbo, Zbp, Zbq, Zbr, Zbs, Zbt, Zbu, Zbv, Zbw, Zbx, Zby, Zbz, Zca, Zcb, Zcc, Zcd, Zce, Zcf, Zcg, evalT, Zch, Nat.reduceLT, Nat.reduceEqDiff, if_true, if_false, reduceIte, true_and, Zci, Zcj, map_ite', Zck, bind_ite', Zcl, Zcm, Zcn, Zco, Zcp, Zcq, Zcr, Zcs, Zct, Zcu, Zcv, Zcw, Zcx, Zcy, Zcz, Zda, Zdb, Zdc, Zdd, Zde, Zdf, Zdg, ofVal, ofCell, argT, List.getD_cons_zero, List.getD_cons_succ, List.getElem?_toArray, List.getElem?_cons_zero, List.getElem?_cons_succ, List.nil_append, List.cons_append, List.append_nil, resT, Zdh, Zdi, Nat.mul_one, Zdj, Zdk, Zdl, Zdm, Zdn, Zdo, Zdp, Zdq, Zdr, Zds, Zdt, setT, Zdu, Zdv, Zdw, Zdx, Zdy, List.append_eq, Zdz, Zea, Zeb, Zec, Zed, Zee, Zef, Zeg, Zeh, Nat.add_zero, Zei, Zej, Zek, Zel, Zem, Zen, Int.toNat_natCast, Bool.false_eq_true, Int.reduceEq, Int.reduceLT, Int.reduceLE, Int.reduceNeg, not_false_eq_true, and_self, Zeo, Zep, Int.natCast_one, Int.cast_ofNat_Int, not_true_eq_false, decide_true, decide_false, true_implies, false_implies, Int.toNat_zero, List.length_cons, List.length_nil, Nat.zero_add, mb, Nat.reduceBEq, Bool.false_and, Bool.and_false, Zeq, tys, stb, Zer, Zes, Zet, Zeu, Zev, Zew, Bool.or_false, Bool.false_or, Bool.true_and, Bool.or_true, Bool.true_or, Zex, Zey, empty_mk, len_str, zv52, storeList, List.take_zero, List.take_succ_cons, List.drop_zero, List.drop_succ_cons, List.drop_nil, List.all_cons, List.all_nil, List.set_cons_zero, List.set_cons_succ, cells_hsl, isCell_hsl, Nat.reduceAdd, Nat.reduceLeDiff, isCell_int, isCell_str, ld52, Zdi, h7, h6, e0, opT_index, indexO_str u9, c0, build52n, hP, binO_nil_if u100, isConst]
        simp [oneOr, sealDepth, sealV_tup, sealV_agg, mapM_seal_cons, mapM_seal_nil, sealV_int, sealV_str]
  · rw [if_neg h4] at hP
    rw [if_pos (by omega)]
    by_cases h7 : (1 : Int) < (s.length : Int)
    · have h8 : (((s.getD 0 0).toNat : Int) = 48) = False := eq_false (by omega)
      simp -implicitDefEqProofs only [Tryd.f121, Zaa, Zab, Zac, Zad, Zae, Zaf, Zag, Zah, Zai, Zaj, Zak, Zal, Zam, Zan, Zao, Zap, Zaq, Zar, Zas, Zat, Zau, Zav, Zaw, Zax, Zay, Zaz, Zba, Zbb, Zbc, Zbd, Zbe, Zbf, Zbg, Zbh, Zbi, Zbj, Zbk, Zbl, Zbm, Zbn, Zbo, Zbp, Zbq, Zbr, Zbs, Zbt, Zbu, Zbv, Zbw, Zbx, Zby, Zbz, Zca, Zcb, Zcc, Zcd, Zce, Zcf, Zcg, evalT, Zch, Nat.reduceLT, Nat.reduceEqDiff, if_true, if_false, reduceIte, true_and, Zci, Zcj, map_ite', Zck, bind_ite', Zcl, Zcm, Zcn, Zco, Zcp, Zcq, Zcr, Zcs, Zct, Zcu, Zcv, Zcw, Zcx, Zcy, Zcz, Zda, Zdb, Zdc, Zdd, Zde, Zdf, Zdg, ofVal, ofCell, argT, List.getD_cons_zero, List.getD_cons_succ, List.getElem?_toArray, List.getElem?_cons_zero, List.getElem?_cons_succ, List.nil_append, List.cons_append, List.append_nil, resT, Zdh, Zdi, Nat.mul_one, Zdj, Zdk, Zdl, Zdm, Zdn, Zdo, Zdp, Zdq, Zdr, Zds, Zdt, setT, Zdu, Zdv, Zdw, Zdx, Zdy, List.append_eq, Zdz, Zea, Zeb, Zec, Zed, Zee, Zef, Zeg, Zeh, Nat.add_zero, Zei, Zej, Zek, Zel, Zem, Zen, Int.toNat_natCast, Bool.false_eq_true, Int.reduceEq, Int.reduceLT, Int.reduceLE, Int.reduceNeg, not_false_eq_true, and_self, Zeo, Zep, Int.natCast_one, Int.cast_ofNat_Int, not_true_eq_false, decide_true, decide_false, true_implies, false_implies, Int.toNat_zero, List.length_cons, List.length_nil, Nat.zero_add, mb, Nat.reduceBEq, Bool.false_and, Bool.and_false, Zeq, tys, stb, Zer, Zes, Zet, Zeu, Zev, Zew, Bool.or_false, Bool.false_or, Bool.true_and, Bool.or_true, Bool.true_or, Zex, Zey, empty_mk, len_str, zv52, storeList, List.take_zero, List.take_succ_cons, List.drop_zero, List.drop_succ_cons, List.drop_nil, List.all_cons, List.all_nil, List.set_cons_zero, List.set_cons_succ, cells_hsl, isCell_hsl, Nat.reduceAdd, Nat.reduceLeDiff, isCell_int, isCell_str, ld52, Zdi, h7, h8, e0, opT_index, indexO_str u9, c0, build52, hP, binO_if_nil u100, isConst]
      simp [oneOr, sealDepth, sealV_tup, sealV_agg, mapM_seal_cons, mapM_seal_nil, sealV_int, sealV_str]
    · simp -implicitDefEqProofs only [Tryd.f121, Zaa, Zab, Zac, Zad, Zae, Zaf, Zag, Zah, Zai, Zaj, Zak, Zal, Zam, Zan, Zao, Zap, Zaq, Zar, Zas, Zat, Zau, Zav, Zaw, Zax, Zay, Zaz, Zba, Zbb, Zbc, Zbd, Zbe, Zbf, Zbg, Zbh, Zbi, Zbj, Zbk, Zbl, Zbm, Zbn, Zbo, Zbp, Zbq, Zbr, Zbs, Zbt, Zbu, Zbv, Zbw, Zbx, Zby, Zbz, Zca, Zcb, Zcc, Zcd, Zce, Zcf, Zcg, evalT, Zch, Nat.reduceLT, Nat.reduceEqDiff, if_true, if_false, reduceIte, true_and, Zci, Zcj, map_ite', Zck, bind_ite', Zcl, Zcm, Zcn, Zco, Zcp, Zcq, Zcr, Zcs, Zct, Zcu, Zcv, Zcw, Zcx, Zcy, Zcz, Zda, Zdb, Zdc, Zdd, Zde, Zdf, Zdg, ofVal, ofCell, argT, List.getD_cons_zero, List.getD_cons_succ, List.getElem?_toArray, List.getElem?_cons_zero, List.getElem?_cons_succ, List.nil_append, List.cons_append, List.append_nil, resT, Zdh, Zdi, Nat.mul_one, Zdj, Zdk, Zdl, Zdm, Zdn, Zdo, Zdp, Zdq, Zdr, Zds, Zdt, setT, Zdu, Zdv, Zdw, Zdx, Zdy, List.append_eq, Zdz, Zea, Zeb, Zec, Zed, Zee, Zef, Zeg, Zeh, Nat.add_zero, Zei, Zej, Zek, Zel, Zem, Zen, Int.toNat_natCast, Bool.false_eq_true, Int.reduceEq, Int.reduceLT, Int.reduceLE, Int.reduceNeg, not_false_eq_true, and_self, Zeo, Zep, Int.natCast_one, Int.cast_ofNat_Int, not_true_eq_false, decide_true, decide_false, true_implies, false_implies, Int.toNat_zero, List.length_cons, List.length_nil, Nat.zero_add, mb, Nat.reduceBEq, Bool.false_and, Bool.and_false, Zeq, tys, stb, Zer, Zes, Zet, Zeu, Zev, Zew, Bool.or_false, Bool.false_or, Bool.true_and, Bool.or_true, Bool.true_or, Zex, Zey, empty_mk, len_str, zv52, storeList, List.take_zero, List.take_succ_cons, List.drop_zero, List.drop_succ_cons, List.drop_nil, List.all_cons, List.all_nil, List.set_cons_zero, List.set_cons_succ, cells_hsl, isCell_hsl, Nat.reduceAdd, Nat.reduceLeDiff, isCell_int, isCell_str, ld52, Zdi, h7, e0, opT_index, indexO_str u9, c0, build52, hP, binO_if_nil u100, isConst]
      simp [oneOr, sealDepth, sealV_tup, sealV_agg, mapM_seal_cons, mapM_seal_nil, sealV_int, sealV_str]

end Go.Proofs.YtbikmhpobflfeaaDoor
namespace Go.Proofs.YtbikmhpobflfeaaDoor
open Go.Ab
set_option maxRecDepth 100000
set_option linter.unusedSimpArgs false
set_option linter.unusedVariables false
theorem at134 : env.P.funcs[134]? = some Tryd.f134 := by kernel_rfl
theorem at120 : env.P.funcs[120]? = some Tryd.f120 := by kernel_rfl
theorem at73 : env.P.funcs[73]? = some Tryd.f73 := by kernel_rfl
theorem u87 : env.P.underlying 87 = some (.int .i64) := by kernel_rfl
theorem u134 : env.P.underlying 134 = some (.slice 87) := by kernel_rfl
theorem s87 : sz env 87 = some 1 := by kernel_rfl
theorem closed_ints' (k : IntKind) : ∀ ws : List Int, V.closed.closedL (ws.map (V.int k)) = true
  | [] => rfl
  | w :: ws => by simp only [List.map_cons, V.closed.closedL, V.closed, Bool.true_and]; exact closed_ints' k ws
theorem aload87 (h : List AObj) (p : V) : aload env h 87 p = (loadCellsV h 1 p).bind (·[0]?) := aload_one (by kernel_rfl)
/-- where a word stands -/
def placeI (ws : List Int) (s : Int) : Nat → Nat → Int
  | 0, _ => -1
  | m + 1, i => if s = ws.getD i 0 then i else placeI ws s m (i + 1)
theorem placeI_pos (ws : List Int) (s : Int) : ∀ m i, 0 ≤ placeI ws s m i ↔ ∃ j, i ≤ j ∧ j < i + m ∧ s = ws.getD j 0
  | 0, i => by simp only [placeI]; constructor
               · intro h; omega
               · rintro ⟨j, h1, h2, _⟩; omega
  | m + 1, i => by
    simp only [placeI]
    by_cases h : s = ws.getD i 0
    · rw [if_pos h]
      exact ⟨fun _ => ⟨i, by omega, by omega, h⟩, fun _ => by omega⟩
    · rw [if_neg h, placeI_pos ws s m (i + 1)]
      constructor
      · rintro ⟨j, h1, h2, h3⟩; exact ⟨j, by omega, by omega, h3⟩
      · rintro ⟨j, h1, h2, h3⟩
        refine ⟨j, ?_, by omega, h3⟩
        rcases Nat.lt_or_ge i j with h4 | h4
        · omega
        · have : j = i := by omega
          subst this; exact absurd h3 h
theorem placeI_mem (ws : List Int) (s : Int) : 0 ≤ placeI ws s ws.length 0 ↔ s ∈ ws := by
  rw [placeI_pos]
  constructor
  · rintro ⟨j, _, h2, rfl⟩
    have h2 : j < ws.length := by omega
    simp [List.getD, h2]
  · intro h
    obtain ⟨j, hj, rfl⟩ := List.mem_iff_getElem.1 h
    exact ⟨j, by omega, by omega, by simp [List.getD, hj]⟩
theorem closed_irow (ws : List Int) (c : RCap) (hc : ∀ k e s, c ≠ .tok k e s) : (V.row (ws.map (V.int .i64)) ws.length c).closed = true := by
  simp only [V.closed, closed_ints', Bool.and_true]
theorem indexI_call (ws : List Int) (c : RCap) (hc : ∀ k e s, c ≠ .tok k e s) (hl : ws.length ≤ 1000) (s : Int) (σ : S) : callFn env (ev env) 134 [.row (ws.map (V.int .i64)) ws.length c, .int .i64 s] σ = some (.int .i64 (placeI ws s ws.length 0), σ) := by
  refine callFn_pure rfl rfl (by rw [List.all_cons, closed_irow ws c hc]; rfl) at134 rfl (by simp [Tryd.f134]) (by simp [Tryd.f134]) (G_start ?_) σ
  simp -implicitDefEqProofs only [Tryd.f134, Zaa, Zab, Zac, Zad, Zae, Zaf, Zag, Zah, Zai, Zaj, Zak, Zal, Zam, Zan, Zao, Zap, Zaq, Zar, Zas, Zat, Zau, Zav, Zaw, Zax, Zay, Zaz, Zba, Zbb, Zbc, Zbd, Zbe, Zbf, Zbg, Zbh, Zbi, Zbj, Zbk, Zbl, Zbm, Zbn, Zbo, Zbp, Zbq, Zbr, Zbs, Zbt, Zbu, Zbv, Zbw, Zbx, Zby, Zbz, Zca, Zcb, Zcc, Zcd, Zce, Zcf, Zcg, evalT, Zch, Nat.reduceLT, Nat.reduceEqDiff, if_true, if_false, reduceIte, true_and, Zci, Zcj, map_ite', Zck, bind_ite', Zcl, Zcm, Zcn, Zco, Zcp, Zcq, Zcr, Zcs, Zct, Zcu, Zcv, Zcw, Zcx, Zcy, Zcz, Zda, Zdb, Zdc, Zdd, Zde, Zdf, Zdg, ofVal, ofCell, argT, List.getD_cons_zero, List.getD_cons_succ, List.getElem?_toArray, List.getElem?_cons_zero, List.getElem?_cons_succ, List.nil_append, List.cons_append, List.append_nil, resT, Zdh, Zdi, Nat.mul_one, Zdj, Zdk, Zdl, Zdm, Zdn, Zdo, Zdp, Zdq, Zdr, Zds, Zdt, setT, Zdu, Zdv, Zdw, Zdx, Zdy, List.append_eq, Zdz, Zea, Zeb, Zec, Zed, Zee, Zef, Zeg, Zeh, Nat.add_zero, Zei, Zej, Zek, Zel, Zem, Zen, Int.toNat_natCast, Bool.false_eq_true, Int.reduceEq, Int.reduceLT, Int.reduceLE, Int.reduceNeg, not_false_eq_true, and_self, Zeo, Zep, Int.natCast_one, Int.cast_ofNat_Int, not_true_eq_false, decide_true, decide_false, true_implies, false_implies, Int.toNat_zero, List.length_cons, List.length_nil, Nat.zero_add, mb, Nat.reduceBEq, Bool.false_and, Bool.and_false, Zeq, tys, stb, Zer, Zes, Zet, Zeu, Zev, Zew, Bool.or_false, Bool.false_or, Bool.true_and, Bool.or_true, Bool.true_or, Zex, Zey, u134]
  refine loop_rule (fun m T D σ => D = [] ∧ σ = S.empty ∧ T 0 = .row (ws.map (V.int .i64)) ws.length c ∧ T 1 = .int .i64 s ∧ T 7 = .int .i64 ws.length ∧ ∃ i : Nat, T 8 = .int .i64 i ∧ i ≤ ws.length ∧ m = ws.length - i ∧ placeI ws s ws.length 0 = placeI ws s (ws.length - i) i) ?_ _ _ _ _ ⟨rfl, rfl, rfl, rfl, rfl, 0, rfl, by omega, rfl, rfl⟩
  rintro m T D σ ⟨rfl, rfl, t0, t1, t7, i, t8, hi, rfl, hf⟩
  refine G_start ?_
  by_cases hlt : i < ws.length
  · have c1 : (i : Int) < (ws.length : Int) := by omega
    have e1 : IntKind.i64.wrap ((i : Int) + 1) = ((i + 1 : Nat) : Int) := by rw [wrap_i64 (by omega) (by omega)]; omega
    have c2 : (0 : Int) ≤ (i : Int) ∧ (i : Int) < (ws.length : Int) := by omega
    obtain ⟨q, hq⟩ : ∃ q, ws.length - i = q + 1 := ⟨ws.length - i - 1, by omega⟩
    have hq2 : q = ws.length - (i + 1) := by omega
    have hstep : placeI ws s (ws.length - i) i = if s = ws.getD i 0 then (i : Int) else placeI ws s q (i + 1) := by rw [hq]; rfl
    rw [hstep] at hf
    by_cases hn : s = ws.getD i 0
    · rw [if_pos hn] at hf
      simp -implicitDefEqProofs only [Zaa, Zab, Zac, Zad, Zae, Zaf, Zag, Zah, Zai, Zaj, Zak, Zal, Zam, Zan, Zao, Zap, Zaq, Zar, Zas, Zat, Zau, Zav, Zaw, Zax, Zay, Zaz, Zba, Zbb, Zbc, Zbd, Zbe, Zbf, Zbg, Zbh, Zbi, Zbj, Zbk, Zbl, Zbm, Zbn, Zbo, Zbp, Zbq, Zbr, Zbs, Zbt, Zbu, Zbv, Zbw, Zbx, Zby, Zbz, Zca, Zcb, Zcc, Zcd, Zce, Zcf, Zcg, evalT, Zch, Nat.reduceLT, Nat.reduceEqDiff, if_true, if_false, reduceIte, true_and, Zci, Zcj, map_ite', Zck, bind_ite', Zcl, Zcm, Zcn, Zco, Zcp, Zcq, Zcr, Zcs, Zct, Zcu, Zcv, Zcw, Zcx, Zcy, Zcz, Zda, Zdb, Zdc, Zdd, Zde, Zdf, Zdg, ofVal, ofCell, argT, List.getD_cons_zero, List.getD_cons_succ, List.getElem?_toArray, List.getElem?_cons_zero, List.getElem?_cons_succ, List.nil_append, List.cons_append, List.append_nil, resT, Zdh, Zdi, Nat.mul_one, Zdj, Zdk, Zdl, Zdm, Zdn, Zdo, Zdp, Zdq, Zdr, Zds, Zdt, setT, Zdu, Zdv, Zdw, Zdx, Zdy, List.append_eq, Zdz, Zea, Zeb, Zec, Zed, Zee, Zef, Zeg, Zeh, Nat.add_zero, Zei, Zej, Zek, Zel, Zem, Zen, Int.toNat_natCast, Bool.false_eq_true, Int.reduceEq, Int.reduceLT, Int.reduceLE, Int.reduceNeg, not_false_eq_true, and_self, Zeo, Zep, Int.natCast_one, Int.cast_ofNat_Int, not_true_eq_false, decide_true, decide_false, true_implies, false_implies, Int.toNat_zero, List.length_cons, List.length_nil, Nat.zero_add, mb, Nat.reduceBEq, Bool.false_and, Bool.and_false, Zeq, tys, stb, Zer, Zes, Zet, Zeu, Zev, Zew, Bool.or_false, Bool.false_or, Bool.true_and, Bool.or_true, Bool.true_or, Zex, Zey, t0, t1, t7, t8, c1, c2, e1, aload87, u87, u134, s87, Zek, hlt, Zcp, ← hn]
      simp only [oneOr, sealDepth, sealV_int, hf]
    · rw [if_neg hn, hq2] at hf
      simp -implicitDefEqProofs only [Zaa, Zab, Zac, Zad, Zae, Zaf, Zag, Zah, Zai, Zaj, Zak, Zal, Zam, Zan, Zao, Zap, Zaq, Zar, Zas, Zat, Zau, Zav, Zaw, Zax, Zay, Zaz, Zba, Zbb, Zbc, Zbd, Zbe, Zbf, Zbg, Zbh, Zbi, Zbj, Zbk, Zbl, Zbm, Zbn, Zbo, Zbp, Zbq, Zbr, Zbs, Zbt, Zbu, Zbv, Zbw, Zbx, Zby, Zbz, Zca, Zcb, Zcc, Zcd, Zce, Zcf, Zcg, evalT, Zch, Nat.reduceLT, Nat.reduceEqDiff, if_true, if_false, reduceIte, true_and, Zci, Zcj, map_ite', Zck, bind_ite', Zcl, Zcm, Zcn, Zco, Zcp, Zcq, Zcr, Zcs, Zct, Zcu, Zcv, Zcw, Zcx, Zcy, Zcz, Zda, Zdb, Zdc, Zdd, Zde, Zdf, Zdg, ofVal, ofCell, argT, List.getD_cons_zero, List.getD_cons_succ, List.getElem?_toArray, List.getElem?_cons_zero, List.getElem?_cons_succ, List.nil_append, List.cons_append, List.append_nil, resT, Zdh, Zdi, Nat.mul_one, Zdj, Zdk, Zdl, Zdm, Zdn, Zdo, Zdp, Zdq, Zdr, Zds, Zdt, setT, Zdu, Zdv, Zdw, Zdx, Zdy, List.append_eq, Zdz, Zea, Zeb, Zec, Zed, Zee, Zef, Zeg, Zeh, Nat.add_zero, Zei, Zej, Zek, Zel, Zem, Zen, Int.toNat_natCast, Bool.false_eq_true, Int.reduceEq, Int.reduceLT, Int.reduceLE, Int.reduceNeg, not_false_eq_true, and_self, Zeo, Zep, Int.natCast_one, Int.cast_ofNat_Int, not_true_eq_false, decide_true, decide_false, true_implies, false_implies, Int.toNat_zero, List.length_cons, List.length_nil, Nat.zero_add, mb, Nat.reduceBEq, Bool.false_and, Bool.and_false, Zeq, tys, stb, Zer, Zes, Zet, Zeu, Zev, Zew, Bool.or_false, Bool.false_or, Bool.true_and, Bool.or_true, Bool.true_or, Zex, Zey, t0, t1, t7, t8, c1, c2, e1, aload87, u87, u134, s87, Zek, hlt, Zcp, hn]
      exact ⟨ws.length - (i + 1), by omega, i + 1, rfl, by omega, rfl, hf⟩
  · have hi2 : i = ws.length := by omega
    subst hi2
    have c1 : ¬ (ws.length : Int) < (ws.length : Int) := by omega
    rw [Nat.sub_self] at hf
    simp -implicitDefEqProofs only [Zaa, Zab, Zac, Zad, Zae, Zaf, Zag, Zah, Zai, Zaj, Zak, Zal, Zam, Zan, Zao, Zap, Zaq, Zar, Zas, Zat, Zau, Zav, Zaw, Zax, Zay, Zaz, Zba, Zbb, Zbc, Zbd, Zbe, Zbf, Zbg, Zbh, Zbi, Zbj, Zbk, Zbl, Zbm, Zbn, Zbo, Zbp, Zbq, Zbr, Zbs, Zbt, Zbu, Zbv, Zbw, Zbx, Zby, Zbz, Zca, Zcb, Zcc, Zcd, Zce, Zcf, Zcg, evalT, Zch, Nat.reduceLT, Nat.reduceEqDiff, if_true, if_false, reduceIte, true_and, Zci, Zcj, map_ite', Zck, bind_ite', Zcl, Zcm, Zcn, Zco, Zcp, Zcq, Zcr, Zcs, Zct, Zcu, Zcv, Zcw, Zcx, Zcy, Zcz, Zda, Zdb, Zdc, Zdd, Zde, Zdf, Zdg, ofVal, ofCell, argT, List.getD_cons_zero, List.getD_cons_succ, List.getElem?_toArray, List.getElem?_cons_zero, List.getElem?_cons_succ, List.nil_append, List.cons_append, List.append_nil, resT, Zdh, Zdi, Nat.mul_one, Zdj, Zdk, Zdl, Zdm, Zdn, Zdo, Zdp, Zdq, Zdr, Zds, Zdt, setT, Zdu, Zdv, Zdw, Zdx, Zdy, List.append_eq, Zdz, Zea, Zeb, Zec, Zed, Zee, Zef, Zeg, Zeh, Nat.add_zero, Zei, Zej, Zek, Zel, Zem, Zen, Int.toNat_natCast, Bool.false_eq_true, Int.reduceEq, Int.reduceLT, Int.reduceLE, Int.reduceNeg, not_false_eq_true, and_self, Zeo, Zep, Int.natCast_one, Int.cast_ofNat_Int, not_true_eq_false, decide_true, decide_false, true_implies, false_implies, Int.toNat_zero, List.length_cons, List.length_nil, Nat.zero_add, mb, Nat.reduceBEq, Bool.false_and, Bool.and_false, Zeq, tys, stb, Zer, Zes, Zet, Zeu, Zev, Zew, Bool.or_false, Bool.false_or, Bool.true_and, Bool.or_true, Bool.true_or, Zex, Zey, t0, t1, t7, t8, c1]
    simp only [oneOr, sealDepth, sealV_int, hf]; rfl
theorem containsI_call (ws : List Int) (c : RCap) (hc : ∀ k e s, c ≠ .tok k e s) (hl : ws.length ≤ 1000) (s : Int) (σ : S) : callFn env (ev env) 120 [.row (ws.map (V.int .i64)) ws.length c, .int .i64 s] σ = some (.bool (decide (s ∈ ws)), σ) := by
  refine callFn_pure rfl rfl (by rw [List.all_cons, closed_irow ws c hc]; rfl) at120 rfl (by simp [Tryd.f120]) (by simp [Tryd.f120]) (G_start ?_) σ
  have hk := placeI_mem ws s
  by_cases h : s ∈ ws
  · have c0 := hk.2 h
    simp -implicitDefEqProofs only [Tryd.f120, Zaa, Zab, Zac, Zad, Zae, Zaf, Zag, Zah, Zai, Zaj, Zak, Zal, Zam, Zan, Zao, Zap, Zaq, Zar, Zas, Zat, Zau, Zav, Zaw, Zax, Zay, Zaz, Zba, Zbb, Zbc, Zbd, Zbe, Zbf, Zbg, Zbh, Zbi, Zbj, Zbk, Zbl, Zbm, Zbn, Zbo, Zbp, Zbq, Zbr, Zbs, Zbt, Zbu, Zbv, Zbw, Zbx, Zby, Zbz, Zca, Zcb, Zcc, Zcd, Zce, Zcf, Zcg, evalT, Zch, Nat.reduceLT, Nat.reduceEqDiff, if_true, if_false, reduceIte, true_and, Zci, Zcj, map_ite', Zck, bind_ite', Zcl, Zcm, Zcn, Zco, Zcp, Zcq, Zcr, Zcs, Zct, Zcu, Zcv, Zcw, Zcx, Zcy, Zcz, Zda, Zdb, Zdc, Zdd, Zde, Zdf, Zdg, ofVal, ofCell, argT, List.getD_cons_zero, List.getD_cons_succ, List.getElem?_toArray, List.getElem?_cons_zero, List.getElem?_cons_succ, List.nil_append, List.cons_append, List.append_nil, resT, Zdh, Zdi, Nat.mul_one, Zdj, Zdk, Zdl, Zdm, Zdn, Zdo, Zdp, Zdq, Zdr, Zds, Zdt, setT, Zdu, Zdv, Zdw, Zdx, Zdy, List.append_eq, Zdz, Zea, Zeb, Zec, Zed, Zee, Zef, Zeg, Zeh, Nat.add_zero, Zei, Zej, Zek, Zel, Zem, Zen, Int.toNat_natCast, Bool.false_eq_true, Int.reduceEq, Int.reduceLT, Int.reduceLE, Int.reduceNeg, not_false_eq_true, and_self, Zeo, Zep, Int.natCast_one, Int.cast_ofNat_Int, not_true_eq_false, decide_true, decide_false, true_implies, false_implies, Int.toNat_zero, List.length_cons, List.length_nil, Nat.zero_add, mb, Nat.reduceBEq, Bool.false_and, Bool.and_false, Zeq, tys, stb, Zer, Zes, Zet, Zeu, Zev, Zew, Bool.or_false, Bool.false_or, Bool.true_and, Bool.or_true, Bool.true_or, Zex, Zey, indexI_call ws c hc hl, c0]
    simp only [oneOr, sealDepth, sealV_bool, h, decide_true]
  · have c0 : ¬ 0 ≤ placeI ws s ws.length 0 := fun q => h (hk.1 q)
    simp -implicitDefEqProofs only [Tryd.f120, Zaa, Zab, Zac, Zad, Zae, Zaf, Zag, Zah, Zai, Zaj, Zak, Zal, Zam, Zan, Zao, Zap, Zaq, Zar, Zas, Zat, Zau, Zav, Zaw, Zax, Zay, Zaz, Zba, Zbb, Zbc, Zbd, Zbe, Zbf, Zbg, Zbh, Zbi, Zbj, Zbk, Zbl, Zbm, Zbn, Zbo, Zbp, Zbq, Zbr, Zbs, Zbt, Zbu, Zbv, Zbw, Zbx, Zby, Zbz, Zca, Zcb, Zcc, Zcd, Zce, Zcf, Zcg, evalT, Zch, Nat.reduceLT, Nat.reduceEqDiff, if_true, if_false, reduceIte, true_and, Zci, Zcj, map_ite', Zck, bind_ite', Zcl, Zcm, Zcn, Zco, Zcp, Zcq, Zcr, Zcs, Zct, Zcu, Zcv, Zcw, Zcx, Zcy, Zcz, Zda, Zdb, Zdc, Zdd, Zde, Zdf, Zdg, ofVal, ofCell, argT, List.getD_cons_zero, List.getD_cons_succ, List.getElem?_toArray, List.getElem?_cons_zero, List.getElem?_cons_succ, List.nil_append, List.cons_append, List.append_nil, resT, Zdh, Zdi, Nat.mul_one, Zdj, Zdk, Zdl, Zdm, Zdn, Zdo, Zdp, Zdq, Zdr, Zds, Zdt, setT, Zdu, Zdv, Zdw, Zdx, Zdy, List.append_eq, Zdz, Zea, Zeb, Zec, Zed, Zee, Zef, Zeg, Zeh, Nat.add_zero, Zei, Zej, Zek, Zel, Zem, Zen, Int.toNat_natCast, Bool.false_eq_true, Int.reduceEq, Int.reduceLT, Int.reduceLE, Int.reduceNeg, not_false_eq_true, and_self, Zeo, Zep, Int.natCast_one, Int.cast_ofNat_Int, not_true_eq_false, decide_true, decide_false, true_implies, false_implies, Int.toNat_zero, List.length_cons, List.length_nil, Nat.zero_add, mb, Nat.reduceBEq, Bool.false_and, Bool.and_false, Zeq, tys, stb, Zer, Zes, Zet, Zeu, Zev, Zew, Bool.or_false, Bool.false_or, Bool.true_and, Bool.or_true, Bool.true_or, Zex, Zey, indexI_call ws c hc hl, c0]
    simp only [oneOr, sealDepth, sealV_bool, h, decide_false]
def clsN (c : Nat) : Int := if 97 ≤ c ∧ c ≤ 122 then 2 else if 48 ≤ c ∧ c ≤ 57 then 3 else if c = 32 then 1 else if c = 95 then 4 else if c = 39 then 5 else 0
def clsL : List Int := (List.range 256).map clsN

end Go.Proofs.YtbikmhpobflfeaaDoor
namespace Go.Proofs.YtbikmhpobflfeaaDoor
open Go.Ab
set_option maxRecDepth 100000
set_option linter.unusedSimpArgs false
set_option linter.unusedVariables false
theorem classes_call (σ : S) : callFn env (ev env) 73 [] σ = some (.agg (clsL.map (V.int .i64)), σ) := row_of_run rfl rfl rfl (k := 2000) (by rw [← runQ_eq]; kernel_rfl) σ

end Go.Proofs.YtbikmhpobflfeaaDoor
namespace Go.Proofs.YtbikmhpobflfeaaDoor
open Go.Ab
set_option maxRecDepth 100000
set_option linter.unusedSimpArgs false
set_option linter.unusedVariables false
/-! ### the scanner's runs -/
theorem at98 : env.P.funcs[98]? = some Tryd.f98 := by kernel_rfl
theorem u88 : env.P.underlying 88 = some (.array 256 87) := by kernel_rfl
theorem clsL_len : clsL.length = 256 := by kernel_rfl
theorem clsL_get (c : UInt8) : clsL.getD c.toNat 0 = clsN c.toNat := by
  have := c.toNat_lt
  simp [clsL, List.getD, this]
/-- the scanner's object -/
def scnL (s : List UInt8) : List V := .str s :: .int .i64 0 :: clsL.map (V.int .i64)
theorem scn_cls (h : List AObj) (p : Nat) (s : List UInt8) (hp : h[p]? = some (.cells (scnL s) 91)) (c : UInt8) : (loadCellsV h 1 (.ptr p (2 + c.toNat))).bind (·[0]?) = some (.int .i64 (clsN c.toNat)) := by
  have hc := c.toNat_lt
  have hl := clsL_len
  rw [Zdk, hp]
  simp only [Zdl, Option.bind_some]
  have e : (scnL s)[2 + c.toNat]? = (clsL.map (V.int .i64))[c.toNat]? := by
    unfold scnL
    rw [show 2 + c.toNat = c.toNat + 1 + 1 by omega]
    simp
  rw [e, Zek, if_pos (by omega), clsL_get]
theorem scn_str (h : List AObj) (p : Nat) (s : List UInt8) (hp : h[p]? = some (.cells (scnL s) 91)) : (loadCellsV h 1 (.ptr p 0)).bind (·[0]?) = some (.str s) := by
  rw [Zdk, hp]; rfl
theorem aload9 (h : List AObj) (p : V) : aload env h 9 p = (loadCellsV h 1 p).bind (·[0]?) := aload_one (by kernel_rfl)
theorem idx_cls (p : Nat) (c : UInt8) : idxO (some (.array 256 87)) (sz env) (some (.ptr p 2)) (some (.int .u8 c.toNat)) = some (.ptr p (2 + c.toNat)) := by
  have hc := c.toNat_lt
  simp [idxO, s87, vIndexArr]
  omega
/-- where a run of some classes ends -/
def runW (s : List UInt8) (cs : List Int) : Nat → Nat → Nat
  | 0, i => i
  | m + 1, i => if clsN (s.getD i 0).toNat ∈ cs then runW s cs m (i + 1) else i
def endW (s : List UInt8) (cs : List Int) (i : Nat) : Nat := runW s cs (s.length - i) i

end Go.Proofs.YtbikmhpobflfeaaDoor
namespace Go.Proofs.YtbikmhpobflfeaaDoor
open Go.Ab
set_option maxRecDepth 100000
set_option linter.unusedSimpArgs false
set_option linter.unusedVariables false
theorem fo0 : fldOff env 91 0 = some 0 := by kernel_rfl
theorem fo2 : fldOff env 91 2 = some 2 := by kernel_rfl
theorem run_loop (s : List UInt8) (hl : s.length ≤ 2 ^ 30) (L : List AObj) (ts : List Nat) (p : Nat) (hp : L[p]? = some (.cells (scnL s) 91)) (cs : List Int) (c : RCap) (hc : ∀ k e s, c ≠ .tok k e s) (hcl : cs.length ≤ 1000) (Q : Post) (c2 : Code) (e : Nat)
    (h2 : ∀ T, T 1 = .int .i64 (e : Nat) → G env 98 none 32 Q [] c2 T [] ⟨L, ts⟩) (T : Tm) (i0 : Nat) (h0 : i0 ≤ s.length) (he : runW s cs (s.length - i0) i0 = e)
    (a0 : T 0 = .ptr p 0) (a1 : T 1 = .int .i64 (i0 : Nat)) (a2 : T 2 = .row (cs.map (V.int .i64)) cs.length c) :
    wpLoop env 98 none 32 (loopB 0 (bodyOf Tryd.f98)) T [] ⟨L, ts⟩ (Kt.post env 98 none 32 Q [.blk 0, .code c2]) := by
  simp only [bodyOf, Tryd.f98, Option.getD_some, loopB, blkC, Option.or, Nat.reduceEqDiff, if_false, if_true, reduceIte]
  refine loop_rule (fun m T D σ => D = [] ∧ σ = ⟨L, ts⟩ ∧ T 0 = .ptr p 0 ∧ T 2 = .row (cs.map (V.int .i64)) cs.length c ∧ ∃ i : Nat, T 1 = .int .i64 i ∧ i ≤ s.length ∧ m = s.length - i ∧ runW s cs (s.length - i) i = e) ?_ _ _ _ _ ⟨rfl, rfl, a0, a2, i0, a1, h0, rfl, he⟩
  clear a0 a1 a2 he h0 i0 T
  rintro m T D σ ⟨rfl, rfl, t0, t2, i, t1, hi, rfl, he⟩
  refine G_start ?_
  by_cases hlt : i < s.length
  · have c1 : (i : Int) < (s.length : Int) := by omega
    have c2' : (0 : Int) ≤ (i : Int) ∧ (i : Int) < (s.length : Int) := by omega
    have e1 : IntKind.i64.wrap ((i : Int) + 1) = ((i + 1 : Nat) : Int) := by rw [wrap_i64 (by omega) (by omega)]; omega
    obtain ⟨q, hq⟩ : ∃ q, s.length - i = q + 1 := ⟨s.length - i - 1, by omega⟩
    have hq2 : q = s.length - (i + 1) := by omega
    have hstep : runW s cs (s.length - i) i = if clsN (s.getD i 0).toNat ∈ cs then runW s cs q (i + 1) else i := by rw [hq]; rfl
    rw [hstep] at he
    by_cases hn : clsN (s.getD i 0).toNat ∈ cs
    · rw [if_pos hn, hq2] at he
      simp -implicitDefEqProofs only [Zaa, Zab, Zac, Zad, Zae, Zaf, Zag, Zah, Zai, Zaj, Zak, Zal, Zam, Zan, Zao, Zap, Zaq, Zar, Zas, Zat, Zau, Zav, Zaw, Zax, Zay, Zaz, Zba, Zbb, Zbc, Zbd, Zbe, Zbf, Zbg, Zbh, Zbi, Zbj, Zbk, Zbl, Zbm, Zbn, Zbo, Zbp, Zbq, Zbr, Zbs, Zbt, Zbu, Zbv, Zbw, Zbx, Zby, Zbz, Zca, Zcb, Zcc, Zcd, Zce, Zcf, Zcg, evalT, Zch, Nat.reduceLT, Nat.reduceEqDiff, if_true, if_false, reduceIte, true_and, Zci, Zcj, map_ite', Zck, bind_ite', Zcl, Zcm, Zcn, Zco, Zcp, Zcq, Zcr, Zcs, Zct, Zcu, Zcv, Zcw, Zcx, Zcy, Zcz, Zda, Zdb, Zdc, Zdd, Zde, Zdf, Zdg, ofVal, ofCell, argT, List.getD_cons_zero, List.getD_cons_succ, List.getElem?_toArray, List.getElem?_cons_zero, List.getElem?_cons_succ, List.nil_append, List.cons_append, List.append_nil, resT, Zdh, Zdi, Nat.mul_one, Zdj, Zdk, Zdl, Zdm, Zdn, Zdo, Zdp, Zdq, Zdr, Zds, Zdt, setT, Zdu, Zdv, Zdw, Zdx, Zdy, List.append_eq, Zdz, Zea, Zeb, Zec, Zed, Zee, Zef, Zeg, Zeh, Nat.add_zero, Zei, Zej, Zek, Zel, Zem, Zen, Int.toNat_natCast, Bool.false_eq_true, Int.reduceEq, Int.reduceLT, Int.reduceLE, Int.reduceNeg, not_false_eq_true, and_self, Zeo, Zep, Int.natCast_one, Int.cast_ofNat_Int, not_true_eq_false, decide_true, decide_false, true_implies, false_implies, Int.toNat_zero, List.length_cons, List.length_nil, Nat.zero_add, mb, Nat.reduceBEq, Bool.false_and, Bool.and_false, Zeq, tys, stb, Zer, Zes, Zet, Zeu, Zev, Zew, Bool.or_false, Bool.false_or, Bool.true_and, Bool.or_true, Bool.true_or, Zex, Zey, t0, t1, t2, c1, c2', e1, opT_nilCheck, nilO_ptr, fo0, fo2, aload9, aload87, scn_str L p s hp, scn_cls L p s hp, u88, idx_cls, len_str, opT_index, indexO_str u9, containsI_call cs c hc hcl, hn, Int.toNat_natCast, Nat.zero_add]
      exact ⟨by kernel_rfl, s.length - (i + 1), by omega, i + 1, rfl, by omega, rfl, he⟩
    · rw [if_neg hn] at he
      subst he
      simp -implicitDefEqProofs only [Zaa, Zab, Zac, Zad, Zae, Zaf, Zag, Zah, Zai, Zaj, Zak, Zal, Zam, Zan, Zao, Zap, Zaq, Zar, Zas, Zat, Zau, Zav, Zaw, Zax, Zay, Zaz, Zba, Zbb, Zbc, Zbd, Zbe, Zbf, Zbg, Zbh, Zbi, Zbj, Zbk, Zbl, Zbm, Zbn, Zbo, Zbp, Zbq, Zbr, Zbs, Zbt, Zbu, Zbv, Zbw, Zbx, Zby, Zbz, Zca, Zcb, Zcc, Zcd, Zce, Zcf, Zcg, evalT, Zch, Nat.reduceLT, Nat.reduceEqDiff, if_true, if_false, reduceIte, true_and, Zci, Zcj, map_ite', Zck, bind_ite', Zcl, Zcm, Zcn, Zco, Zcp, Zcq, Zcr, Zcs, Zct, Zcu, Zcv, Zcw, Zcx, Zcy, Zcz, Zda, Zdb, Zdc, Zdd, Zde, Zdf, Zdg, ofVal, ofCell, argT, List.getD_cons_zero, List.getD_cons_succ, List.getElem?_toArray, List.getElem?_cons_zero, List.getElem?_cons_succ, List.nil_append, List.cons_append, List.append_nil, resT, Zdh, Zdi, Nat.mul_one, Zdj, Zdk, Zdl, Zdm, Zdn, Zdo, Zdp, Zdq, Zdr, Zds, Zdt, setT, Zdu, Zdv, Zdw, Zdx, Zdy, List.append_eq, Zdz, Zea, Zeb, Zec, Zed, Zee, Zef, Zeg, Zeh, Nat.add_zero, Zei, Zej, Zek, Zel, Zem, Zen, Int.toNat_natCast, Bool.false_eq_true, Int.reduceEq, Int.reduceLT, Int.reduceLE, Int.reduceNeg, not_false_eq_true, and_self, Zeo, Zep, Int.natCast_one, Int.cast_ofNat_Int, not_true_eq_false, decide_true, decide_false, true_implies, false_implies, Int.toNat_zero, List.length_cons, List.length_nil, Nat.zero_add, mb, Nat.reduceBEq, Bool.false_and, Bool.and_false, Zeq, tys, stb, Zer, Zes, Zet, Zeu, Zev, Zew, Bool.or_false, Bool.false_or, Bool.true_and, Bool.or_true, Bool.true_or, Zex, Zey, t0, t1, t2, c1, c2', e1, opT_nilCheck, nilO_ptr, fo0, fo2, aload9, aload87, scn_str L p s hp, scn_cls L p s hp, u88, idx_cls, len_str, opT_index, indexO_str u9, containsI_call cs c hc hcl, hn, Int.toNat_natCast, Nat.zero_add]
      exact ⟨by kernel_rfl, h2 _ t1⟩
  · have hi2 : i = s.length := by omega
    subst hi2
    have c1 : ¬ (s.length : Int) < (s.length : Int) := by omega
    rw [Nat.sub_self] at he
    simp only [runW] at he
    subst he
    simp -implicitDefEqProofs only [Zaa, Zab, Zac, Zad, Zae, Zaf, Zag, Zah, Zai, Zaj, Zak, Zal, Zam, Zan, Zao, Zap, Zaq, Zar, Zas, Zat, Zau, Zav, Zaw, Zax, Zay, Zaz, Zba, Zbb, Zbc, Zbd, Zbe, Zbf, Zbg, Zbh, Zbi, Zbj, Zbk, Zbl, Zbm, Zbn, Zbo, Zbp, Zbq, Zbr, Zbs, Zbt, Zbu, Zbv, Zbw, Zbx, Zby, Zbz, Zca, Zcb, Zcc, Zcd, Zce, Zcf, Zcg, evalT, Zch, Nat.reduceLT, Nat.reduceEqDiff, if_true, if_false, reduceIte, true_and, Zci, Zcj, map_ite', Zck, bind_ite', Zcl, Zcm, Zcn, Zco, Zcp, Zcq, Zcr, Zcs, Zct, Zcu, Zcv, Zcw, Zcx, Zcy, Zcz, Zda, Zdb, Zdc, Zdd, Zde, Zdf, Zdg, ofVal, ofCell, argT, List.getD_cons_zero, List.getD_cons_succ, List.getElem?_toArray, List.getElem?_cons_zero, List.getElem?_cons_succ, List.nil_append, List.cons_append, List.append_nil, resT, Zdh, Zdi, Nat.mul_one, Zdj, Zdk, Zdl, Zdm, Zdn, Zdo, Zdp, Zdq, Zdr, Zds, Zdt, setT, Zdu, Zdv, Zdw, Zdx, Zdy, List.append_eq, Zdz, Zea, Zeb, Zec, Zed, Zee, Zef, Zeg, Zeh, Nat.add_zero, Zei, Zej, Zek, Zel, Zem, Zen, Int.toNat_natCast, Bool.false_eq_true, Int.reduceEq, Int.reduceLT, Int.reduceLE, Int.reduceNeg, not_false_eq_true, and_self, Zeo, Zep, Int.natCast_one, Int.cast_ofNat_Int, not_true_eq_false, decide_true, decide_false, true_implies, false_implies, Int.toNat_zero, List.length_cons, List.length_nil, Nat.zero_add, mb, Nat.reduceBEq, Bool.false_and, Bool.and_false, Zeq, tys, stb, Zer, Zes, Zet, Zeu, Zev, Zew, Bool.or_false, Bool.false_or, Bool.true_and, Bool.or_true, Bool.true_or, Zex, Zey, t0, t1, t2, c1, opT_nilCheck, nilO_ptr, fo0, fo2, aload9, scn_str L p s hp, len_str]
    exact ⟨by kernel_rfl, h2 _ t1⟩
theorem run_call (s : List UInt8) (hl : s.length ≤ 2 ^ 30) (L : List AObj) (ts : List Nat) (p : Nat) (hp : L[p]? = some (.cells (scnL s) 91)) (cs : List Int) (n : Nat) (hn : n = cs.length) (c : RCap) (hc : ∀ k e s, c ≠ .tok k e s) (hcl : cs.length ≤ 1000) (i : Nat) (hi : i ≤ s.length) :
    callFn env (ev env) 98 [.ptr p 0, .int .i64 (i : Nat), .row (cs.map (V.int .i64)) n c] ⟨L, ts⟩ = some (.int .i64 (endW s cs i : Nat), ⟨L, ts⟩) := by
  subst hn
  refine callFn_eq rfl rfl at98 rfl (by simp [Tryd.f98]) (by simp [Tryd.f98]) (G_start ?_)
  simp -implicitDefEqProofs only [Tryd.f98, Zaa, Zab, Zac, Zad, Zae, Zaf, Zag, Zah, Zai, Zaj, Zak, Zal, Zam, Zan, Zao, Zap, Zaq, Zar, Zas, Zat, Zau, Zav, Zaw, Zax, Zay, Zaz, Zba, Zbb, Zbc, Zbd, Zbe, Zbf, Zbg, Zbh, Zbi, Zbj, Zbk, Zbl, Zbm, Zbn, Zbo, Zbp, Zbq, Zbr, Zbs, Zbt, Zbu, Zbv, Zbw, Zbx, Zby, Zbz, Zca, Zcb, Zcc, Zcd, Zce, Zcf, Zcg, evalT, Zch, Nat.reduceLT, Nat.reduceEqDiff, if_true, if_false, reduceIte, true_and, Zci, Zcj, map_ite', Zck, bind_ite', Zcl, Zcm, Zcn, Zco, Zcp, Zcq, Zcr, Zcs, Zct, Zcu, Zcv, Zcw, Zcx, Zcy, Zcz, Zda, Zdb, Zdc, Zdd, Zde, Zdf, Zdg, ofVal, ofCell, argT, List.getD_cons_zero, List.getD_cons_succ, List.getElem?_toArray, List.getElem?_cons_zero, List.getElem?_cons_succ, List.nil_append, List.cons_append, List.append_nil, resT, Zdh, Zdi, Nat.mul_one, Zdj, Zdk, Zdl, Zdm, Zdn, Zdo, Zdp, Zdq, Zdr, Zds, Zdt, setT, Zdu, Zdv, Zdw, Zdx, Zdy, List.append_eq, Zdz, Zea, Zeb, Zec, Zed, Zee, Zef, Zeg, Zeh, Nat.add_zero, Zei, Zej, Zek, Zel, Zem, Zen, Int.toNat_natCast, Bool.false_eq_true, Int.reduceEq, Int.reduceLT, Int.reduceLE, Int.reduceNeg, not_false_eq_true, and_self, Zeo, Zep, Int.natCast_one, Int.cast_ofNat_Int, not_true_eq_false, decide_true, decide_false, true_implies, false_implies, Int.toNat_zero, List.length_cons, List.length_nil, Nat.zero_add, mb, Nat.reduceBEq, Bool.false_and, Bool.and_false, Zeq, tys, stb, Zer, Zes, Zet, Zeu, Zev, Zew, Bool.or_false, Bool.false_or, Bool.true_and, Bool.or_true, Bool.true_or, Zex, Zey]
  refine run_loop s hl L ts p hp cs c hc hcl _ _ (endW s cs i) (fun T t1 => ?_) _ i hi rfl rfl rfl rfl
  simp -implicitDefEqProofs only [Zaa, Zab, Zac, Zad, Zae, Zaf, Zag, Zah, Zai, Zaj, Zak, Zal, Zam, Zan, Zao, Zap, Zaq, Zar, Zas, Zat, Zau, Zav, Zaw, Zax, Zay, Zaz, Zba, Zbb, Zbc, Zbd, Zbe, Zbf, Zbg, Zbh, Zbi, Zbj, Zbk, Zbl, Zbm, Zbn, Zbo, Zbp, Zbq, Zbr, Zbs, Zbt, Zbu, Zbv, Zbw, Zbx, Zby, Zbz, Zca, Zcb, Zcc, Zcd, Zce, Zcf, Zcg, evalT, Zch, Nat.reduceLT, Nat.reduceEqDiff, if_true, if_false, reduceIte, true_and, Zci, Zcj, map_ite', Zck, bind_ite', Zcl, Zcm, Zcn, Zco, Zcp, Zcq, Zcr, Zcs, Zct, Zcu, Zcv, Zcw, Zcx, Zcy, Zcz, Zda, Zdb, Zdc, Zdd, Zde, Zdf, Zdg, ofVal, ofCell, argT, List.getD_cons_zero, List.getD_cons_succ, List.getElem?_toArray, List.getElem?_cons_zero, List.getElem?_cons_succ, List.nil_append, List.cons_append, List.append_nil, resT, Zdh, Zdi, Nat.mul_one, Zdj, Zdk, Zdl, Zdm, Zdn, Zdo, Zdp, Zdq, Zdr, Zds, Zdt, setT, Zdu, Zdv, Zdw, Zdx, Zdy, List.append_eq, Zdz, Zea, Zeb, Zec, Zed, Zee, Zef, Zeg, Zeh, Nat.add_zero, Zei, Zej, Zek, Zel, Zem, Zen, Int.toNat_natCast, Bool.false_eq_true, Int.reduceEq, Int.reduceLT, Int.reduceLE, Int.reduceNeg, not_false_eq_true, and_self, Zeo, Zep, Int.natCast_one, Int.cast_ofNat_Int, not_true_eq_false, decide_true, decide_false, true_implies, false_implies, Int.toNat_zero, List.length_cons, List.length_nil, Nat.zero_add, mb, Nat.reduceBEq, Bool.false_and, Bool.and_false, Zeq, tys, stb, Zer, Zes, Zet, Zeu, Zev, Zew, Bool.or_false, Bool.false_or, Bool.true_and, Bool.or_true, Bool.true_or, Zex, Zey, t1, oneOr]

end Go.Proofs.YtbikmhpobflfeaaDoor
namespace Go.Proofs.YtbikmhpobflfeaaDoor
open Go.Ab
set_option maxRecDepth 100000
set_option linter.unusedSimpArgs false
set_option linter.unusedVariables false
/-- a part of a string -/
def subS (s : List UInt8) (i j : Nat) : List UInt8 := (s.drop i).take (j - i)
theorem slice_s (s : List UInt8) (i j : Nat) (hij : i ≤ j) (hj : j ≤ s.length) : sliceO env 9 (.str s) (some (.int .i64 (i : Nat))) (some (.int .i64 (j : Nat))) none = some (.str (subS s i j)) := by
  simp [sliceO, u9, vSlice, vBound, subS, hij, hj]
theorem at122 : env.P.funcs[122]? = some Tryd.f122 := by kernel_rfl
theorem signs16 : signsW.length = 16 := by kernel_rfl
theorem drop_mem {ws : List (List UInt8)} {j : Nat} (hj : j < ws.length) (x : List UInt8) : x ∈ ws.drop j ↔ (ws.getD j [] = x ∨ x ∈ ws.drop (j + 1)) := by
  rw [List.drop_eq_getElem_cons hj, List.mem_cons]
  simp [List.getD, hj, eq_comm]
theorem sign_in (s : List UInt8) (hl : s.length ≤ 2 ^ 30) (L : List AObj) (ts : List Nat) (p : Nat) (hp : L[p]? = some (.cells (scnL s) 91)) (i w : Nat) (hw : w ≤ 2) (hi : i + w ≤ s.length) (Q : Post) (ks : List Kt)
    (hf : subS s i (i + w) ∈ signsW → ∀ T, T 4 = .str (subS s i (i + w)) → T 5 = .bool true → G env 122 none 41 Q ks .ret T [] ⟨L, ts⟩)
    (h2 : subS s i (i + w) ∉ signsW → ∀ T, T 0 = .ptr p 0 → T 1 = .int .i64 (i : Nat) → T 6 = .int .i64 (w : Nat) → G env 122 none 41 Q ks .skip T [] ⟨L, ts⟩) (T : Tm)
    (a0 : T 0 = .ptr p 0) (a1 : T 1 = .int .i64 (i : Nat)) (a6 : T 6 = .int .i64 (w : Nat)) (a22 : T 22 = .row (signsW.map V.str) 16 .unk) (a23 : T 23 = .int .i64 16) (a24 : T 24 = .int .i64 (0 : Nat)) :
    wpLoop env 122 none 41 (loopB 2 (bodyOf Tryd.f122)) T [] ⟨L, ts⟩ (Kt.post env 122 none 41 Q (.blk 2 :: ks)) := by
  simp only [bodyOf, Tryd.f122, Option.getD_some, loopB, blkC, Option.or, Nat.reduceEqDiff, if_false, if_true, reduceIte]
  refine loop_rule (fun m T D σ => D = [] ∧ σ = ⟨L, ts⟩ ∧ T 0 = .ptr p 0 ∧ T 1 = .int .i64 (i : Nat) ∧ T 6 = .int .i64 (w : Nat) ∧ T 22 = .row (signsW.map V.str) 16 .unk ∧ T 23 = .int .i64 16 ∧ ∃ j : Nat, T 24 = .int .i64 j ∧ j ≤ 16 ∧ m = 16 - j ∧ (subS s i (i + w) ∈ signsW ↔ subS s i (i + w) ∈ signsW.drop j)) ?_ _ _ _ _ ⟨rfl, rfl, a0, a1, a6, a22, a23, 0, a24, Nat.zero_le _, rfl, by rw [List.drop_zero]⟩
  clear a0 a1 a6 a22 a23 a24 T
  rintro m T D σ ⟨rfl, rfl, t0, t1, t6, t22, t23, j, t24, hj, rfl, hm⟩
  refine G_start ?_
  have h16 := signs16
  have e2 : IntKind.i64.wrap ((i : Int) + (w : Int)) = ((i + w : Nat) : Int) := by rw [wrap_i64 (by omega) (by omega)]; omega
  by_cases hlt : j < 16
  · have c1 : (j : Int) < 16 := by omega
    have c3 : (0 : Int) ≤ (j : Int) ∧ (j : Int) < (16 : Nat) := by omega
    have c4 : j < signsW.length := by omega
    have e1 : IntKind.i64.wrap ((j : Int) + 1) = ((j + 1 : Nat) : Int) := by rw [wrap_i64 (by omega) (by omega)]; omega
    have hd := drop_mem c4 (subS s i (i + w))
    by_cases hn : signsW.getD j [] = subS s i (i + w)
    · have hin : subS s i (i + w) ∈ signsW := hm.2 (hd.2 (.inl hn))
      simp -implicitDefEqProofs only [Zaa, Zab, Zac, Zad, Zae, Zaf, Zag, Zah, Zai, Zaj, Zak, Zal, Zam, Zan, Zao, Zap, Zaq, Zar, Zas, Zat, Zau, Zav, Zaw, Zax, Zay, Zaz, Zba, Zbb, Zbc, Zbd, Zbe, Zbf, Zbg, Zbh, Zbi, Zbj, Zbk, Zbl, Zbm, Zbn, Zbo, Zbp, Zbq, Zbr, Zbs, Zbt, Zbu, Zbv, Zbw, Zbx, Zby, Zbz, Zca, Zcb, Zcc, Zcd, Zce, Zcf, Zcg, evalT, Zch, Nat.reduceLT, Nat.reduceEqDiff, if_true, if_false, reduceIte, true_and, Zci, Zcj, map_ite', Zck, bind_ite', Zcl, Zcm, Zcn, Zco, Zcp, Zcq, Zcr, Zcs, Zct, Zcu, Zcv, Zcw, Zcx, Zcy, Zcz, Zda, Zdb, Zdc, Zdd, Zde, Zdf, Zdg, ofVal, ofCell, argT, List.getD_cons_zero, List.getD_cons_succ, List.getElem?_toArray, List.getElem?_cons_zero, List.getElem?_cons_succ, List.nil_append, List.cons_append, List.append_nil, resT, Zdh, Zdi, Nat.mul_one, Zdj, Zdk, Zdl, Zdm, Zdn, Zdo, Zdp, Zdq, Zdr, Zds, Zdt, setT, Zdu, Zdv, Zdw, Zdx, Zdy, List.append_eq, Zdz, Zea, Zeb, Zec, Zed, Zee, Zef, Zeg, Zeh, Nat.add_zero, Zei, Zej, Zek, Zel, Zem, Zen, Int.toNat_natCast, Bool.false_eq_true, Int.reduceEq, Int.reduceLT, Int.reduceLE, Int.reduceNeg, not_false_eq_true, and_self, Zeo, Zep, Int.natCast_one, Int.cast_ofNat_Int, not_true_eq_false, decide_true, decide_false, true_implies, false_implies, Int.toNat_zero, List.length_cons, List.length_nil, Nat.zero_add, mb, Nat.reduceBEq, Bool.false_and, Bool.and_false, Zeq, tys, stb, Zer, Zes, Zet, Zeu, Zev, Zew, Bool.or_false, Bool.false_or, Bool.true_and, Bool.or_true, Bool.true_or, Zex, Zey, t0, t1, t6, t22, t23, t24, c1, c3, c4, e1, e2, opT_nilCheck, nilO_ptr, fo0, aload9, scn_str L p s hp, opT_slice, optO_none, optO_some, slice_s s i (i + w) (Nat.le_add_right _ _) hi, strs_get, vBin_seql, hn]
      refine hf hin _ ?_ ?_ <;> rfl
    · have hm2 : subS s i (i + w) ∈ signsW ↔ subS s i (i + w) ∈ signsW.drop (j + 1) := hm.trans (hd.trans ⟨fun h => h.resolve_left hn, .inr⟩)
      simp -implicitDefEqProofs only [Zaa, Zab, Zac, Zad, Zae, Zaf, Zag, Zah, Zai, Zaj, Zak, Zal, Zam, Zan, Zao, Zap, Zaq, Zar, Zas, Zat, Zau, Zav, Zaw, Zax, Zay, Zaz, Zba, Zbb, Zbc, Zbd, Zbe, Zbf, Zbg, Zbh, Zbi, Zbj, Zbk, Zbl, Zbm, Zbn, Zbo, Zbp, Zbq, Zbr, Zbs, Zbt, Zbu, Zbv, Zbw, Zbx, Zby, Zbz, Zca, Zcb, Zcc, Zcd, Zce, Zcf, Zcg, evalT, Zch, Nat.reduceLT, Nat.reduceEqDiff, if_true, if_false, reduceIte, true_and, Zci, Zcj, map_ite', Zck, bind_ite', Zcl, Zcm, Zcn, Zco, Zcp, Zcq, Zcr, Zcs, Zct, Zcu, Zcv, Zcw, Zcx, Zcy, Zcz, Zda, Zdb, Zdc, Zdd, Zde, Zdf, Zdg, ofVal, ofCell, argT, List.getD_cons_zero, List.getD_cons_succ, List.getElem?_toArray, List.getElem?_cons_zero, List.getElem?_cons_succ, List.nil_append, List.cons_append, List.append_nil, resT, Zdh, Zdi, Nat.mul_one, Zdj, Zdk, Zdl, Zdm, Zdn, Zdo, Zdp, Zdq, Zdr, Zds, Zdt, setT, Zdu, Zdv, Zdw, Zdx, Zdy, List.append_eq, Zdz, Zea, Zeb, Zec, Zed, Zee, Zef, Zeg, Zeh, Nat.add_zero, Zei, Zej, Zek, Zel, Zem, Zen, Int.toNat_natCast, Bool.false_eq_true, Int.reduceEq, Int.reduceLT, Int.reduceLE, Int.reduceNeg, not_false_eq_true, and_self, Zeo, Zep, Int.natCast_one, Int.cast_ofNat_Int, not_true_eq_false, decide_true, decide_false, true_implies, false_implies, Int.toNat_zero, List.length_cons, List.length_nil, Nat.zero_add, mb, Nat.reduceBEq, Bool.false_and, Bool.and_false, Zeq, tys, stb, Zer, Zes, Zet, Zeu, Zev, Zew, Bool.or_false, Bool.false_or, Bool.true_and, Bool.or_true, Bool.true_or, Zex, Zey, t0, t1, t6, t22, t23, t24, c1, c3, c4, e1, e2, opT_nilCheck, nilO_ptr, fo0, aload9, scn_str L p s hp, opT_slice, optO_none, optO_some, slice_s s i (i + w) (Nat.le_add_right _ _) hi, strs_get, vBin_seql, hn]
      exact ⟨16 - (j + 1), by omega, j + 1, rfl, by omega, rfl, hm2⟩
  · have hj2 : j = 16 := by omega
    subst hj2
    have hni : subS s i (i + w) ∉ signsW := by
      rw [hm, List.drop_of_length_le (by omega)]; exact List.not_mem_nil
    have c1 : ¬ ((16 : Nat) : Int) < 16 := by omega
    simp -implicitDefEqProofs only [Zaa, Zab, Zac, Zad, Zae, Zaf, Zag, Zah, Zai, Zaj, Zak, Zal, Zam, Zan, Zao, Zap, Zaq, Zar, Zas, Zat, Zau, Zav, Zaw, Zax, Zay, Zaz, Zba, Zbb, Zbc, Zbd, Zbe, Zbf, Zbg, Zbh, Zbi, Zbj, Zbk, Zbl, Zbm, Zbn, Zbo, Zbp, Zbq, Zbr, Zbs, Zbt, Zbu, Zbv, Zbw, Zbx, Zby, Zbz, Zca, Zcb, Zcc, Zcd, Zce, Zcf, Zcg, evalT, Zch, Nat.reduceLT, Nat.reduceEqDiff, if_true, if_false, reduceIte, true_and, Zci, Zcj, map_ite', Zck, bind_ite', Zcl, Zcm, Zcn, Zco, Zcp, Zcq, Zcr, Zcs, Zct, Zcu, Zcv, Zcw, Zcx, Zcy, Zcz, Zda, Zdb, Zdc, Zdd, Zde, Zdf, Zdg, ofVal, ofCell, argT, List.getD_cons_zero, List.getD_cons_succ, List.getElem?_toArray, List.getElem?_cons_zero, List.getElem?_cons_succ, List.nil_append, List.cons_append, List.append_nil, resT, Zdh, Zdi, Nat.mul_one, Zdj, Zdk, Zdl, Zdm, Zdn, Zdo, Zdp, Zdq, Zdr, Zds, Zdt, setT, Zdu, Zdv, Zdw, Zdx, Zdy, List.append_eq, Zdz, Zea, Zeb, Zec, Zed, Zee, Zef, Zeg, Zeh, Nat.add_zero, Zei, Zej, Zek, Zel, Zem, Zen, Int.toNat_natCast, Bool.false_eq_true, Int.reduceEq, Int.reduceLT, Int.reduceLE, Int.reduceNeg, not_false_eq_true, and_self, Zeo, Zep, Int.natCast_one, Int.cast_ofNat_Int, not_true_eq_false, decide_true, decide_false, true_implies, false_implies, Int.toNat_zero, List.length_cons, List.length_nil, Nat.zero_add, mb, Nat.reduceBEq, Bool.false_and, Bool.and_false, Zeq, tys, stb, Zer, Zes, Zet, Zeu, Zev, Zew, Bool.or_false, Bool.false_or, Bool.true_and, Bool.or_true, Bool.true_or, Zex, Zey, t0, t1, t6, t22, t23, t24, c1]
    exact h2 hni _ t0 t1 t6

/-- the sign at a place, of no more than w bytes -/
def sgW (s : List UInt8) (i : Nat) : Nat → List UInt8 × Bool
  | 0 => ([], false)
  | w + 1 => if i + (w + 1) ≤ s.length ∧ subS s i (i + (w + 1)) ∈ signsW then (subS s i (i + (w + 1)), true) else sgW s i w
def sgV (r : List UInt8 × Bool) : V := .tup [.str r.1, .bool r.2]
theorem signat_call (s : List UInt8) (hl : s.length ≤ 2 ^ 30) (L : List AObj) (ts : List Nat) (p : Nat) (hp : L[p]? = some (.cells (scnL s) 91)) (i : Nat) (hi : i ≤ s.length) :
    callFn env (ev env) 122 [.ptr p 0, .int .i64 (i : Nat)] ⟨L, ts⟩ = some (sgV (sgW s i 2), ⟨L, ts⟩) := by
  refine callFn_eq rfl rfl at122 rfl (by simp [Tryd.f122]) (by simp [Tryd.f122]) (G_start ?_)
  simp -implicitDefEqProofs only [Tryd.f122, Zaa, Zab, Zac, Zad, Zae, Zaf, Zag, Zah, Zai, Zaj, Zak, Zal, Zam, Zan, Zao, Zap, Zaq, Zar, Zas, Zat, Zau, Zav, Zaw, Zax, Zay, Zaz, Zba, Zbb, Zbc, Zbd, Zbe, Zbf, Zbg, Zbh, Zbi, Zbj, Zbk, Zbl, Zbm, Zbn, Zbo, Zbp, Zbq, Zbr, Zbs, Zbt, Zbu, Zbv, Zbw, Zbx, Zby, Zbz, Zca, Zcb, Zcc, Zcd, Zce, Zcf, Zcg, evalT, Zch, Nat.reduceLT, Nat.reduceEqDiff, if_true, if_false, reduceIte, true_and, Zci, Zcj, map_ite', Zck, bind_ite', Zcl, Zcm, Zcn, Zco, Zcp, Zcq, Zcr, Zcs, Zct, Zcu, Zcv, Zcw, Zcx, Zcy, Zcz, Zda, Zdb, Zdc, Zdd, Zde, Zdf, Zdg, ofVal, ofCell, argT, List.getD_cons_zero, List.getD_cons_succ, List.getElem?_toArray, List.getElem?_cons_zero, List.getElem?_cons_succ, List.nil_append, List.cons_append, List.append_nil, resT, Zdh, Zdi, Nat.mul_one, Zdj, Zdk, Zdl, Zdm, Zdn, Zdo, Zdp, Zdq, Zdr, Zds, Zdt, setT, Zdu, Zdv, Zdw, Zdx, Zdy, List.append_eq, Zdz, Zea, Zeb, Zec, Zed, Zee, Zef, Zeg, Zeh, Nat.add_zero, Zei, Zej, Zek, Zel, Zem, Zen, Int.toNat_natCast, Bool.false_eq_true, Int.reduceEq, Int.reduceLT, Int.reduceLE, Int.reduceNeg, not_false_eq_true, and_self, Zeo, Zep, Int.natCast_one, Int.cast_ofNat_Int, not_true_eq_false, decide_true, decide_false, true_implies, false_implies, Int.toNat_zero, List.length_cons, List.length_nil, Nat.zero_add, mb, Nat.reduceBEq, Bool.false_and, Bool.and_false, Zeq, tys, stb, Zer, Zes, Zet, Zeu, Zev, Zew, Bool.or_false, Bool.false_or, Bool.true_and, Bool.or_true, Bool.true_or, Zex, Zey]
  refine loop_rule (fun m T D σ => D = [] ∧ σ = ⟨L, ts⟩ ∧ T 0 = .ptr p 0 ∧ T 1 = .int .i64 (i : Nat) ∧ ∃ w : Nat, T 6 = .int .i64 w ∧ w ≤ 2 ∧ m = w ∧ sgW s i w = sgW s i 2) ?_ _ _ _ _ ⟨rfl, rfl, rfl, rfl, 2, rfl, Nat.le_refl _, rfl, rfl⟩
  rintro m T D σ ⟨rfl, rfl, t0, t1, w, t6, hw, rfl, hs⟩
  refine G_start ?_
  cases m with
  | zero =>
    have c1 : ¬ (0 : Int) < ((0 : Nat) : Int) := by omega
    simp -implicitDefEqProofs only [Zaa, Zab, Zac, Zad, Zae, Zaf, Zag, Zah, Zai, Zaj, Zak, Zal, Zam, Zan, Zao, Zap, Zaq, Zar, Zas, Zat, Zau, Zav, Zaw, Zax, Zay, Zaz, Zba, Zbb, Zbc, Zbd, Zbe, Zbf, Zbg, Zbh, Zbi, Zbj, Zbk, Zbl, Zbm, Zbn, Zbo, Zbp, Zbq, Zbr, Zbs, Zbt, Zbu, Zbv, Zbw, Zbx, Zby, Zbz, Zca, Zcb, Zcc, Zcd, Zce, Zcf, Zcg, evalT, Zch, Nat.reduceLT, Nat.reduceEqDiff, if_true, if_false, reduceIte, true_and, Zci, Zcj, map_ite', Zck, bind_ite', Zcl, Zcm, Zcn, Zco, Zcp, Zcq, Zcr, Zcs, Zct, Zcu, Zcv, Zcw, Zcx, Zcy, Zcz, Zda, Zdb, Zdc, Zdd, Zde, Zdf, Zdg, ofVal, ofCell, argT, List.getD_cons_zero, List.getD_cons_succ, List.getElem?_toArray, List.getElem?_cons_zero, List.getElem?_cons_succ, List.nil_append, List.cons_append, List.append_nil, resT, Zdh, Zdi, Nat.mul_one, Zdj, Zdk, Zdl, Zdm, Zdn, Zdo, Zdp, Zdq, Zdr, Zds, Zdt, setT, Zdu, Zdv, Zdw, Zdx, Zdy, List.append_eq, Zdz, Zea, Zeb, Zec, Zed, Zee, Zef, Zeg, Zeh, Nat.add_zero, Zei, Zej, Zek, Zel, Zem, Zen, Int.toNat_natCast, Bool.false_eq_true, Int.reduceEq, Int.reduceLT, Int.reduceLE, Int.reduceNeg, not_false_eq_true, and_self, Zeo, Zep, Int.natCast_one, Int.cast_ofNat_Int, not_true_eq_false, decide_true, decide_false, true_implies, false_implies, Int.toNat_zero, List.length_cons, List.length_nil, Nat.zero_add, mb, Nat.reduceBEq, Bool.false_and, Bool.and_false, Zeq, tys, stb, Zer, Zes, Zet, Zeu, Zev, Zew, Bool.or_false, Bool.false_or, Bool.true_and, Bool.or_true, Bool.true_or, Zex, Zey, t0, t1, t6, c1, oneOr]
    rw [← hs]; first | exact ⟨rfl, rfl⟩ | exact ⟨rfl, trivial⟩
  | succ w =>
    have c1 : (0 : Int) < ((w + 1 : Nat) : Int) := by omega
    have e1 : IntKind.i64.wrap (((w + 1 : Nat) : Int) - 1) = (w : Int) := by rw [wrap_i64 (by omega) (by omega)]; omega
    have e2 : IntKind.i64.wrap ((i : Int) + ((w + 1 : Nat) : Int)) = ((i + (w + 1) : Nat) : Int) := by rw [wrap_i64 (by omega) (by omega)]; omega
    by_cases h1 : i + (w + 1) ≤ s.length
    · have c2 : ¬ (s.length : Int) < ((i + (w + 1) : Nat) : Int) := by omega
      simp -implicitDefEqProofs only [Zaa, Zab, Zac, Zad, Zae, Zaf, Zag, Zah, Zai, Zaj, Zak, Zal, Zam, Zan, Zao, Zap, Zaq, Zar, Zas, Zat, Zau, Zav, Zaw, Zax, Zay, Zaz, Zba, Zbb, Zbc, Zbd, Zbe, Zbf, Zbg, Zbh, Zbi, Zbj, Zbk, Zbl, Zbm, Zbn, Zbo, Zbp, Zbq, Zbr, Zbs, Zbt, Zbu, Zbv, Zbw, Zbx, Zby, Zbz, Zca, Zcb, Zcc, Zcd, Zce, Zcf, Zcg, evalT, Zch, Nat.reduceLT, Nat.reduceEqDiff, if_true, if_false, reduceIte, true_and, Zci, Zcj, map_ite', Zck, bind_ite', Zcl, Zcm, Zcn, Zco, Zcp, Zcq, Zcr, Zcs, Zct, Zcu, Zcv, Zcw, Zcx, Zcy, Zcz, Zda, Zdb, Zdc, Zdd, Zde, Zdf, Zdg, ofVal, ofCell, argT, List.getD_cons_zero, List.getD_cons_succ, List.getElem?_toArray, List.getElem?_cons_zero, List.getElem?_cons_succ, List.nil_append, List.cons_append, List.append_nil, resT, Zdh, Zdi, Nat.mul_one, Zdj, Zdk, Zdl, Zdm, Zdn, Zdo, Zdp, Zdq, Zdr, Zds, Zdt, setT, Zdu, Zdv, Zdw, Zdx, Zdy, List.append_eq, Zdz, Zea, Zeb, Zec, Zed, Zee, Zef, Zeg, Zeh, Nat.add_zero, Zei, Zej, Zek, Zel, Zem, Zen, Int.toNat_natCast, Bool.false_eq_true, Int.reduceEq, Int.reduceLT, Int.reduceLE, Int.reduceNeg, not_false_eq_true, and_self, Zeo, Zep, Int.natCast_one, Int.cast_ofNat_Int, not_true_eq_false, decide_true, decide_false, true_implies, false_implies, Int.toNat_zero, List.length_cons, List.length_nil, Nat.zero_add, mb, Nat.reduceBEq, Bool.false_and, Bool.and_false, Zeq, tys, stb, Zer, Zes, Zet, Zeu, Zev, Zew, Bool.or_false, Bool.false_or, Bool.true_and, Bool.or_true, Bool.true_or, Zex, Zey, t0, t1, t6, c1, c2, e1, e2, opT_nilCheck, nilO_ptr, fo0, aload9, scn_str L p s hp, len_str, signs_call]
      refine sign_in s hl L ts p hp i (w + 1) hw h1 _ _ (fun hin T t4 t5 => ?_) (fun hni T t0 t1 t6 => ?_) _ ?_ ?_ ?_ ?_ ?_ ?_
      · have : sgW s i (w + 1) = (subS s i (i + (w + 1)), true) := if_pos ⟨h1, hin⟩
        simp -implicitDefEqProofs only [Zaa, Zab, Zac, Zad, Zae, Zaf, Zag, Zah, Zai, Zaj, Zak, Zal, Zam, Zan, Zao, Zap, Zaq, Zar, Zas, Zat, Zau, Zav, Zaw, Zax, Zay, Zaz, Zba, Zbb, Zbc, Zbd, Zbe, Zbf, Zbg, Zbh, Zbi, Zbj, Zbk, Zbl, Zbm, Zbn, Zbo, Zbp, Zbq, Zbr, Zbs, Zbt, Zbu, Zbv, Zbw, Zbx, Zby, Zbz, Zca, Zcb, Zcc, Zcd, Zce, Zcf, Zcg, evalT, Zch, Nat.reduceLT, Nat.reduceEqDiff, if_true, if_false, reduceIte, true_and, Zci, Zcj, map_ite', Zck, bind_ite', Zcl, Zcm, Zcn, Zco, Zcp, Zcq, Zcr, Zcs, Zct, Zcu, Zcv, Zcw, Zcx, Zcy, Zcz, Zda, Zdb, Zdc, Zdd, Zde, Zdf, Zdg, ofVal, ofCell, argT, List.getD_cons_zero, List.getD_cons_succ, List.getElem?_toArray, List.getElem?_cons_zero, List.getElem?_cons_succ, List.nil_append, List.cons_append, List.append_nil, resT, Zdh, Zdi, Nat.mul_one, Zdj, Zdk, Zdl, Zdm, Zdn, Zdo, Zdp, Zdq, Zdr, Zds, Zdt, setT, Zdu, Zdv, Zdw, Zdx, Zdy, List.append_eq, Zdz, Zea, Zeb, Zec, Zed, Zee, Zef, Zeg, Zeh, Nat.add_zero, Zei, Zej, Zek, Zel, Zem, Zen, Int.toNat_natCast, Bool.false_eq_true, Int.reduceEq, Int.reduceLT, Int.reduceLE, Int.reduceNeg, not_false_eq_true, and_self, Zeo, Zep, Int.natCast_one, Int.cast_ofNat_Int, not_true_eq_false, decide_true, decide_false, true_implies, false_implies, Int.toNat_zero, List.length_cons, List.length_nil, Nat.zero_add, mb, Nat.reduceBEq, Bool.false_and, Bool.and_false, Zeq, tys, stb, Zer, Zes, Zet, Zeu, Zev, Zew, Bool.or_false, Bool.false_or, Bool.true_and, Bool.or_true, Bool.true_or, Zex, Zey, t4, t5, oneOr]
        rw [← hs, this]; first | exact ⟨rfl, rfl⟩ | exact ⟨rfl, trivial⟩
      · have : sgW s i (w + 1) = sgW s i w := if_neg fun h => hni h.2
        simp -implicitDefEqProofs only [Zaa, Zab, Zac, Zad, Zae, Zaf, Zag, Zah, Zai, Zaj, Zak, Zal, Zam, Zan, Zao, Zap, Zaq, Zar, Zas, Zat, Zau, Zav, Zaw, Zax, Zay, Zaz, Zba, Zbb, Zbc, Zbd, Zbe, Zbf, Zbg, Zbh, Zbi, Zbj, Zbk, Zbl, Zbm, Zbn, Zbo, Zbp, Zbq, Zbr, Zbs, Zbt, Zbu, Zbv, Zbw, Zbx, Zby, Zbz, Zca, Zcb, Zcc, Zcd, Zce, Zcf, Zcg, evalT, Zch, Nat.reduceLT, Nat.reduceEqDiff, if_true, if_false, reduceIte, true_and, Zci, Zcj, map_ite', Zck, bind_ite', Zcl, Zcm, Zcn, Zco, Zcp, Zcq, Zcr, Zcs, Zct, Zcu, Zcv, Zcw, Zcx, Zcy, Zcz, Zda, Zdb, Zdc, Zdd, Zde, Zdf, Zdg, ofVal, ofCell, argT, List.getD_cons_zero, List.getD_cons_succ, List.getElem?_toArray, List.getElem?_cons_zero, List.getElem?_cons_succ, List.nil_append, List.cons_append, List.append_nil, resT, Zdh, Zdi, Nat.mul_one, Zdj, Zdk, Zdl, Zdm, Zdn, Zdo, Zdp, Zdq, Zdr, Zds, Zdt, setT, Zdu, Zdv, Zdw, Zdx, Zdy, List.append_eq, Zdz, Zea, Zeb, Zec, Zed, Zee, Zef, Zeg, Zeh, Nat.add_zero, Zei, Zej, Zek, Zel, Zem, Zen, Int.toNat_natCast, Bool.false_eq_true, Int.reduceEq, Int.reduceLT, Int.reduceLE, Int.reduceNeg, not_false_eq_true, and_self, Zeo, Zep, Int.natCast_one, Int.cast_ofNat_Int, not_true_eq_false, decide_true, decide_false, true_implies, false_implies, Int.toNat_zero, List.length_cons, List.length_nil, Nat.zero_add, mb, Nat.reduceBEq, Bool.false_and, Bool.and_false, Zeq, tys, stb, Zer, Zes, Zet, Zeu, Zev, Zew, Bool.or_false, Bool.false_or, Bool.true_and, Bool.or_true, Bool.true_or, Zex, Zey, t0, t1, t6, e1]
        exact ⟨w, by omega, w, rfl, by omega, rfl, this ▸ hs⟩
      all_goals first | exact t0 | exact t1 | exact t6 | rfl
    · have c2 : (s.length : Int) < ((i + (w + 1) : Nat) : Int) := by omega
      have : sgW s i (w + 1) = sgW s i w := if_neg fun h => h1 h.1
      simp -implicitDefEqProofs only [Zaa, Zab, Zac, Zad, Zae, Zaf, Zag, Zah, Zai, Zaj, Zak, Zal, Zam, Zan, Zao, Zap, Zaq, Zar, Zas, Zat, Zau, Zav, Zaw, Zax, Zay, Zaz, Zba, Zbb, Zbc, Zbd, Zbe, Zbf, Zbg, Zbh, Zbi, Zbj, Zbk, Zbl, Zbm, Zbn, Zbo, Zbp, Zbq, Zbr, Zbs, Zbt, Zbu, Zbv, Zbw, Zbx, Zby, Zbz, Zca, Zcb, Zcc, Zcd, Zce, Zcf, Zcg, evalT, Zch, Nat.reduceLT, Nat.reduceEqDiff, if_true, if_false, reduceIte, true_and, Zci, Zcj, map_ite', Zck, bind_ite', Zcl, Zcm, Zcn, Zco, Zcp, Zcq, Zcr, Zcs, Zct, Zcu, Zcv, Zcw, Zcx, Zcy, Zcz, Zda, Zdb, Zdc, Zdd, Zde, Zdf, Zdg, ofVal, ofCell, argT, List.getD_cons_zero, List.getD_cons_succ, List.getElem?_toArray, List.getElem?_cons_zero, List.getElem?_cons_succ, List.nil_append, List.cons_append, List.append_nil, resT, Zdh, Zdi, Nat.mul_one, Zdj, Zdk, Zdl, Zdm, Zdn, Zdo, Zdp, Zdq, Zdr, Zds, Zdt, setT, Zdu, Zdv, Zdw, Zdx, Zdy, List.append_eq, Zdz, Zea, Zeb, Zec, Zed, Zee, Zef, Zeg, Zeh, Nat.add_zero, Zei, Zej, Zek, Zel, Zem, Zen, Int.toNat_natCast, Bool.false_eq_true, Int.reduceEq, Int.reduceLT, Int.reduceLE, Int.reduceNeg, not_false_eq_true, and_self, Zeo, Zep, Int.natCast_one, Int.cast_ofNat_Int, not_true_eq_false, decide_true, decide_false, true_implies, false_implies, Int.toNat_zero, List.length_cons, List.length_nil, Nat.zero_add, mb, Nat.reduceBEq, Bool.false_and, Bool.and_false, Zeq, tys, stb, Zer, Zes, Zet, Zeu, Zev, Zew, Bool.or_false, Bool.false_or, Bool.true_and, Bool.or_true, Bool.true_or, Zex, Zey, t0, t1, t6, c1, c2, e1, e2, opT_nilCheck, nilO_ptr, fo0, aload9, scn_str L p s hp, len_str]
      exact ⟨w, by omega, w, rfl, by omega, rfl, this ▸ hs⟩

end Go.Proofs.YtbikmhpobflfeaaDoor
namespace Go.Proofs.YtbikmhpobflfeaaDoor
open Go.Ab
set_option maxRecDepth 100000
set_option linter.unusedSimpArgs false
set_option linter.unusedVariables false
theorem runW_ge (s : List UInt8) (cs : List Int) : ∀ m i, i ≤ runW s cs m i ∧ runW s cs m i ≤ i + m
  | 0, i => ⟨Nat.le_refl _, Nat.le_refl _⟩
  | m + 1, i => by
    simp only [runW]
    split
    · have := runW_ge s cs m (i + 1); omega
    · omega
theorem endW_le (s : List UInt8) (cs : List Int) (i : Nat) (hi : i ≤ s.length) : i ≤ endW s cs i ∧ endW s cs i ≤ s.length := by
  have := runW_ge s cs (s.length - i) i
  unfold endW; omega
theorem runW_in (s : List UInt8) (cs : List Int) : ∀ m i j, i ≤ j → j < runW s cs m i → clsN (s.getD j 0).toNat ∈ cs
  | 0, i, j, h1, h2 => by simp only [runW] at h2; omega
  | m + 1, i, j, h1, h2 => by
    simp only [runW] at h2
    split at h2
    · rcases Nat.lt_or_ge i j with h3 | h3
      · exact runW_in s cs m (i + 1) j h3 h2
      · have : j = i := by omega
        subst this; assumption
    · omega
theorem endW_lt (s : List UInt8) (cs : List Int) (i : Nat) (hi : i < s.length) (h : clsN (s.getD i 0).toNat ∈ cs) : i < endW s cs i := by
  obtain ⟨q, hq⟩ : ∃ q, s.length - i = q + 1 := ⟨s.length - i - 1, by omega⟩
  unfold endW
  rw [hq]
  simp only [runW, if_pos h]
  have := runW_ge s cs q (i + 1)
  omega
theorem subS_len (s : List UInt8) (i j : Nat) (h : j ≤ s.length) : (subS s i j).length = j - i := by
  unfold subS; rw [List.length_take, List.length_drop]; omega
theorem subS_get (s : List UInt8) (i j k : Nat) (h : j ≤ s.length) (hk : k < j - i) : (subS s i j).getD k 0 = s.getD (i + k) 0 := by
  unfold subS
  simp only [List.getD]
  rw [List.getElem?_take, if_pos hk, List.getElem?_drop]
theorem cls_dg (c : UInt8) (h : clsN c.toNat = 3) : IsDg c := by
  unfold clsN at h
  unfold IsDg
  split at h
  · omega
  · split at h
    · assumption
    · split at h
      · omega
      · split at h
        · omega
        · split at h <;> omega
theorem digits_dg (s : List UInt8) (i : Nat) (hi : i ≤ s.length) : ∀ k, k < (subS s i (endW s [3] i)).length → IsDg ((subS s i (endW s [3] i)).getD k 0) := by
  intro k hk
  have he := endW_le s [3] i hi
  rw [subS_len _ _ _ he.2] at hk
  rw [subS_get _ _ _ _ he.2 hk]
  have := runW_in s [3] (s.length - i) i (i + k) (by omega) (by unfold endW at hk; omega)
  exact cls_dg _ (by simpa using this)
/-- the next token: the token, where it ends, the error -/
def nextW (s : List UInt8) (i : Nat) : V :=
  let c := clsN (s.getD i 0).toNat
  if c = 2 then
    let e := endW s [2, 3, 4] i
    .tup [aggT ⟨if subS s i e ∈ N.wordsW then 2 else 1, subS s i e, 0, i⟩, .int .i64 e, .int .i64 (if 20 < e - i then 19 else 0)]
  else if c = 3 then
    let e := endW s [3] i
    match numV (subS s i e) i with
    | .tup [t, x] => .tup [t, .int .i64 e, x]
    | v => v
  else if c = 5 then
    let e := endW s [2, 3, 4] (i + 1)
    if e < s.length ∧ (s.getD e 0).toNat = 39 ∧ N.IsName (subS s (i + 1) e) then .tup [aggT ⟨4, subS s (i + 1) e, 0, i⟩, .int .i64 (e + 1 : Nat), .int .i64 0]
    else .tup [aggT ⟨0, [], 0, 0⟩, .int .i64 e, .int .i64 11]
  else if (sgW s i 2).2 then .tup [aggT ⟨5, (sgW s i 2).1, 0, i⟩, .int .i64 (i + (sgW s i 2).1.length : Nat), .int .i64 0]
  else .tup [aggT ⟨0, [], 0, 0⟩, .int .i64 i, .int .i64 11]
theorem sgW_len (s : List UInt8) (i : Nat) : ∀ w, (sgW s i w).1.length ≤ w
  | 0 => Nat.le_refl _
  | w + 1 => by
    simp only [sgW]
    split
    · rename_i h; simp only [subS_len _ _ _ h.1]; omega
    · have := sgW_len s i w; omega

end Go.Proofs.YtbikmhpobflfeaaDoor
namespace Go.Proofs.YtbikmhpobflfeaaDoor
open Go.Ab
set_option maxRecDepth 100000
set_option linter.unusedSimpArgs false
set_option linter.unusedVariables false
theorem at99 : env.P.funcs[99]? = some Tryd.f99 := by kernel_rfl
theorem wordsW_row : resV' = N.wordsW.map V.str := N.resV_words
theorem row2 : rowO env 134 3 [(0, .int .i64 2), (1, .int .i64 3), (2, .int .i64 4)] = some (.row (([2, 3, 4] : List Int).map (V.int .i64)) 3 .full) := by kernel_rfl
theorem row1 : rowO env 134 1 [(0, .int .i64 3)] = some (.row (([3] : List Int).map (V.int .i64)) 1 .full) := by kernel_rfl
theorem res_call (σ : S) : callFn env (ev env) 18 [] σ = some (.row resV' 35 .unk, σ) := row_of_run rfl rfl rfl (k := 200) (by rw [← runQ_eq]; kernel_rfl) σ
theorem res_call2 (σ : S) : callFn env (ev env) 18 [] σ = some (.row (N.wordsW.map V.str) N.wordsW.length .unk, σ) := by rw [res_call, wordsW_row, N.words_len]
theorem mb99 (r : Nat) : env.mutb 99 r = false := rfl
theorem ne_full : ∀ k e s, RCap.full ≠ .tok k e s := fun _ _ _ h => by cases h
theorem ne_unk : ∀ k e s, RCap.unk ≠ .tok k e s := fun _ _ _ h => by cases h
theorem build52t (k : Int) (s : List UInt8) (p : Int) : buildO env 52 [(0, .int .i64 k), (1, .str s), (3, .int .i64 p)] = some (.agg [.int .i64 k, .str s, .int .i64 0, .int .i64 p]) := by kernel_rfl
theorem fo520 : fldOff env 52 0 = some 0 := by kernel_rfl
theorem ld52e (L : List AObj) (a b c d : V) : aload env (L ++ [.cells [a, b, c, d] 52]) 52 (.ptr L.length 0) = some (.agg [a, b, c, d]) := by
  have h : loadCellsV (L ++ [.cells [a, b, c, d] 52]) 4 (.ptr L.length 0) = some [a, b, c, d] := load4_ptr (heap_end L _)
  have e : sz env 52 = some 4 := by kernel_rfl
  have g : Go.Ab.aggT env 52 = some true := by kernel_rfl
  unfold aload
  simp only [e, g, h, Option.bind_some, Option.map_some]


end Go.Proofs.YtbikmhpobflfeaaDoor