/- Proved here: contracts of schema's reference. Conditions: those of each theorem; no statement of the seat is proved in this text. -/
import Derived.Test.YtbikmhpobflfeaaDoorSnA
namespace Go.Proofs.YtbikmhpobflfeaaDoor
open Go.Ab
set_option maxRecDepth 100000
set_option linter.unusedSimpArgs false
set_option linter.unusedVariables false
/-- a column -/
structure Col where
  name : List UInt8
  lo : Int
  hi : Int
  w : V
  ws : List (List UInt8)
def Col.cells (c : Col) : List V := [.str c.name, .int .i64 c.lo, .int .i64 c.hi, c.w]
def Col.none : Col := ⟨[], 0, 0, .nilsl, []⟩
/-- words -/
def IsW (w : V) (ws : List (List UInt8)) : Prop := (w = .nilsl ∧ ws = []) ∨ w = .row (ws.map V.str) ws.length .unk
def flatC (cs : List Col) : List V := (cs.map Col.cells).flatten
/-- columns -/
def IsC (v : V) (cs : List Col) : Prop := (v = .nilsl ∧ cs = []) ∨ v = .row (flatC cs) cs.length .unk
def OkC (cs : List Col) : Prop := ∀ c ∈ cs, IsW c.w c.ws
theorem OkC.at {cs : List Col} (h : OkC cs) {i : Nat} (hi : i < cs.length) : IsW (cs.getD i Col.none).w (cs.getD i Col.none).ws := h _ (by simp [List.getD, hi])
theorem flatC_cons (c : Col) (cs : List Col) : flatC (c :: cs) = .str c.name :: .int .i64 c.lo :: .int .i64 c.hi :: c.w :: flatC cs := rfl
theorem flatC_len : ∀ cs : List Col, (flatC cs).length = cs.length * 4
  | [] => rfl
  | c :: cs => by rw [flatC_cons]; simp only [List.length_cons, flatC_len cs]; omega
theorem flatC_drop : ∀ (cs : List Col) (i : Nat), (flatC cs).drop (i * 4) = flatC (cs.drop i)
  | cs, 0 => by simp
  | [], i + 1 => by simp [flatC]
  | c :: cs, i + 1 => by
    rw [flatC_cons, show (i + 1) * 4 = i * 4 + 1 + 1 + 1 + 1 by omega]
    simp only [List.drop_succ_cons]
    exact flatC_drop cs i
theorem flatC_at {cs : List Col} {i : Nat} (hi : i < cs.length) : flatC (cs.drop i) = .str (cs.getD i Col.none).name :: .int .i64 (cs.getD i Col.none).lo :: .int .i64 (cs.getD i Col.none).hi :: (cs.getD i Col.none).w :: flatC (cs.drop (i + 1)) := by
  have e : cs.drop i = cs.getD i Col.none :: cs.drop (i + 1) := by
    rw [List.drop_eq_getElem_cons hi]
    simp [List.getD, hi]
  rw [e, flatC_cons]
theorem len_C {v : V} {cs : List Col} (h : IsC v cs) : vLenT (some (.slice 44)) v = some (.int .i64 cs.length) := by
  rcases h with ⟨rfl, rfl⟩ | rfl <;> rfl
theorem len_W {v : V} {ws : List (List UInt8)} (h : IsW v ws) : vLenT (some (.slice 9)) v = some (.int .i64 ws.length) := by
  rcases h with ⟨rfl, rfl⟩ | rfl <;> rfl
theorem idx_C {v : V} {cs : List Col} (h : IsC v cs) {i : Nat} (hi : i < cs.length) : vIndexAddr 4 v (.int .i64 (i : Int)) = some (.rptr (.str (cs.getD i Col.none).name :: .int .i64 (cs.getD i Col.none).lo :: .int .i64 (cs.getD i Col.none).hi :: (cs.getD i Col.none).w :: flatC (cs.drop (i + 1)))) := by
  rcases h with ⟨rfl, rfl⟩ | rfl
  · simp at hi
  · rw [Zdc, if_pos (by omega), Int.toNat_natCast, flatC_drop, flatC_at hi]
theorem idx_W {v : V} {ws : List (List UInt8)} (h : IsW v ws) {i : Nat} (hi : i < ws.length) : vIndexAddr 1 v (.int .i64 (i : Int)) = some (.rptr (.str (ws.getD i []) :: (ws.map V.str).drop (i + 1))) := by
  rcases h with ⟨rfl, rfl⟩ | rfl
  · simp at hi
  · rw [Zdc, if_pos (by omega), Int.toNat_natCast, Nat.mul_one, List.drop_eq_getElem_cons (by simpa using hi)]
    simp [List.getD, hi]
/-- the first cell -/
theorem load_hd (h : List AObj) (v : V) (r : List V) : (loadCellsV h 1 (.rptr (v :: r))).bind (·[0]?) = some v := by
  have := Zdj h (v :: r) 0
  simpa using this
theorem u27 : env.P.underlying 27 = some (.slice 44) := by kernel_rfl
theorem u32 : env.P.underlying 32 = some (.int .i64) := by kernel_rfl
theorem tys2 : env.P.underlying 27 = some (.slice 44) ∧ env.P.underlying 32 = some (.int .i64) ∧ sz env 27 = some 1 ∧ sz env 44 = some 4 ∧ sz env 29 = some 4 ∧ sz env 4 = some 1 ∧ fldOff env 29 0 = some 0 ∧ fldOff env 29 1 = some 1 ∧ fldOff env 29 2 = some 2 ∧ fldOff env 29 3 = some 3 ∧
    fldOff env 44 0 = some 0 ∧ fldOff env 44 1 = some 1 ∧ fldOff env 44 2 = some 2 ∧ fldOff env 44 3 = some 3 ∧ (∀ h p, aload env h 27 p = (loadCellsV h 1 p).bind (·[0]?)) ∧ (∀ h p, aload env h 4 p = (loadCellsV h 1 p).bind (·[0]?)) := by
  have g27 : aggT env 27 = some false := by kernel_rfl
  have g4 : aggT env 4 = some false := by kernel_rfl
  exact ⟨u27, u32, by kernel_rfl, by kernel_rfl, by kernel_rfl, by kernel_rfl, by kernel_rfl, by kernel_rfl, by kernel_rfl, by kernel_rfl, by kernel_rfl, by kernel_rfl, by kernel_rfl, by kernel_rfl, fun _ _ => aload_one g27, fun _ _ => aload_one g4⟩
theorem at21 : env.P.funcs[21]? = some Tryd.f21 := by kernel_rfl

theorem closed_W {w : V} {ws : List (List UInt8)} (h : IsW w ws) : w.closed = true := by
  rcases h with ⟨rfl, rfl⟩ | rfl
  · rfl
  · simp only [V.closed, closed_strs, Bool.and_self]
theorem closed_flat : ∀ {cs : List Col}, OkC cs → V.closed.closedL (flatC cs) = true
  | [], h => rfl
  | c :: cs, h => by
    rw [flatC_cons]
    simp only [V.closed.closedL, V.closed, closed_W (h c (by simp)), closed_flat (cs := cs) fun x hx => h x (by simp [hx]), Bool.and_self]
theorem closed_C {v : V} {cs : List Col} (h : IsC v cs) (ok : OkC cs) : v.closed = true := by
  rcases h with ⟨rfl, rfl⟩ | rfl
  · rfl
  · simp only [V.closed, closed_flat ok, Bool.and_self]

/-- some words or the columns are too many -/
def Vast (cs : List Col) : Prop := (∃ i, i < cs.length ∧ 100 < (cs.getD i Col.none).ws.length) ∨ 100 < cs.length
open Classical in
theorem vast_call (nm : List UInt8) (pb : Bool) (many : Int) (cv : V) (cs : List Col) (hc : IsC cv cs) (ok : OkC cs) (hl : cs.length < 2 ^ 63) (σ : S) : callFn env (ev env) 21 [.agg [.str nm, .bool pb, .int .i64 many, cv]] σ = some (.bool (decide (Vast cs)), σ) := by
  refine callFn_pure rfl rfl (by simp [V.closed, V.closed.closedL, closed_C hc ok]) at21 rfl (by simp [Tryd.f21]) (by simp [Tryd.f21]) (G_start ?_) σ
  simp -implicitDefEqProofs only [Tryd.f21, Zaa, Zab, Zac, Zad, Zae, Zaf, Zag, Zah, Zai, Zaj, Zak, Zal, Zam, Zan, Zao, Zap, Zaq, Zar, Zas, Zat, Zau, Zav, Zaw, Zax, Zay, Zaz, Zba, Zbb, Zbc, Zbd, Zbe, Zbf, Zbg, Zbh, Zbi, Zbj, Zbk, Zbl, Zbm, Zbn, Zbo, Zbp, Zbq, Zbr, Zbs, Zbt, Zbu, Zbv, Zbw, Zbx, Zby, Zbz, Zca, Zcb, Zcc, Zcd, Zce, Zcf, Zcg, evalT, Zch, Nat.reduceLT, Nat.reduceEqDiff, if_true, if_false, reduceIte, true_and, Zci, Zcj, map_ite', Zck, bind_ite', Zcl, Zcm, Zcn, Zco, Zcp, Zcq, Zcr, Zcs, Zct, Zcu, Zcv, Zcw, Zcx, Zcy, Zcz, Zda, Zdb, Zdc, Zdd, Zde, Zdf, Zdg, ofVal, ofCell, argT, List.getD_cons_zero, List.getD_cons_succ, List.getElem?_toArray, List.getElem?_cons_zero, List.getElem?_cons_succ, List.nil_append, List.cons_append, List.append_nil, resT, Zdh, Zdi, Nat.mul_one, Zdj, Zdk, Zdl, Zdm, Zdn, Zdo, Zdp, Zdq, Zdr, Zds, Zdt, setT, Zdu, Zdv, Zdw, Zdx, Zdy, List.append_eq, Zdz, Zea, Zeb, Zec, Zed, Zee, Zef, Zeg, Zeh, Nat.add_zero, Zei, Zej, Zek, Zel, Zem, Zen, Int.toNat_natCast, Bool.false_eq_true, Int.reduceEq, Int.reduceLT, Int.reduceLE, Int.reduceNeg, not_false_eq_true, and_self, Zeo, Zep, Int.natCast_one, Int.cast_ofNat_Int, not_true_eq_false, decide_true, decide_false, true_implies, false_implies, Int.toNat_zero, List.length_cons, List.length_nil, Nat.zero_add, mb, Nat.reduceBEq, Bool.false_and, Bool.and_false, Zeq, tys, stb, Zer, Zes, Zet, Zeu, Zev, Zew, Bool.or_false, Bool.false_or, Bool.true_and, Bool.or_true, Bool.true_or, Zex, Zey, tys2, empty_mk, List.length_nil]
  refine loop_rule (fun m T D σ => D = [] ∧ σ = ⟨[.cells [.str nm, .bool pb, .int .i64 many, cv] 29], []⟩ ∧ T 1 = .ptr 0 0 ∧ ∃ i : Nat, T 3 = .int .i64 i ∧ i ≤ cs.length ∧ m = cs.length - i ∧ ∀ j, j < i → ¬ 100 < (cs.getD j Col.none).ws.length) ?_ _ _ _ _ ⟨rfl, rfl, rfl, 0, rfl, by omega, rfl, fun j h => by omega⟩
  rintro m T D σ ⟨rfl, rfl, t1, i, t3, hi, rfl, hno⟩
  refine G_start ?_
  by_cases hlt : i < cs.length
  · have c1 : (i : Int) < (cs.length : Int) := by omega
    have e1 : IntKind.i64.wrap ((i : Int) + 1) = ((i + 1 : Nat) : Int) := by rw [wrap_i64 (by omega) (by omega)]; omega
    by_cases c2 : (i : Int) ≤ 100
    · have hw := ok.at hlt
      by_cases c3 : (100 : Int) < ((cs.getD i Col.none).ws.length : Int)
      · have hv : Vast cs := .inl ⟨i, hlt, by omega⟩
        simp -implicitDefEqProofs only [Zaa, Zab, Zac, Zad, Zae, Zaf, Zag, Zah, Zai, Zaj, Zak, Zal, Zam, Zan, Zao, Zap, Zaq, Zar, Zas, Zat, Zau, Zav, Zaw, Zax, Zay, Zaz, Zba, Zbb, Zbc, Zbd, Zbe, Zbf, Zbg, Zbh, Zbi, Zbj, Zbk, Zbl, Zbm, Zbn, Zbo, Zbp, Zbq, Zbr, Zbs, Zbt, Zbu, Zbv, Zbw, Zbx, Zby, Zbz, Zca, Zcb, Zcc, Zcd, Zce, Zcf, Zcg, evalT, Zch, Nat.reduceLT, Nat.reduceEqDiff, if_true, if_false, reduceIte, true_and, Zci, Zcj, map_ite', Zck, bind_ite', Zcl, Zcm, Zcn, Zco, Zcp, Zcq, Zcr, Zcs, Zct, Zcu, Zcv, Zcw, Zcx, Zcy, Zcz, Zda, Zdb, Zdc, Zdd, Zde, Zdf, Zdg, ofVal, ofCell, argT, List.getD_cons_zero, List.getD_cons_succ, List.getElem?_toArray, List.getElem?_cons_zero, List.getElem?_cons_succ, List.nil_append, List.cons_append, List.append_nil, resT, Zdh, Zdi, Nat.mul_one, Zdj, Zdk, Zdl, Zdm, Zdn, Zdo, Zdp, Zdq, Zdr, Zds, Zdt, setT, Zdu, Zdv, Zdw, Zdx, Zdy, List.append_eq, Zdz, Zea, Zeb, Zec, Zed, Zee, Zef, Zeg, Zeh, Nat.add_zero, Zei, Zej, Zek, Zel, Zem, Zen, Int.toNat_natCast, Bool.false_eq_true, Int.reduceEq, Int.reduceLT, Int.reduceLE, Int.reduceNeg, not_false_eq_true, and_self, Zeo, Zep, Int.natCast_one, Int.cast_ofNat_Int, not_true_eq_false, decide_true, decide_false, true_implies, false_implies, Int.toNat_zero, List.length_cons, List.length_nil, Nat.zero_add, mb, Nat.reduceBEq, Bool.false_and, Bool.and_false, Zeq, tys, stb, Zer, Zes, Zet, Zeu, Zev, Zew, Bool.or_false, Bool.false_or, Bool.true_and, Bool.or_true, Bool.true_or, Zex, Zey, tys2, t1, t3, c1, c2, c3, e1, len_C hc, idx_C hc hlt, List.drop_succ_cons, List.drop_zero, load_hd, len_W hw]
        simp [oneOr, sealDepth, sealV_bool, hv]
      · simp -implicitDefEqProofs only [Zaa, Zab, Zac, Zad, Zae, Zaf, Zag, Zah, Zai, Zaj, Zak, Zal, Zam, Zan, Zao, Zap, Zaq, Zar, Zas, Zat, Zau, Zav, Zaw, Zax, Zay, Zaz, Zba, Zbb, Zbc, Zbd, Zbe, Zbf, Zbg, Zbh, Zbi, Zbj, Zbk, Zbl, Zbm, Zbn, Zbo, Zbp, Zbq, Zbr, Zbs, Zbt, Zbu, Zbv, Zbw, Zbx, Zby, Zbz, Zca, Zcb, Zcc, Zcd, Zce, Zcf, Zcg, evalT, Zch, Nat.reduceLT, Nat.reduceEqDiff, if_true, if_false, reduceIte, true_and, Zci, Zcj, map_ite', Zck, bind_ite', Zcl, Zcm, Zcn, Zco, Zcp, Zcq, Zcr, Zcs, Zct, Zcu, Zcv, Zcw, Zcx, Zcy, Zcz, Zda, Zdb, Zdc, Zdd, Zde, Zdf, Zdg, ofVal, ofCell, argT, List.getD_cons_zero, List.getD_cons_succ, List.getElem?_toArray, List.getElem?_cons_zero, List.getElem?_cons_succ, List.nil_append, List.cons_append, List.append_nil, resT, Zdh, Zdi, Nat.mul_one, Zdj, Zdk, Zdl, Zdm, Zdn, Zdo, Zdp, Zdq, Zdr, Zds, Zdt, setT, Zdu, Zdv, Zdw, Zdx, Zdy, List.append_eq, Zdz, Zea, Zeb, Zec, Zed, Zee, Zef, Zeg, Zeh, Nat.add_zero, Zei, Zej, Zek, Zel, Zem, Zen, Int.toNat_natCast, Bool.false_eq_true, Int.reduceEq, Int.reduceLT, Int.reduceLE, Int.reduceNeg, not_false_eq_true, and_self, Zeo, Zep, Int.natCast_one, Int.cast_ofNat_Int, not_true_eq_false, decide_true, decide_false, true_implies, false_implies, Int.toNat_zero, List.length_cons, List.length_nil, Nat.zero_add, mb, Nat.reduceBEq, Bool.false_and, Bool.and_false, Zeq, tys, stb, Zer, Zes, Zet, Zeu, Zev, Zew, Bool.or_false, Bool.false_or, Bool.true_and, Bool.or_true, Bool.true_or, Zex, Zey, tys2, t1, t3, c1, c2, c3, e1, len_C hc, idx_C hc hlt, List.drop_succ_cons, List.drop_zero, load_hd, len_W hw]
        exact ⟨cs.length - (i + 1), by omega, i + 1, rfl, by omega, rfl, fun j hj => by
          rcases Nat.lt_or_ge j i with h2 | h2
          · exact hno j h2
          · have : j = i := by omega
            subst this; omega⟩
    · have hv : Vast cs := .inr (by omega)
      have c4 : (100 : Int) < (cs.length : Int) := by omega
      simp -implicitDefEqProofs only [Zaa, Zab, Zac, Zad, Zae, Zaf, Zag, Zah, Zai, Zaj, Zak, Zal, Zam, Zan, Zao, Zap, Zaq, Zar, Zas, Zat, Zau, Zav, Zaw, Zax, Zay, Zaz, Zba, Zbb, Zbc, Zbd, Zbe, Zbf, Zbg, Zbh, Zbi, Zbj, Zbk, Zbl, Zbm, Zbn, Zbo, Zbp, Zbq, Zbr, Zbs, Zbt, Zbu, Zbv, Zbw, Zbx, Zby, Zbz, Zca, Zcb, Zcc, Zcd, Zce, Zcf, Zcg, evalT, Zch, Nat.reduceLT, Nat.reduceEqDiff, if_true, if_false, reduceIte, true_and, Zci, Zcj, map_ite', Zck, bind_ite', Zcl, Zcm, Zcn, Zco, Zcp, Zcq, Zcr, Zcs, Zct, Zcu, Zcv, Zcw, Zcx, Zcy, Zcz, Zda, Zdb, Zdc, Zdd, Zde, Zdf, Zdg, ofVal, ofCell, argT, List.getD_cons_zero, List.getD_cons_succ, List.getElem?_toArray, List.getElem?_cons_zero, List.getElem?_cons_succ, List.nil_append, List.cons_append, List.append_nil, resT, Zdh, Zdi, Nat.mul_one, Zdj, Zdk, Zdl, Zdm, Zdn, Zdo, Zdp, Zdq, Zdr, Zds, Zdt, setT, Zdu, Zdv, Zdw, Zdx, Zdy, List.append_eq, Zdz, Zea, Zeb, Zec, Zed, Zee, Zef, Zeg, Zeh, Nat.add_zero, Zei, Zej, Zek, Zel, Zem, Zen, Int.toNat_natCast, Bool.false_eq_true, Int.reduceEq, Int.reduceLT, Int.reduceLE, Int.reduceNeg, not_false_eq_true, and_self, Zeo, Zep, Int.natCast_one, Int.cast_ofNat_Int, not_true_eq_false, decide_true, decide_false, true_implies, false_implies, Int.toNat_zero, List.length_cons, List.length_nil, Nat.zero_add, mb, Nat.reduceBEq, Bool.false_and, Bool.and_false, Zeq, tys, stb, Zer, Zes, Zet, Zeu, Zev, Zew, Bool.or_false, Bool.false_or, Bool.true_and, Bool.or_true, Bool.true_or, Zex, Zey, tys2, t1, t3, c1, c2, c4, e1, len_C hc]
      simp [oneOr, sealDepth, sealV_bool, hv]
  · have hi2 : i = cs.length := by omega
    subst hi2
    have c1 : ¬ (cs.length : Int) < (cs.length : Int) := by omega
    have hv : Vast cs ↔ (100 : Int) < (cs.length : Int) := by
      constructor
      · rintro (⟨j, h1, h2⟩ | h)
        · exact absurd h2 (hno j h1)
        · omega
      · exact fun h => .inr (by omega)
    simp -implicitDefEqProofs only [Zaa, Zab, Zac, Zad, Zae, Zaf, Zag, Zah, Zai, Zaj, Zak, Zal, Zam, Zan, Zao, Zap, Zaq, Zar, Zas, Zat, Zau, Zav, Zaw, Zax, Zay, Zaz, Zba, Zbb, Zbc, Zbd, Zbe, Zbf, Zbg, Zbh, Zbi, Zbj, Zbk, Zbl, Zbm, Zbn, Zbo, Zbp, Zbq, Zbr, Zbs, Zbt, Zbu, Zbv, Zbw, Zbx, Zby, Zbz, Zca, Zcb, Zcc, Zcd, Zce, Zcf, Zcg, evalT, Zch, Nat.reduceLT, Nat.reduceEqDiff, if_true, if_false, reduceIte, true_and, Zci, Zcj, map_ite', Zck, bind_ite', Zcl, Zcm, Zcn, Zco, Zcp, Zcq, Zcr, Zcs, Zct, Zcu, Zcv, Zcw, Zcx, Zcy, Zcz, Zda, Zdb, Zdc, Zdd, Zde, Zdf, Zdg, ofVal, ofCell, argT, List.getD_cons_zero, List.getD_cons_succ, List.getElem?_toArray, List.getElem?_cons_zero, List.getElem?_cons_succ, List.nil_append, List.cons_append, List.append_nil, resT, Zdh, Zdi, Nat.mul_one, Zdj, Zdk, Zdl, Zdm, Zdn, Zdo, Zdp, Zdq, Zdr, Zds, Zdt, setT, Zdu, Zdv, Zdw, Zdx, Zdy, List.append_eq, Zdz, Zea, Zeb, Zec, Zed, Zee, Zef, Zeg, Zeh, Nat.add_zero, Zei, Zej, Zek, Zel, Zem, Zen, Int.toNat_natCast, Bool.false_eq_true, Int.reduceEq, Int.reduceLT, Int.reduceLE, Int.reduceNeg, not_false_eq_true, and_self, Zeo, Zep, Int.natCast_one, Int.cast_ofNat_Int, not_true_eq_false, decide_true, decide_false, true_implies, false_implies, Int.toNat_zero, List.length_cons, List.length_nil, Nat.zero_add, mb, Nat.reduceBEq, Bool.false_and, Bool.and_false, Zeq, tys, stb, Zer, Zes, Zet, Zeu, Zev, Zew, Bool.or_false, Bool.false_or, Bool.true_and, Bool.or_true, Bool.true_or, Zex, Zey, tys2, t1, t3, c1, len_C hc]
    simp only [oneOr, sealDepth, sealV_bool, hv]
end Go.Proofs.YtbikmhpobflfeaaDoor

namespace Go.Proofs.YtbikmhpobflfeaaDoor
open Go.Ab
set_option maxRecDepth 100000
set_option linter.unusedSimpArgs false
set_option linter.unusedVariables false
/-! ### objects at the end of the heap -/
theorem heap_end (L : List AObj) (o : AObj) : (L ++ [o])[L.length]? = some o := by simp
theorem set_end (L : List AObj) (o o' : AObj) : (L ++ [o]).set L.length o' = L ++ [o'] := by simp
theorem load4_rptr (h : List AObj) (a b c d : V) (r : List V) : loadCellsV h 4 (.rptr (a :: b :: c :: d :: r)) = some [a, b, c, d] := by simp [loadCellsV]
theorem load4_ptr {h : List AObj} {n : Nat} {a b c d : V} {t : TypeId} (hh : h[n]? = some (.cells [a, b, c, d] t)) : loadCellsV h 4 (.ptr n 0) = some [a, b, c, d] := by simp [loadCellsV, hh]
theorem agg44 (h : List AObj) (p : V) : aload env h 44 p = (loadCellsV h 4 p).map .agg := by
  unfold aload
  rw [show aggT env 44 = some true by kernel_rfl, show sz env 44 = some 4 by kernel_rfl]
  rfl
theorem agg29 (h : List AObj) (p : V) : aload env h 29 p = (loadCellsV h 4 p).map .agg := by
  unfold aload
  rw [show aggT env 29 = some true by kernel_rfl, show sz env 29 = some 4 by kernel_rfl]
  rfl
theorem z44 : zeroV env 44 = some (.agg [.str [], .int .i64 0, .int .i64 0, .nilsl]) := by kernel_rfl
theorem z29 : zeroV env 29 = some (.agg [.str [], .bool false, .int .i64 0, .nilsl]) := by kernel_rfl
theorem one24 : One env 24 9 16 := ⟨by kernel_rfl, by kernel_rfl, by kernel_rfl, by kernel_rfl, by kernel_rfl, ⟨.str [], by kernel_rfl, rfl⟩⟩
theorem el27 : elemS env 27 = some 44 := by kernel_rfl
theorem by44 : bys env 44 = some 56 := by kernel_rfl
theorem zn44 : zeroN env 44 = some 4 := by kernel_rfl

/-- a copy that is under way -/
def Col.cap (c : Col) (cap : RCap) : Col := { c with w := .row (c.ws.map V.str) c.ws.length cap }
def copyC (c : Col) : Col := c.cap .unk
/-- columns that are being appended to -/
inductive GrowC (ts : List Nat) : V → List Col → Prop
  | nil : GrowC ts .nilsl []
  | tok (cs : List Col) (k e : Nat) (h : ts[k]? = some e) (hne : cs ≠ []) : GrowC ts (.row (flatC cs) cs.length (.tok k e 4)) cs
theorem flatC_app (cs : List Col) (c : Col) : flatC (cs ++ [c]) = flatC cs ++ c.cells := by simp [flatC]
theorem build_C {T : Tm} {σ : S} {x : Operand} : opT env false T σ (.buildSlice 27 1 #[(0, x)]) = (evalT env T x).bind fun v => if v.cells.length = 4 then some (.row v.cells 1 .full, σ) else none := by
  unfold opT
  simp only [apure, aread, astate, partsO]
  cases evalT env T x with
  | none => rfl
  | some v =>
    simp only [Option.map_some, Option.bind_some, el27, tys2, z44]
    by_cases hv : v.cells.length = 4
    · simp [vFill, hv, Zeg]
    · simp [vFill, hv, Zeg]
theorem GrowC.append {hp : List AObj} {ts : List Nat} {v : V} {cs : List Col} (g : GrowC ts v cs) (c : Col) (cap : RCap) (hc : c.cells.all V.isCell = true) (hb : cs.length + 1 ≤ 1000) :
    ∃ v' ts', appO env false ⟨hp, ts⟩ 27 27 v (.row c.cells 1 cap) = some (v', ⟨hp, ts'⟩) ∧ GrowC ts' v' (cs ++ [c]) := by
  have hnew : vCells hp 4 1 (.row c.cells 1 cap) = some c.cells := by simp [vCells, Col.cells]
  have hl1 : (1 : Nat) * 56 ≤ lim ∧ 1 ≤ lim := by decide
  have hl2 : (cs.length + 1) * 56 ≤ lim ∧ cs.length + 1 ≤ lim := by have h : lim = 2 ^ 40 := rfl; rw [h]; omega
  unfold appO
  simp only [el27, tys2, by44, zn44, vLen, hnew, Option.bind_some, if_true]
  cases g with
  | nil =>
    refine ⟨.row (flatC [c]) 1 (.tok ts.length 0 4), ts ++ [0], ?_, .tok [c] ts.length 0 (by simp) (by simp)⟩
    simp [aappend, hl1, flatC]
  | tok _ k e hk hne =>
    have hkl : k < ts.length := by
      rcases Nat.lt_or_ge k ts.length with h1 | h1
      · exact h1
      · rw [List.getElem?_eq_none h1] at hk; simp at hk
    refine ⟨.row (flatC (cs ++ [c])) (cs ++ [c]).length (.tok k (e + 1) 4), ts.set k (e + 1), ?_, .tok _ k (e + 1) (by simp [hkl]) (by simp)⟩
    have hl3 : (flatC cs).length = cs.length * 4 := flatC_len cs
    simp [aappend, hl2, hl3, hk, hc, flatC_app]
theorem isCell_str0 (s : List UInt8) : (V.str s).isCell = true := rfl
theorem app_W {w : V} {ws : List (List UInt8)} (h : IsW w ws) (hb : ws.length ≤ 1000) (hp : List AObj) (ts : List Nat) :
    ∃ cap ts', appO env false ⟨hp, ts⟩ 24 24 (.row [] 0 .full) w = some (.row (ws.map V.str) ws.length cap, ⟨hp, ts'⟩) ∧ ∀ (k e : Nat), ts[k]? = some e → ts'[k]? = some e := by
  by_cases hn : ws = []
  · subst hn
    refine ⟨.full, ts, ?_, fun _ _ h => h⟩
    unfold appO
    simp only [one24.elem, one24.size, one24.bytes, one24.slice, one24.zeros, Option.bind_some, if_true]
    rcases h with ⟨rfl, _⟩ | rfl <;> simp [vLen, vCells, aappend]
  · rcases h with ⟨_, h⟩ | rfl
    · exact absurd h hn
    · have hl2 : ws.length * 16 ≤ lim ∧ ws.length ≤ lim := by have h : lim = 2 ^ 40 := rfl; rw [h]; omega
      have hall : (ws.map V.str).all V.isCell = true := by simp [V.isCell]
      have hne : ¬ ws.length = 0 := fun h => hn (List.eq_nil_of_length_eq_zero h)
      refine ⟨.tok ts.length 0 1, ts ++ [0], ?_, fun k e hk => ?_⟩
      · unfold appO
        simp only [one24.elem, one24.size, one24.bytes, one24.slice, one24.zeros, Option.bind_some, if_true]
        have htk : List.take ws.length (ws.map V.str) = ws.map V.str := List.take_of_length_le (by simp)
        simp [vLen, vCells, aappend, hl2, hne, hn, htk, isCell_str0]
      · rw [List.getElem?_append_left]
        · exact hk
        · rcases Nat.lt_or_ge k ts.length with h1 | h1
          · exact h1
          · rw [List.getElem?_eq_none h1] at hk; simp at hk
theorem at22 : env.P.funcs[22]? = some Tryd.f22 := by kernel_rfl
theorem isCell_W {w : V} {ws : List (List UInt8)} (h : IsW w ws) : w.isCell = true := by rcases h with ⟨rfl, _⟩ | rfl <;> rfl
theorem isCell_str (s : List UInt8) : (V.str s).isCell = true := rfl
theorem isCell_bool (b : Bool) : (V.bool b).isCell = true := rfl
theorem load4_end (L : List AObj) (a b c d : V) (t : TypeId) : loadCellsV (L ++ [.cells [a, b, c, d] t]) 4 (.ptr L.length 0) = some [a, b, c, d] := load4_ptr (heap_end _ _)
theorem GrowC.keep {ts ts' : List Nat} {v : V} {cs : List Col} (g : GrowC ts v cs) (h : ∀ (k e : Nat), ts[k]? = some e → ts'[k]? = some e) : GrowC ts' v cs := by
  cases g with
  | nil => exact .nil
  | tok _ k e hk hne => exact .tok _ k e (h k e hk) hne
theorem GrowC.cells {ts : List Nat} {v : V} {cs : List Col} (g : GrowC ts v cs) : v.cells = [v] := by cases g <;> rfl
theorem GrowC.cell {ts : List Nat} {v : V} {cs : List Col} (g : GrowC ts v cs) : v.isCell = true := by cases g <;> rfl
/-- a list's copy -/
def copyV (cs : List Col) : V := if cs = [] then .nilsl else .row (flatC (cs.map copyC)) cs.length .unk

theorem seal_strs (h : List AObj) (d : Nat) (ws : List (List UInt8)) : (ws.map V.str).mapM (sealV h (d + 1)) = some (ws.map V.str) :=
  mapM_seal_same h (d + 1) _ fun v hv => by
    obtain ⟨z, _, rfl⟩ := List.mem_map.1 hv
    rfl
theorem seal_flat (h : List AObj) (d : Nat) : ∀ P : List Col, (∀ c ∈ P, ∃ cap, c.w = .row (c.ws.map V.str) c.ws.length cap) → (flatC P).mapM (sealV h (d + 2)) = some (flatC (P.map copyC))
  | [], _ => rfl
  | c :: P, hp => by
    obtain ⟨cap, hw⟩ := hp c (by simp)
    rw [flatC_cons, mapM_seal_cons, mapM_seal_cons, mapM_seal_cons, mapM_seal_cons, seal_flat h d P fun x hx => hp x (by simp [hx]), hw, sealV_str, sealV_int, sealV_int, sealV_row, seal_strs]
    rfl
theorem seal_copy {h : List AObj} {d : Nat} {ts : List Nat} {u : V} {P cs : List Col} (hg : GrowC ts u P) (hp : ∀ c ∈ P, ∃ cap, c.w = .row (c.ws.map V.str) c.ws.length cap) (hm : P.map copyC = cs.map copyC) : sealV h (d + 3) u = some (copyV cs) := by
  have hl : P.length = cs.length := by have := congrArg List.length hm; simpa using this
  cases hg with
  | nil =>
    have : cs = [] := List.eq_nil_of_length_eq_zero hl.symm
    subst this
    rfl
  | tok _ k e hk hne =>
    rw [sealV_row, seal_flat h d P hp, hm, hl]
    have he : cs ≠ [] := fun e => hne (List.eq_nil_of_length_eq_zero (by rw [hl, e]; rfl))
    simp [copyV, he]

theorem copy_call (nm : List UInt8) (pb : Bool) (many : Int) (cv : V) (cs : List Col) (hc : IsC cv cs) (ok : OkC cs) (hl : cs.length ≤ 100) (hw : ∀ i, i < cs.length → (cs.getD i Col.none).ws.length ≤ 100) (σ : S) :
    callFn env (ev env) 22 [.agg [.str nm, .bool pb, .int .i64 many, cv]] σ = some (.agg [.str nm, .bool pb, .int .i64 many, copyV cs], σ) := by
  refine callFn_pure rfl rfl (by simp [V.closed, V.closed.closedL, closed_C hc ok]) at22 rfl (by simp [Tryd.f22]) (by simp [Tryd.f22]) (G_start ?_) σ
  have hcc : cv.isCell = true := by rcases hc with ⟨rfl, _⟩ | rfl <;> rfl
  simp -implicitDefEqProofs only [Tryd.f22, Zaa, Zab, Zac, Zad, Zae, Zaf, Zag, Zah, Zai, Zaj, Zak, Zal, Zam, Zan, Zao, Zap, Zaq, Zar, Zas, Zat, Zau, Zav, Zaw, Zax, Zay, Zaz, Zba, Zbb, Zbc, Zbd, Zbe, Zbf, Zbg, Zbh, Zbi, Zbj, Zbk, Zbl, Zbm, Zbn, Zbo, Zbp, Zbq, Zbr, Zbs, Zbt, Zbu, Zbv, Zbw, Zbx, Zby, Zbz, Zca, Zcb, Zcc, Zcd, Zce, Zcf, Zcg, evalT, Zch, Nat.reduceLT, Nat.reduceEqDiff, if_true, if_false, reduceIte, true_and, Zci, Zcj, map_ite', Zck, bind_ite', Zcl, Zcm, Zcn, Zco, Zcp, Zcq, Zcr, Zcs, Zct, Zcu, Zcv, Zcw, Zcx, Zcy, Zcz, Zda, Zdb, Zdc, Zdd, Zde, Zdf, Zdg, ofVal, ofCell, argT, List.getD_cons_zero, List.getD_cons_succ, List.getElem?_toArray, List.getElem?_cons_zero, List.getElem?_cons_succ, List.nil_append, List.cons_append, List.append_nil, resT, Zdh, Zdi, Nat.mul_one, Zdj, Zdk, Zdl, Zdm, Zdn, Zdo, Zdp, Zdq, Zdr, Zds, Zdt, setT, Zdu, Zdv, Zdw, Zdx, Zdy, List.append_eq, Zdz, Zea, Zeb, Zec, Zed, Zee, Zef, Zeg, Zeh, Nat.add_zero, Zei, Zej, Zek, Zel, Zem, Zen, Int.toNat_natCast, Bool.false_eq_true, Int.reduceEq, Int.reduceLT, Int.reduceLE, Int.reduceNeg, not_false_eq_true, and_self, Zeo, Zep, Int.natCast_one, Int.cast_ofNat_Int, not_true_eq_false, decide_true, decide_false, true_implies, false_implies, Int.toNat_zero, List.length_cons, List.length_nil, Nat.zero_add, mb, Nat.reduceBEq, Bool.false_and, Bool.and_false, Zeq, tys, stb, Zer, Zes, Zet, Zeu, Zev, Zew, Bool.or_false, Bool.false_or, Bool.true_and, Bool.or_true, Bool.true_or, Zex, Zey, tys2, z29, z44, empty_mk, storeList, List.take_zero, List.drop_zero, List.take_succ_cons, List.drop_succ_cons, List.drop_nil, List.all_cons, List.all_nil, isCell_str, isCell_bool, isCell_int, hcc, V.isCell, List.set_cons_zero, Nat.reduceAdd, Nat.reduceLeDiff]
  refine loop_rule (fun m T D σ => D = [] ∧ T 1 = .ptr 0 0 ∧ T 2 = .ptr 1 0 ∧ T 3 = cv ∧ ∃ (L : List AObj) (ts : List Nat) (i : Nat) (P : List Col) (u : V), σ = ⟨L, ts⟩ ∧ L[0]? = some (.cells [.str nm, .bool pb, .int .i64 many, u] 29) ∧
    L[1]? = some (.cells [.str [], .bool false, .int .i64 0, .nilsl] 29) ∧ T 4 = .int .i64 i ∧ i ≤ cs.length ∧ m = cs.length - i ∧ GrowC ts u P ∧ P.length = i ∧ P.map copyC = (cs.take i).map copyC ∧ ∀ c ∈ P, ∃ cap, c.w = .row (c.ws.map V.str) c.ws.length cap) ?_ _ _ _ _
    ⟨rfl, rfl, rfl, rfl, _, _, 0, [], .nilsl, rfl, rfl, rfl, rfl, by omega, rfl, .nil, rfl, rfl, fun c h => by simp at h⟩
  rintro m T D σ ⟨rfl, t1, t2, t3, L, ts, i, P, u, rfl, l0, l1, t4, hi, rfl, hg, hpl, hpm, hpw⟩
  refine G_start ?_
  have hn0 : 0 < L.length := by
    rcases Nat.lt_or_ge 0 L.length with h | h
    · exact h
    · rw [List.getElem?_eq_none h] at l0; simp at l0
  have hn1 : 1 < L.length := by
    rcases Nat.lt_or_ge 1 L.length with h | h
    · exact h
    · rw [List.getElem?_eq_none h] at l1; simp at l1
  by_cases hlt : i < cs.length
  · have c1 : (i : Int) < (cs.length : Int) := by omega
    have e1 : IntKind.i64.wrap ((i : Int) + 1) = ((i + 1 : Nat) : Int) := by rw [wrap_i64 (by omega) (by omega)]; omega
    have hwi := ok.at hlt
    have hws := hw i hlt
    generalize hcd : cs.getD i Col.none = c at *
    have hE0 : ∀ o, (L ++ [o])[0]? = some (.cells [.str nm, .bool pb, .int .i64 many, u] 29) := fun o => by rw [List.getElem?_append_left hn0]; exact l0
    obtain ⟨cap, ts', hA, hk⟩ := app_W hwi (by omega) (L ++ [.cells [.str c.name, .int .i64 c.lo, .int .i64 c.hi, c.w] 44]) ts
    obtain ⟨u', ts'', hB, hg'⟩ := (hg.keep hk).append (hp := L ++ [.cells [.str c.name, .int .i64 c.lo, .int .i64 c.hi, .row (c.ws.map V.str) c.ws.length cap] 44]) (c.cap cap) .full (by simp [Col.cells, Col.cap, V.isCell]) (by omega)
    have hcells : (c.cap cap).cells = [.str c.name, .int .i64 c.lo, .int .i64 c.hi, .row (c.ws.map V.str) c.ws.length cap] := rfl
    rw [hcells] at hB
    have hic := isCell_W hwi
    have hiu := hg'.cell
    have hcu := hg'.cells
    have hx := idx_C hc hlt
    rw [hcd] at hx
    simp -implicitDefEqProofs only [Zaa, Zab, Zac, Zad, Zae, Zaf, Zag, Zah, Zai, Zaj, Zak, Zal, Zam, Zan, Zao, Zap, Zaq, Zar, Zas, Zat, Zau, Zav, Zaw, Zax, Zay, Zaz, Zba, Zbb, Zbc, Zbd, Zbe, Zbf, Zbg, Zbh, Zbi, Zbj, Zbk, Zbl, Zbm, Zbn, Zbo, Zbp, Zbq, Zbr, Zbs, Zbt, Zbu, Zbv, Zbw, Zbx, Zby, Zbz, Zca, Zcb, Zcc, Zcd, Zce, Zcf, Zcg, evalT, Zch, Nat.reduceLT, Nat.reduceEqDiff, if_true, if_false, reduceIte, true_and, Zci, Zcj, map_ite', Zck, bind_ite', Zcl, Zcm, Zcn, Zco, Zcp, Zcq, Zcr, Zcs, Zct, Zcu, Zcv, Zcw, Zcx, Zcy, Zcz, Zda, Zdb, Zdc, Zdd, Zde, Zdf, Zdg, ofVal, ofCell, argT, List.getD_cons_zero, List.getD_cons_succ, List.getElem?_toArray, List.getElem?_cons_zero, List.getElem?_cons_succ, List.nil_append, List.cons_append, List.append_nil, resT, Zdh, Zdi, Nat.mul_one, Zdj, Zdk, Zdl, Zdm, Zdn, Zdo, Zdp, Zdq, Zdr, Zds, Zdt, setT, Zdu, Zdv, Zdw, Zdx, Zdy, List.append_eq, Zdz, Zea, Zeb, Zec, Zed, Zee, Zef, Zeg, Zeh, Nat.add_zero, Zei, Zej, Zek, Zel, Zem, Zen, Int.toNat_natCast, Bool.false_eq_true, Int.reduceEq, Int.reduceLT, Int.reduceLE, Int.reduceNeg, not_false_eq_true, and_self, Zeo, Zep, Int.natCast_one, Int.cast_ofNat_Int, not_true_eq_false, decide_true, decide_false, true_implies, false_implies, Int.toNat_zero, List.length_cons, List.length_nil, Nat.zero_add, mb, Nat.reduceBEq, Bool.false_and, Bool.and_false, Zeq, tys, stb, Zer, Zes, Zet, Zeu, Zev, Zew, Bool.or_false, Bool.false_or, Bool.true_and, Bool.or_true, Bool.true_or, Zex, Zey, tys2, t1, t2, t3, t4, c1, e1, len_C hc, hx, agg44, load4_rptr, z44, heap_end, set_end, storeList, List.take_zero, List.drop_zero, List.take_succ_cons, List.drop_succ_cons, List.drop_nil, List.all_cons, List.all_nil, isCell_str, isCell_int, Zdq, hic, hiu, hcu, build_none one24, hA, load4_end, build_C, hE0, hB, Nat.reduceAdd, Nat.reduceLeDiff, List.getElem?_cons_succ, List.getElem?_cons_zero]
    have hset : ∀ o A : AObj, ((L ++ [o]).set 0 A)[0]? = some A := fun o A => by rw [List.getElem?_set_self (by simp)]
    have hset1 : ∀ o A : AObj, ((L ++ [o]).set 0 A)[1]? = some (.cells [.str [], .bool false, .int .i64 0, .nilsl] 29) := fun o A => by
      rw [List.getElem?_set_ne (by omega), List.getElem?_append_left hn1]; exact l1
    refine ⟨cs.length - (i + 1), by omega, _, _, i + 1, P ++ [c.cap cap], u', rfl, hset _ _, hset1 _ _, rfl, by omega, rfl, hg', by simp [hpl], ?_, ?_⟩
    · rw [List.map_append, hpm, List.take_add_one, List.map_append]
      congr 1
      have : cs[i]? = some c := by rw [← hcd]; simp [List.getD, hlt]
      rw [this]
      rfl
    · intro x hx
      rcases List.mem_append.1 hx with h | h
      · exact hpw x h
      · simp only [List.mem_singleton] at h
        subst h
        exact ⟨cap, rfl⟩
  · have hi2 : i = cs.length := by omega
    subst hi2
    have c1 : ¬ (cs.length : Int) < (cs.length : Int) := by omega
    have hiu := hg.cell
    have hset1 : ∀ A : AObj, (L.set 1 A)[1]? = some A := fun A => by rw [List.getElem?_set_self hn1]
    simp -implicitDefEqProofs only [Zaa, Zab, Zac, Zad, Zae, Zaf, Zag, Zah, Zai, Zaj, Zak, Zal, Zam, Zan, Zao, Zap, Zaq, Zar, Zas, Zat, Zau, Zav, Zaw, Zax, Zay, Zaz, Zba, Zbb, Zbc, Zbd, Zbe, Zbf, Zbg, Zbh, Zbi, Zbj, Zbk, Zbl, Zbm, Zbn, Zbo, Zbp, Zbq, Zbr, Zbs, Zbt, Zbu, Zbv, Zbw, Zbx, Zby, Zbz, Zca, Zcb, Zcc, Zcd, Zce, Zcf, Zcg, evalT, Zch, Nat.reduceLT, Nat.reduceEqDiff, if_true, if_false, reduceIte, true_and, Zci, Zcj, map_ite', Zck, bind_ite', Zcl, Zcm, Zcn, Zco, Zcp, Zcq, Zcr, Zcs, Zct, Zcu, Zcv, Zcw, Zcx, Zcy, Zcz, Zda, Zdb, Zdc, Zdd, Zde, Zdf, Zdg, ofVal, ofCell, argT, List.getD_cons_zero, List.getD_cons_succ, List.getElem?_toArray, List.getElem?_cons_zero, List.getElem?_cons_succ, List.nil_append, List.cons_append, List.append_nil, resT, Zdh, Zdi, Nat.mul_one, Zdj, Zdk, Zdl, Zdm, Zdn, Zdo, Zdp, Zdq, Zdr, Zds, Zdt, setT, Zdu, Zdv, Zdw, Zdx, Zdy, List.append_eq, Zdz, Zea, Zeb, Zec, Zed, Zee, Zef, Zeg, Zeh, Nat.add_zero, Zei, Zej, Zek, Zel, Zem, Zen, Int.toNat_natCast, Bool.false_eq_true, Int.reduceEq, Int.reduceLT, Int.reduceLE, Int.reduceNeg, not_false_eq_true, and_self, Zeo, Zep, Int.natCast_one, Int.cast_ofNat_Int, not_true_eq_false, decide_true, decide_false, true_implies, false_implies, Int.toNat_zero, List.length_cons, List.length_nil, Nat.zero_add, mb, Nat.reduceBEq, Bool.false_and, Bool.and_false, Zeq, tys, stb, Zer, Zes, Zet, Zeu, Zev, Zew, Bool.or_false, Bool.false_or, Bool.true_and, Bool.or_true, Bool.true_or, Zex, Zey, tys2, t1, t2, t3, t4, c1, len_C hc, agg29, load4_ptr l0, l1, storeList, List.take_zero, List.drop_zero, List.take_succ_cons, List.drop_succ_cons, List.drop_nil, List.all_cons, List.all_nil, isCell_str, isCell_int, isCell_bool, hiu, Nat.reduceAdd, Nat.reduceLeDiff, load4_ptr (hset1 _), Zeg]
    rw [List.take_length] at hpm
    simp only [oneOr, sealDepth, sealV_agg, mapM_seal_cons, mapM_seal_nil, sealV_str, sealV_bool, sealV_int, seal_copy hg hpw hpm, Option.bind_some, Option.map_some]
end Go.Proofs.YtbikmhpobflfeaaDoor

namespace Go.Proofs.YtbikmhpobflfeaaDoor
open Go.Ab
set_option maxRecDepth 100000
set_option linter.unusedSimpArgs false
set_option linter.unusedVariables false
theorem at96 : env.P.funcs[96]? = some Tryd.f96 := by kernel_rfl
/-- two equal ones -/
def Twice (ws : List (List UInt8)) : Prop := ∃ k i, k < i ∧ i < ws.length ∧ ws.getD k [] = ws.getD i []
open Classical in
theorem twice_call (w : V) (ws : List (List UInt8)) (h : IsW w ws) (hl : ws.length ≤ 1000) (σ : S) : callFn env (ev env) 96 [w] σ = some (.bool (decide (Twice ws)), σ) := by
  refine callFn_pure rfl rfl (by simp [closed_W h]) at96 rfl (by simp [Tryd.f96]) (by simp [Tryd.f96]) (G_start ?_) σ
  simp -implicitDefEqProofs only [Tryd.f96, Zaa, Zab, Zac, Zad, Zae, Zaf, Zag, Zah, Zai, Zaj, Zak, Zal, Zam, Zan, Zao, Zap, Zaq, Zar, Zas, Zat, Zau, Zav, Zaw, Zax, Zay, Zaz, Zba, Zbb, Zbc, Zbd, Zbe, Zbf, Zbg, Zbh, Zbi, Zbj, Zbk, Zbl, Zbm, Zbn, Zbo, Zbp, Zbq, Zbr, Zbs, Zbt, Zbu, Zbv, Zbw, Zbx, Zby, Zbz, Zca, Zcb, Zcc, Zcd, Zce, Zcf, Zcg, evalT, Zch, Nat.reduceLT, Nat.reduceEqDiff, if_true, if_false, reduceIte, true_and, Zci, Zcj, map_ite', Zck, bind_ite', Zcl, Zcm, Zcn, Zco, Zcp, Zcq, Zcr, Zcs, Zct, Zcu, Zcv, Zcw, Zcx, Zcy, Zcz, Zda, Zdb, Zdc, Zdd, Zde, Zdf, Zdg, ofVal, ofCell, argT, List.getD_cons_zero, List.getD_cons_succ, List.getElem?_toArray, List.getElem?_cons_zero, List.getElem?_cons_succ, List.nil_append, List.cons_append, List.append_nil, resT, Zdh, Zdi, Nat.mul_one, Zdj, Zdk, Zdl, Zdm, Zdn, Zdo, Zdp, Zdq, Zdr, Zds, Zdt, setT, Zdu, Zdv, Zdw, Zdx, Zdy, List.append_eq, Zdz, Zea, Zeb, Zec, Zed, Zee, Zef, Zeg, Zeh, Nat.add_zero, Zei, Zej, Zek, Zel, Zem, Zen, Int.toNat_natCast, Bool.false_eq_true, Int.reduceEq, Int.reduceLT, Int.reduceLE, Int.reduceNeg, not_false_eq_true, and_self, Zeo, Zep, Int.natCast_one, Int.cast_ofNat_Int, not_true_eq_false, decide_true, decide_false, true_implies, false_implies, Int.toNat_zero, List.length_cons, List.length_nil, Nat.zero_add, mb, Nat.reduceBEq, Bool.false_and, Bool.and_false, Zeq, tys, stb, Zer, Zes, Zet, Zeu, Zev, Zew, Bool.or_false, Bool.false_or, Bool.true_and, Bool.or_true, Bool.true_or, Zex, Zey]
  refine loop_rule (fun m T D σ => D = [] ∧ σ = S.empty ∧ T 0 = w ∧ ∃ i : Nat, T 3 = .int .i64 i ∧ i ≤ ws.length ∧ m = ws.length - i ∧ ∀ j k, k < j → j < i → ws.getD k [] ≠ ws.getD j []) ?_ _ _ _ _ ⟨rfl, rfl, rfl, 0, rfl, by omega, rfl, fun j k h1 h2 => by omega⟩
  rintro m T D σ ⟨rfl, rfl, t0, i, t3, hi, rfl, hno⟩
  refine G_start ?_
  by_cases hlt : i < ws.length
  · have c1 : (i : Int) < (ws.length : Int) := by omega
    have e1 : IntKind.i64.wrap ((i : Int) + 1) = ((i + 1 : Nat) : Int) := by rw [wrap_i64 (by omega) (by omega)]; omega
    simp -implicitDefEqProofs only [Zaa, Zab, Zac, Zad, Zae, Zaf, Zag, Zah, Zai, Zaj, Zak, Zal, Zam, Zan, Zao, Zap, Zaq, Zar, Zas, Zat, Zau, Zav, Zaw, Zax, Zay, Zaz, Zba, Zbb, Zbc, Zbd, Zbe, Zbf, Zbg, Zbh, Zbi, Zbj, Zbk, Zbl, Zbm, Zbn, Zbo, Zbp, Zbq, Zbr, Zbs, Zbt, Zbu, Zbv, Zbw, Zbx, Zby, Zbz, Zca, Zcb, Zcc, Zcd, Zce, Zcf, Zcg, evalT, Zch, Nat.reduceLT, Nat.reduceEqDiff, if_true, if_false, reduceIte, true_and, Zci, Zcj, map_ite', Zck, bind_ite', Zcl, Zcm, Zcn, Zco, Zcp, Zcq, Zcr, Zcs, Zct, Zcu, Zcv, Zcw, Zcx, Zcy, Zcz, Zda, Zdb, Zdc, Zdd, Zde, Zdf, Zdg, ofVal, ofCell, argT, List.getD_cons_zero, List.getD_cons_succ, List.getElem?_toArray, List.getElem?_cons_zero, List.getElem?_cons_succ, List.nil_append, List.cons_append, List.append_nil, resT, Zdh, Zdi, Nat.mul_one, Zdj, Zdk, Zdl, Zdm, Zdn, Zdo, Zdp, Zdq, Zdr, Zds, Zdt, setT, Zdu, Zdv, Zdw, Zdx, Zdy, List.append_eq, Zdz, Zea, Zeb, Zec, Zed, Zee, Zef, Zeg, Zeh, Nat.add_zero, Zei, Zej, Zek, Zel, Zem, Zen, Int.toNat_natCast, Bool.false_eq_true, Int.reduceEq, Int.reduceLT, Int.reduceLE, Int.reduceNeg, not_false_eq_true, and_self, Zeo, Zep, Int.natCast_one, Int.cast_ofNat_Int, not_true_eq_false, decide_true, decide_false, true_implies, false_implies, Int.toNat_zero, List.length_cons, List.length_nil, Nat.zero_add, mb, Nat.reduceBEq, Bool.false_and, Bool.and_false, Zeq, tys, stb, Zer, Zes, Zet, Zeu, Zev, Zew, Bool.or_false, Bool.false_or, Bool.true_and, Bool.or_true, Bool.true_or, Zex, Zey, t0, t3, c1, e1, len_W h]
    refine loop_rule (fun m T D σ => D = [] ∧ σ = S.empty ∧ T 0 = w ∧ T 3 = .int .i64 i ∧ ∃ k : Nat, T 4 = .int .i64 k ∧ k ≤ i ∧ m = i - k ∧ ∀ j, j < k → ws.getD j [] ≠ ws.getD i []) ?_ _ _ _ _ ⟨rfl, rfl, t0, t3, 0, rfl, by omega, rfl, fun j h1 => by omega⟩
    rintro m T D σ ⟨rfl, rfl, t0, t3, k, t4, hk, rfl, hno2⟩
    refine G_start ?_
    by_cases hlt2 : k < i
    · have c2 : (k : Int) < (i : Int) := by omega
      have e2 : IntKind.i64.wrap ((k : Int) + 1) = ((k + 1 : Nat) : Int) := by rw [wrap_i64 (by omega) (by omega)]; omega
      have x1 := idx_W h hlt
      have x2 := idx_W h (show k < ws.length by omega)
      by_cases he : ws.getD k [] = ws.getD i []
      · have hv : Twice ws := ⟨k, i, hlt2, hlt, he⟩
        simp -implicitDefEqProofs only [Zaa, Zab, Zac, Zad, Zae, Zaf, Zag, Zah, Zai, Zaj, Zak, Zal, Zam, Zan, Zao, Zap, Zaq, Zar, Zas, Zat, Zau, Zav, Zaw, Zax, Zay, Zaz, Zba, Zbb, Zbc, Zbd, Zbe, Zbf, Zbg, Zbh, Zbi, Zbj, Zbk, Zbl, Zbm, Zbn, Zbo, Zbp, Zbq, Zbr, Zbs, Zbt, Zbu, Zbv, Zbw, Zbx, Zby, Zbz, Zca, Zcb, Zcc, Zcd, Zce, Zcf, Zcg, evalT, Zch, Nat.reduceLT, Nat.reduceEqDiff, if_true, if_false, reduceIte, true_and, Zci, Zcj, map_ite', Zck, bind_ite', Zcl, Zcm, Zcn, Zco, Zcp, Zcq, Zcr, Zcs, Zct, Zcu, Zcv, Zcw, Zcx, Zcy, Zcz, Zda, Zdb, Zdc, Zdd, Zde, Zdf, Zdg, ofVal, ofCell, argT, List.getD_cons_zero, List.getD_cons_succ, List.getElem?_toArray, List.getElem?_cons_zero, List.getElem?_cons_succ, List.nil_append, List.cons_append, List.append_nil, resT, Zdh, Zdi, Nat.mul_one, Zdj, Zdk, Zdl, Zdm, Zdn, Zdo, Zdp, Zdq, Zdr, Zds, Zdt, setT, Zdu, Zdv, Zdw, Zdx, Zdy, List.append_eq, Zdz, Zea, Zeb, Zec, Zed, Zee, Zef, Zeg, Zeh, Nat.add_zero, Zei, Zej, Zek, Zel, Zem, Zen, Int.toNat_natCast, Bool.false_eq_true, Int.reduceEq, Int.reduceLT, Int.reduceLE, Int.reduceNeg, not_false_eq_true, and_self, Zeo, Zep, Int.natCast_one, Int.cast_ofNat_Int, not_true_eq_false, decide_true, decide_false, true_implies, false_implies, Int.toNat_zero, List.length_cons, List.length_nil, Nat.zero_add, mb, Nat.reduceBEq, Bool.false_and, Bool.and_false, Zeq, tys, stb, Zer, Zes, Zet, Zeu, Zev, Zew, Bool.or_false, Bool.false_or, Bool.true_and, Bool.or_true, Bool.true_or, Zex, Zey, t0, t3, t4, c2, e2, x1, x2, load_hd, vBin_seql, he]
        refine ⟨by kernel_rfl, ?_⟩
        simp [oneOr, sealDepth, sealV_bool, hv]
      · simp -implicitDefEqProofs only [Zaa, Zab, Zac, Zad, Zae, Zaf, Zag, Zah, Zai, Zaj, Zak, Zal, Zam, Zan, Zao, Zap, Zaq, Zar, Zas, Zat, Zau, Zav, Zaw, Zax, Zay, Zaz, Zba, Zbb, Zbc, Zbd, Zbe, Zbf, Zbg, Zbh, Zbi, Zbj, Zbk, Zbl, Zbm, Zbn, Zbo, Zbp, Zbq, Zbr, Zbs, Zbt, Zbu, Zbv, Zbw, Zbx, Zby, Zbz, Zca, Zcb, Zcc, Zcd, Zce, Zcf, Zcg, evalT, Zch, Nat.reduceLT, Nat.reduceEqDiff, if_true, if_false, reduceIte, true_and, Zci, Zcj, map_ite', Zck, bind_ite', Zcl, Zcm, Zcn, Zco, Zcp, Zcq, Zcr, Zcs, Zct, Zcu, Zcv, Zcw, Zcx, Zcy, Zcz, Zda, Zdb, Zdc, Zdd, Zde, Zdf, Zdg, ofVal, ofCell, argT, List.getD_cons_zero, List.getD_cons_succ, List.getElem?_toArray, List.getElem?_cons_zero, List.getElem?_cons_succ, List.nil_append, List.cons_append, List.append_nil, resT, Zdh, Zdi, Nat.mul_one, Zdj, Zdk, Zdl, Zdm, Zdn, Zdo, Zdp, Zdq, Zdr, Zds, Zdt, setT, Zdu, Zdv, Zdw, Zdx, Zdy, List.append_eq, Zdz, Zea, Zeb, Zec, Zed, Zee, Zef, Zeg, Zeh, Nat.add_zero, Zei, Zej, Zek, Zel, Zem, Zen, Int.toNat_natCast, Bool.false_eq_true, Int.reduceEq, Int.reduceLT, Int.reduceLE, Int.reduceNeg, not_false_eq_true, and_self, Zeo, Zep, Int.natCast_one, Int.cast_ofNat_Int, not_true_eq_false, decide_true, decide_false, true_implies, false_implies, Int.toNat_zero, List.length_cons, List.length_nil, Nat.zero_add, mb, Nat.reduceBEq, Bool.false_and, Bool.and_false, Zeq, tys, stb, Zer, Zes, Zet, Zeu, Zev, Zew, Bool.or_false, Bool.false_or, Bool.true_and, Bool.or_true, Bool.true_or, Zex, Zey, t0, t3, t4, c2, e2, x1, x2, load_hd, vBin_seql, he]
        exact ⟨by kernel_rfl, i - (k + 1), by omega, k + 1, rfl, by omega, rfl, fun j hj => by
          rcases Nat.lt_or_ge j k with h2 | h2
          · exact hno2 j h2
          · have : j = k := by omega
            subst this; exact he⟩
    · have hk2 : k = i := by omega
      subst hk2
      have c2 : ¬ (k : Int) < (k : Int) := by omega
      simp -implicitDefEqProofs only [Zaa, Zab, Zac, Zad, Zae, Zaf, Zag, Zah, Zai, Zaj, Zak, Zal, Zam, Zan, Zao, Zap, Zaq, Zar, Zas, Zat, Zau, Zav, Zaw, Zax, Zay, Zaz, Zba, Zbb, Zbc, Zbd, Zbe, Zbf, Zbg, Zbh, Zbi, Zbj, Zbk, Zbl, Zbm, Zbn, Zbo, Zbp, Zbq, Zbr, Zbs, Zbt, Zbu, Zbv, Zbw, Zbx, Zby, Zbz, Zca, Zcb, Zcc, Zcd, Zce, Zcf, Zcg, evalT, Zch, Nat.reduceLT, Nat.reduceEqDiff, if_true, if_false, reduceIte, true_and, Zci, Zcj, map_ite', Zck, bind_ite', Zcl, Zcm, Zcn, Zco, Zcp, Zcq, Zcr, Zcs, Zct, Zcu, Zcv, Zcw, Zcx, Zcy, Zcz, Zda, Zdb, Zdc, Zdd, Zde, Zdf, Zdg, ofVal, ofCell, argT, List.getD_cons_zero, List.getD_cons_succ, List.getElem?_toArray, List.getElem?_cons_zero, List.getElem?_cons_succ, List.nil_append, List.cons_append, List.append_nil, resT, Zdh, Zdi, Nat.mul_one, Zdj, Zdk, Zdl, Zdm, Zdn, Zdo, Zdp, Zdq, Zdr, Zds, Zdt, setT, Zdu, Zdv, Zdw, Zdx, Zdy, List.append_eq, Zdz, Zea, Zeb, Zec, Zed, Zee, Zef, Zeg, Zeh, Nat.add_zero, Zei, Zej, Zek, Zel, Zem, Zen, Int.toNat_natCast, Bool.false_eq_true, Int.reduceEq, Int.reduceLT, Int.reduceLE, Int.reduceNeg, not_false_eq_true, and_self, Zeo, Zep, Int.natCast_one, Int.cast_ofNat_Int, not_true_eq_false, decide_true, decide_false, true_implies, false_implies, Int.toNat_zero, List.length_cons, List.length_nil, Nat.zero_add, mb, Nat.reduceBEq, Bool.false_and, Bool.and_false, Zeq, tys, stb, Zer, Zes, Zet, Zeu, Zev, Zew, Bool.or_false, Bool.false_or, Bool.true_and, Bool.or_true, Bool.true_or, Zex, Zey, t0, t3, t4, c2, e1]
      exact ⟨ws.length - (k + 1), by omega, k + 1, rfl, by omega, rfl, fun j q h1 h2 => by
        rcases Nat.lt_or_ge j k with h3 | h3
        · exact hno j q h1 h3
        · have : j = k := by omega
          subst this; exact hno2 q h1⟩
  · have hi2 : i = ws.length := by omega
    subst hi2
    have c1 : ¬ (ws.length : Int) < (ws.length : Int) := by omega
    have hn : ¬ Twice ws := fun ⟨k, j, h1, h2, h3⟩ => hno j k h1 h2 h3
    simp -implicitDefEqProofs only [Zaa, Zab, Zac, Zad, Zae, Zaf, Zag, Zah, Zai, Zaj, Zak, Zal, Zam, Zan, Zao, Zap, Zaq, Zar, Zas, Zat, Zau, Zav, Zaw, Zax, Zay, Zaz, Zba, Zbb, Zbc, Zbd, Zbe, Zbf, Zbg, Zbh, Zbi, Zbj, Zbk, Zbl, Zbm, Zbn, Zbo, Zbp, Zbq, Zbr, Zbs, Zbt, Zbu, Zbv, Zbw, Zbx, Zby, Zbz, Zca, Zcb, Zcc, Zcd, Zce, Zcf, Zcg, evalT, Zch, Nat.reduceLT, Nat.reduceEqDiff, if_true, if_false, reduceIte, true_and, Zci, Zcj, map_ite', Zck, bind_ite', Zcl, Zcm, Zcn, Zco, Zcp, Zcq, Zcr, Zcs, Zct, Zcu, Zcv, Zcw, Zcx, Zcy, Zcz, Zda, Zdb, Zdc, Zdd, Zde, Zdf, Zdg, ofVal, ofCell, argT, List.getD_cons_zero, List.getD_cons_succ, List.getElem?_toArray, List.getElem?_cons_zero, List.getElem?_cons_succ, List.nil_append, List.cons_append, List.append_nil, resT, Zdh, Zdi, Nat.mul_one, Zdj, Zdk, Zdl, Zdm, Zdn, Zdo, Zdp, Zdq, Zdr, Zds, Zdt, setT, Zdu, Zdv, Zdw, Zdx, Zdy, List.append_eq, Zdz, Zea, Zeb, Zec, Zed, Zee, Zef, Zeg, Zeh, Nat.add_zero, Zei, Zej, Zek, Zel, Zem, Zen, Int.toNat_natCast, Bool.false_eq_true, Int.reduceEq, Int.reduceLT, Int.reduceLE, Int.reduceNeg, not_false_eq_true, and_self, Zeo, Zep, Int.natCast_one, Int.cast_ofNat_Int, not_true_eq_false, decide_true, decide_false, true_implies, false_implies, Int.toNat_zero, List.length_cons, List.length_nil, Nat.zero_add, mb, Nat.reduceBEq, Bool.false_and, Bool.and_false, Zeq, tys, stb, Zer, Zes, Zet, Zeu, Zev, Zew, Bool.or_false, Bool.false_or, Bool.true_and, Bool.or_true, Bool.true_or, Zex, Zey, t0, t3, c1, len_W h]
    simp [oneOr, sealDepth, sealV_bool, hn]
end Go.Proofs.YtbikmhpobflfeaaDoor

namespace Go.Proofs.YtbikmhpobflfeaaDoor
open Go.Ab
set_option maxRecDepth 100000
set_option linter.unusedSimpArgs false
set_option linter.unusedVariables false
theorem at61 : env.P.funcs[61]? = some Tryd.f61 := by kernel_rfl
open Classical in
/-- the error of a column's values -/
noncomputable def colE (c : Col) : Int :=
  if c.ws.length = 0 then (if c.lo < -1000000 ∨ 1000000 < c.hi ∨ c.hi < c.lo then 2 else 0)
  else if 64 < c.ws.length then 4
  else if ∃ i, i < c.ws.length ∧ ¬ IsName (c.ws.getD i []) then 19
  else if Twice c.ws then 8
  else if c.lo ≠ 0 ∨ c.hi ≠ (c.ws.length : Int) - 1 then 2 else 0
def Short (c : Col) : Prop := c.name.length < 2 ^ 63 ∧ c.ws.length ≤ 1000 ∧ ∀ i, i < c.ws.length → (c.ws.getD i []).length < 2 ^ 63
open Classical in
theorem colref_call (c : Col) (h : IsW c.w c.ws) (hs : Short c) (σ : S) : callFn env (ev env) 61 [.agg [.str c.name, .int .i64 c.lo, .int .i64 c.hi, c.w]] σ = some (.int .i64 (colE c), σ) := by
  refine callFn_pure rfl rfl (by simp [V.closed, V.closed.closedL, closed_W h]) at61 rfl (by simp [Tryd.f61]) (by simp [Tryd.f61]) (G_start ?_) σ
  obtain ⟨hs1, hs2, hs3⟩ := hs
  have hic := isCell_W h
  obtain ⟨nm, lo, hi, w, ws⟩ := c
  simp only at h hs1 hs2 hs3 hic ⊢
  by_cases h0 : ws.length = 0
  · have c0 : (ws.length : Int) = 0 := by omega
    by_cases h1 : lo < -1000000
    · have he : colE ⟨nm, lo, hi, w, ws⟩ = 2 := by simp only [colE, h0, if_true]; rw [if_pos (.inl h1)]
      simp -implicitDefEqProofs only [Tryd.f61, Zaa, Zab, Zac, Zad, Zae, Zaf, Zag, Zah, Zai, Zaj, Zak, Zal, Zam, Zan, Zao, Zap, Zaq, Zar, Zas, Zat, Zau, Zav, Zaw, Zax, Zay, Zaz, Zba, Zbb, Zbc, Zbd, Zbe, Zbf, Zbg, Zbh, Zbi, Zbj, Zbk, Zbl, Zbm, Zbn, Zbo, Zbp, Zbq, Zbr, Zbs, Zbt, Zbu, Zbv, Zbw, Zbx, Zby, Zbz, Zca, Zcb, Zcc, Zcd, Zce, Zcf, Zcg, evalT, Zch, Nat.reduceLT, Nat.reduceEqDiff, if_true, if_false, reduceIte, true_and, Zci, Zcj, map_ite', Zck, bind_ite', Zcl, Zcm, Zcn, Zco, Zcp, Zcq, Zcr, Zcs, Zct, Zcu, Zcv, Zcw, Zcx, Zcy, Zcz, Zda, Zdb, Zdc, Zdd, Zde, Zdf, Zdg, ofVal, ofCell, argT, List.getD_cons_zero, List.getD_cons_succ, List.getElem?_toArray, List.getElem?_cons_zero, List.getElem?_cons_succ, List.nil_append, List.cons_append, List.append_nil, resT, Zdh, Zdi, Nat.mul_one, Zdj, Zdk, Zdl, Zdm, Zdn, Zdo, Zdp, Zdq, Zdr, Zds, Zdt, setT, Zdu, Zdv, Zdw, Zdx, Zdy, List.append_eq, Zdz, Zea, Zeb, Zec, Zed, Zee, Zef, Zeg, Zeh, Nat.add_zero, Zei, Zej, Zek, Zel, Zem, Zen, Int.toNat_natCast, Bool.false_eq_true, Int.reduceEq, Int.reduceLT, Int.reduceLE, Int.reduceNeg, not_false_eq_true, and_self, Zeo, Zep, Int.natCast_one, Int.cast_ofNat_Int, not_true_eq_false, decide_true, decide_false, true_implies, false_implies, Int.toNat_zero, List.length_cons, List.length_nil, Nat.zero_add, mb, Nat.reduceBEq, Bool.false_and, Bool.and_false, Zeq, tys, stb, Zer, Zes, Zet, Zeu, Zev, Zew, Bool.or_false, Bool.false_or, Bool.true_and, Bool.or_true, Bool.true_or, Zex, Zey, tys2, empty_mk, len_W h, c0, h1]
      simp only [oneOr, sealDepth, sealV_int, he]
    by_cases h2 : 1000000 < hi
    · have he : colE ⟨nm, lo, hi, w, ws⟩ = 2 := by simp only [colE, h0, if_true]; rw [if_pos (.inr (.inl h2))]
      simp -implicitDefEqProofs only [Tryd.f61, Zaa, Zab, Zac, Zad, Zae, Zaf, Zag, Zah, Zai, Zaj, Zak, Zal, Zam, Zan, Zao, Zap, Zaq, Zar, Zas, Zat, Zau, Zav, Zaw, Zax, Zay, Zaz, Zba, Zbb, Zbc, Zbd, Zbe, Zbf, Zbg, Zbh, Zbi, Zbj, Zbk, Zbl, Zbm, Zbn, Zbo, Zbp, Zbq, Zbr, Zbs, Zbt, Zbu, Zbv, Zbw, Zbx, Zby, Zbz, Zca, Zcb, Zcc, Zcd, Zce, Zcf, Zcg, evalT, Zch, Nat.reduceLT, Nat.reduceEqDiff, if_true, if_false, reduceIte, true_and, Zci, Zcj, map_ite', Zck, bind_ite', Zcl, Zcm, Zcn, Zco, Zcp, Zcq, Zcr, Zcs, Zct, Zcu, Zcv, Zcw, Zcx, Zcy, Zcz, Zda, Zdb, Zdc, Zdd, Zde, Zdf, Zdg, ofVal, ofCell, argT, List.getD_cons_zero, List.getD_cons_succ, List.getElem?_toArray, List.getElem?_cons_zero, List.getElem?_cons_succ, List.nil_append, List.cons_append, List.append_nil, resT, Zdh, Zdi, Nat.mul_one, Zdj, Zdk, Zdl, Zdm, Zdn, Zdo, Zdp, Zdq, Zdr, Zds, Zdt, setT, Zdu, Zdv, Zdw, Zdx, Zdy, List.append_eq, Zdz, Zea, Zeb, Zec, Zed, Zee, Zef, Zeg, Zeh, Nat.add_zero, Zei, Zej, Zek, Zel, Zem, Zen, Int.toNat_natCast, Bool.false_eq_true, Int.reduceEq, Int.reduceLT, Int.reduceLE, Int.reduceNeg, not_false_eq_true, and_self, Zeo, Zep, Int.natCast_one, Int.cast_ofNat_Int, not_true_eq_false, decide_true, decide_false, true_implies, false_implies, Int.toNat_zero, List.length_cons, List.length_nil, Nat.zero_add, mb, Nat.reduceBEq, Bool.false_and, Bool.and_false, Zeq, tys, stb, Zer, Zes, Zet, Zeu, Zev, Zew, Bool.or_false, Bool.false_or, Bool.true_and, Bool.or_true, Bool.true_or, Zex, Zey, tys2, empty_mk, len_W h, c0, h1, h2]
      simp only [oneOr, sealDepth, sealV_int, he]
    by_cases h3 : hi < lo
    · have he : colE ⟨nm, lo, hi, w, ws⟩ = 2 := by simp only [colE, h0, if_true]; rw [if_pos (.inr (.inr h3))]
      simp -implicitDefEqProofs only [Tryd.f61, Zaa, Zab, Zac, Zad, Zae, Zaf, Zag, Zah, Zai, Zaj, Zak, Zal, Zam, Zan, Zao, Zap, Zaq, Zar, Zas, Zat, Zau, Zav, Zaw, Zax, Zay, Zaz, Zba, Zbb, Zbc, Zbd, Zbe, Zbf, Zbg, Zbh, Zbi, Zbj, Zbk, Zbl, Zbm, Zbn, Zbo, Zbp, Zbq, Zbr, Zbs, Zbt, Zbu, Zbv, Zbw, Zbx, Zby, Zbz, Zca, Zcb, Zcc, Zcd, Zce, Zcf, Zcg, evalT, Zch, Nat.reduceLT, Nat.reduceEqDiff, if_true, if_false, reduceIte, true_and, Zci, Zcj, map_ite', Zck, bind_ite', Zcl, Zcm, Zcn, Zco, Zcp, Zcq, Zcr, Zcs, Zct, Zcu, Zcv, Zcw, Zcx, Zcy, Zcz, Zda, Zdb, Zdc, Zdd, Zde, Zdf, Zdg, ofVal, ofCell, argT, List.getD_cons_zero, List.getD_cons_succ, List.getElem?_toArray, List.getElem?_cons_zero, List.getElem?_cons_succ, List.nil_append, List.cons_append, List.append_nil, resT, Zdh, Zdi, Nat.mul_one, Zdj, Zdk, Zdl, Zdm, Zdn, Zdo, Zdp, Zdq, Zdr, Zds, Zdt, setT, Zdu, Zdv, Zdw, Zdx, Zdy, List.append_eq, Zdz, Zea, Zeb, Zec, Zed, Zee, Zef, Zeg, Zeh, Nat.add_zero, Zei, Zej, Zek, Zel, Zem, Zen, Int.toNat_natCast, Bool.false_eq_true, Int.reduceEq, Int.reduceLT, Int.reduceLE, Int.reduceNeg, not_false_eq_true, and_self, Zeo, Zep, Int.natCast_one, Int.cast_ofNat_Int, not_true_eq_false, decide_true, decide_false, true_implies, false_implies, Int.toNat_zero, List.length_cons, List.length_nil, Nat.zero_add, mb, Nat.reduceBEq, Bool.false_and, Bool.and_false, Zeq, tys, stb, Zer, Zes, Zet, Zeu, Zev, Zew, Bool.or_false, Bool.false_or, Bool.true_and, Bool.or_true, Bool.true_or, Zex, Zey, tys2, empty_mk, len_W h, c0, h1, h2, h3]
      simp only [oneOr, sealDepth, sealV_int, he]
    · have he : colE ⟨nm, lo, hi, w, ws⟩ = 0 := by simp only [colE, h0, if_true]; rw [if_neg (by omega)]
      simp -implicitDefEqProofs only [Tryd.f61, Zaa, Zab, Zac, Zad, Zae, Zaf, Zag, Zah, Zai, Zaj, Zak, Zal, Zam, Zan, Zao, Zap, Zaq, Zar, Zas, Zat, Zau, Zav, Zaw, Zax, Zay, Zaz, Zba, Zbb, Zbc, Zbd, Zbe, Zbf, Zbg, Zbh, Zbi, Zbj, Zbk, Zbl, Zbm, Zbn, Zbo, Zbp, Zbq, Zbr, Zbs, Zbt, Zbu, Zbv, Zbw, Zbx, Zby, Zbz, Zca, Zcb, Zcc, Zcd, Zce, Zcf, Zcg, evalT, Zch, Nat.reduceLT, Nat.reduceEqDiff, if_true, if_false, reduceIte, true_and, Zci, Zcj, map_ite', Zck, bind_ite', Zcl, Zcm, Zcn, Zco, Zcp, Zcq, Zcr, Zcs, Zct, Zcu, Zcv, Zcw, Zcx, Zcy, Zcz, Zda, Zdb, Zdc, Zdd, Zde, Zdf, Zdg, ofVal, ofCell, argT, List.getD_cons_zero, List.getD_cons_succ, List.getElem?_toArray, List.getElem?_cons_zero, List.getElem?_cons_succ, List.nil_append, List.cons_append, List.append_nil, resT, Zdh, Zdi, Nat.mul_one, Zdj, Zdk, Zdl, Zdm, Zdn, Zdo, Zdp, Zdq, Zdr, Zds, Zdt, setT, Zdu, Zdv, Zdw, Zdx, Zdy, List.append_eq, Zdz, Zea, Zeb, Zec, Zed, Zee, Zef, Zeg, Zeh, Nat.add_zero, Zei, Zej, Zek, Zel, Zem, Zen, Int.toNat_natCast, Bool.false_eq_true, Int.reduceEq, Int.reduceLT, Int.reduceLE, Int.reduceNeg, not_false_eq_true, and_self, Zeo, Zep, Int.natCast_one, Int.cast_ofNat_Int, not_true_eq_false, decide_true, decide_false, true_implies, false_implies, Int.toNat_zero, List.length_cons, List.length_nil, Nat.zero_add, mb, Nat.reduceBEq, Bool.false_and, Bool.and_false, Zeq, tys, stb, Zer, Zes, Zet, Zeu, Zev, Zew, Bool.or_false, Bool.false_or, Bool.true_and, Bool.or_true, Bool.true_or, Zex, Zey, tys2, empty_mk, len_W h, c0, h1, h2, h3]
      simp only [oneOr, sealDepth, sealV_int, he]
  have c0 : ¬ (ws.length : Int) = 0 := by omega
  by_cases h1 : (64 : Int) < (ws.length : Int)
  · have he : colE ⟨nm, lo, hi, w, ws⟩ = 4 := by simp only [colE]; rw [if_neg h0, if_pos (by omega)]
    simp -implicitDefEqProofs only [Tryd.f61, Zaa, Zab, Zac, Zad, Zae, Zaf, Zag, Zah, Zai, Zaj, Zak, Zal, Zam, Zan, Zao, Zap, Zaq, Zar, Zas, Zat, Zau, Zav, Zaw, Zax, Zay, Zaz, Zba, Zbb, Zbc, Zbd, Zbe, Zbf, Zbg, Zbh, Zbi, Zbj, Zbk, Zbl, Zbm, Zbn, Zbo, Zbp, Zbq, Zbr, Zbs, Zbt, Zbu, Zbv, Zbw, Zbx, Zby, Zbz, Zca, Zcb, Zcc, Zcd, Zce, Zcf, Zcg, evalT, Zch, Nat.reduceLT, Nat.reduceEqDiff, if_true, if_false, reduceIte, true_and, Zci, Zcj, map_ite', Zck, bind_ite', Zcl, Zcm, Zcn, Zco, Zcp, Zcq, Zcr, Zcs, Zct, Zcu, Zcv, Zcw, Zcx, Zcy, Zcz, Zda, Zdb, Zdc, Zdd, Zde, Zdf, Zdg, ofVal, ofCell, argT, List.getD_cons_zero, List.getD_cons_succ, List.getElem?_toArray, List.getElem?_cons_zero, List.getElem?_cons_succ, List.nil_append, List.cons_append, List.append_nil, resT, Zdh, Zdi, Nat.mul_one, Zdj, Zdk, Zdl, Zdm, Zdn, Zdo, Zdp, Zdq, Zdr, Zds, Zdt, setT, Zdu, Zdv, Zdw, Zdx, Zdy, List.append_eq, Zdz, Zea, Zeb, Zec, Zed, Zee, Zef, Zeg, Zeh, Nat.add_zero, Zei, Zej, Zek, Zel, Zem, Zen, Int.toNat_natCast, Bool.false_eq_true, Int.reduceEq, Int.reduceLT, Int.reduceLE, Int.reduceNeg, not_false_eq_true, and_self, Zeo, Zep, Int.natCast_one, Int.cast_ofNat_Int, not_true_eq_false, decide_true, decide_false, true_implies, false_implies, Int.toNat_zero, List.length_cons, List.length_nil, Nat.zero_add, mb, Nat.reduceBEq, Bool.false_and, Bool.and_false, Zeq, tys, stb, Zer, Zes, Zet, Zeu, Zev, Zew, Bool.or_false, Bool.false_or, Bool.true_and, Bool.or_true, Bool.true_or, Zex, Zey, tys2, empty_mk, len_W h, c0, h1]
    simp only [oneOr, sealDepth, sealV_int, he]
  simp -implicitDefEqProofs only [Tryd.f61, Zaa, Zab, Zac, Zad, Zae, Zaf, Zag, Zah, Zai, Zaj, Zak, Zal, Zam, Zan, Zao, Zap, Zaq, Zar, Zas, Zat, Zau, Zav, Zaw, Zax, Zay, Zaz, Zba, Zbb, Zbc, Zbd, Zbe, Zbf, Zbg, Zbh, Zbi, Zbj, Zbk, Zbl, Zbm, Zbn, Zbo, Zbp, Zbq, Zbr, Zbs, Zbt, Zbu, Zbv, Zbw, Zbx, Zby, Zbz, Zca, Zcb, Zcc, Zcd, Zce, Zcf, Zcg, evalT, Zch, Nat.reduceLT, Nat.reduceEqDiff, if_true, if_false, reduceIte, true_and, Zci, Zcj, map_ite', Zck, bind_ite', Zcl, Zcm, Zcn, Zco, Zcp, Zcq, Zcr, Zcs, Zct, Zcu, Zcv, Zcw, Zcx, Zcy, Zcz, Zda, Zdb, Zdc, Zdd, Zde, Zdf, Zdg, ofVal, ofCell, argT, List.getD_cons_zero, List.getD_cons_succ, List.getElem?_toArray, List.getElem?_cons_zero, List.getElem?_cons_succ, List.nil_append, List.cons_append, List.append_nil, resT, Zdh, Zdi, Nat.mul_one, Zdj, Zdk, Zdl, Zdm, Zdn, Zdo, Zdp, Zdq, Zdr, Zds, Zdt, setT, Zdu, Zdv, Zdw, Zdx, Zdy, List.append_eq, Zdz, Zea, Zeb, Zec, Zed, Zee, Zef, Zeg, Zeh, Nat.add_zero, Zei, Zej, Zek, Zel, Zem, Zen, Int.toNat_natCast, Bool.false_eq_true, Int.reduceEq, Int.reduceLT, Int.reduceLE, Int.reduceNeg, not_false_eq_true, and_self, Zeo, Zep, Int.natCast_one, Int.cast_ofNat_Int, not_true_eq_false, decide_true, decide_false, true_implies, false_implies, Int.toNat_zero, List.length_cons, List.length_nil, Nat.zero_add, mb, Nat.reduceBEq, Bool.false_and, Bool.and_false, Zeq, tys, stb, Zer, Zes, Zet, Zeu, Zev, Zew, Bool.or_false, Bool.false_or, Bool.true_and, Bool.or_true, Bool.true_or, Zex, Zey, tys2, empty_mk, len_W h, c0, h1]
  refine loop_rule (fun m T D σ => D = [] ∧ σ = ⟨[.cells [.str nm, .int .i64 lo, .int .i64 hi, w] 44], []⟩ ∧ T 1 = .ptr 0 0 ∧ T 3 = .int .i64 ws.length ∧ ∃ i : Nat, T 4 = .int .i64 i ∧ i ≤ ws.length ∧ m = ws.length - i ∧ ∀ j, j < i → IsName (ws.getD j [])) ?_ _ _ _ _ ⟨rfl, rfl, rfl, rfl, 0, rfl, by omega, rfl, fun j h1 => by omega⟩
  rintro m T D σ ⟨rfl, rfl, t1, t3, i, t4, hi', rfl, hok⟩
  refine G_start ?_
  by_cases hlt : i < ws.length
  · have c1 : (i : Int) < (ws.length : Int) := by omega
    have e1 : IntKind.i64.wrap ((i : Int) + 1) = ((i + 1 : Nat) : Int) := by rw [wrap_i64 (by omega) (by omega)]; omega
    have x1 := idx_W h hlt
    by_cases hn : IsName (ws.getD i [])
    · simp -implicitDefEqProofs only [Zaa, Zab, Zac, Zad, Zae, Zaf, Zag, Zah, Zai, Zaj, Zak, Zal, Zam, Zan, Zao, Zap, Zaq, Zar, Zas, Zat, Zau, Zav, Zaw, Zax, Zay, Zaz, Zba, Zbb, Zbc, Zbd, Zbe, Zbf, Zbg, Zbh, Zbi, Zbj, Zbk, Zbl, Zbm, Zbn, Zbo, Zbp, Zbq, Zbr, Zbs, Zbt, Zbu, Zbv, Zbw, Zbx, Zby, Zbz, Zca, Zcb, Zcc, Zcd, Zce, Zcf, Zcg, evalT, Zch, Nat.reduceLT, Nat.reduceEqDiff, if_true, if_false, reduceIte, true_and, Zci, Zcj, map_ite', Zck, bind_ite', Zcl, Zcm, Zcn, Zco, Zcp, Zcq, Zcr, Zcs, Zct, Zcu, Zcv, Zcw, Zcx, Zcy, Zcz, Zda, Zdb, Zdc, Zdd, Zde, Zdf, Zdg, ofVal, ofCell, argT, List.getD_cons_zero, List.getD_cons_succ, List.getElem?_toArray, List.getElem?_cons_zero, List.getElem?_cons_succ, List.nil_append, List.cons_append, List.append_nil, resT, Zdh, Zdi, Nat.mul_one, Zdj, Zdk, Zdl, Zdm, Zdn, Zdo, Zdp, Zdq, Zdr, Zds, Zdt, setT, Zdu, Zdv, Zdw, Zdx, Zdy, List.append_eq, Zdz, Zea, Zeb, Zec, Zed, Zee, Zef, Zeg, Zeh, Nat.add_zero, Zei, Zej, Zek, Zel, Zem, Zen, Int.toNat_natCast, Bool.false_eq_true, Int.reduceEq, Int.reduceLT, Int.reduceLE, Int.reduceNeg, not_false_eq_true, and_self, Zeo, Zep, Int.natCast_one, Int.cast_ofNat_Int, not_true_eq_false, decide_true, decide_false, true_implies, false_implies, Int.toNat_zero, List.length_cons, List.length_nil, Nat.zero_add, mb, Nat.reduceBEq, Bool.false_and, Bool.and_false, Zeq, tys, stb, Zer, Zes, Zet, Zeu, Zev, Zew, Bool.or_false, Bool.false_or, Bool.true_and, Bool.or_true, Bool.true_or, Zex, Zey, tys2, t1, t3, t4, c1, e1, x1, load_hd, refname_call _ (hs3 i hlt), hn]
      exact ⟨ws.length - (i + 1), by omega, i + 1, rfl, by omega, rfl, fun j hj => by
        rcases Nat.lt_or_ge j i with h2 | h2
        · exact hok j h2
        · have : j = i := by omega
          subst this; exact hn⟩
    · have he : colE ⟨nm, lo, hi, w, ws⟩ = 19 := by simp only [colE]; rw [if_neg h0, if_neg (by omega), if_pos ⟨i, hlt, hn⟩]
      simp -implicitDefEqProofs only [Zaa, Zab, Zac, Zad, Zae, Zaf, Zag, Zah, Zai, Zaj, Zak, Zal, Zam, Zan, Zao, Zap, Zaq, Zar, Zas, Zat, Zau, Zav, Zaw, Zax, Zay, Zaz, Zba, Zbb, Zbc, Zbd, Zbe, Zbf, Zbg, Zbh, Zbi, Zbj, Zbk, Zbl, Zbm, Zbn, Zbo, Zbp, Zbq, Zbr, Zbs, Zbt, Zbu, Zbv, Zbw, Zbx, Zby, Zbz, Zca, Zcb, Zcc, Zcd, Zce, Zcf, Zcg, evalT, Zch, Nat.reduceLT, Nat.reduceEqDiff, if_true, if_false, reduceIte, true_and, Zci, Zcj, map_ite', Zck, bind_ite', Zcl, Zcm, Zcn, Zco, Zcp, Zcq, Zcr, Zcs, Zct, Zcu, Zcv, Zcw, Zcx, Zcy, Zcz, Zda, Zdb, Zdc, Zdd, Zde, Zdf, Zdg, ofVal, ofCell, argT, List.getD_cons_zero, List.getD_cons_succ, List.getElem?_toArray, List.getElem?_cons_zero, List.getElem?_cons_succ, List.nil_append, List.cons_append, List.append_nil, resT, Zdh, Zdi, Nat.mul_one, Zdj, Zdk, Zdl, Zdm, Zdn, Zdo, Zdp, Zdq, Zdr, Zds, Zdt, setT, Zdu, Zdv, Zdw, Zdx, Zdy, List.append_eq, Zdz, Zea, Zeb, Zec, Zed, Zee, Zef, Zeg, Zeh, Nat.add_zero, Zei, Zej, Zek, Zel, Zem, Zen, Int.toNat_natCast, Bool.false_eq_true, Int.reduceEq, Int.reduceLT, Int.reduceLE, Int.reduceNeg, not_false_eq_true, and_self, Zeo, Zep, Int.natCast_one, Int.cast_ofNat_Int, not_true_eq_false, decide_true, decide_false, true_implies, false_implies, Int.toNat_zero, List.length_cons, List.length_nil, Nat.zero_add, mb, Nat.reduceBEq, Bool.false_and, Bool.and_false, Zeq, tys, stb, Zer, Zes, Zet, Zeu, Zev, Zew, Bool.or_false, Bool.false_or, Bool.true_and, Bool.or_true, Bool.true_or, Zex, Zey, tys2, t1, t3, t4, c1, e1, x1, load_hd, refname_call _ (hs3 i hlt), hn]
      simp only [oneOr, sealDepth, sealV_int, he]
  · have hi2 : i = ws.length := by omega
    subst hi2
    have c1 : ¬ (ws.length : Int) < (ws.length : Int) := by omega
    have hno : ¬ ∃ i, i < ws.length ∧ ¬ IsName (ws.getD i []) := fun ⟨i, h1, h2⟩ => h2 (hok i h1)
    by_cases h2 : Twice ws
    · have he : colE ⟨nm, lo, hi, w, ws⟩ = 8 := by simp only [colE]; rw [if_neg h0, if_neg (by omega), if_neg hno, if_pos h2]
      simp -implicitDefEqProofs only [Zaa, Zab, Zac, Zad, Zae, Zaf, Zag, Zah, Zai, Zaj, Zak, Zal, Zam, Zan, Zao, Zap, Zaq, Zar, Zas, Zat, Zau, Zav, Zaw, Zax, Zay, Zaz, Zba, Zbb, Zbc, Zbd, Zbe, Zbf, Zbg, Zbh, Zbi, Zbj, Zbk, Zbl, Zbm, Zbn, Zbo, Zbp, Zbq, Zbr, Zbs, Zbt, Zbu, Zbv, Zbw, Zbx, Zby, Zbz, Zca, Zcb, Zcc, Zcd, Zce, Zcf, Zcg, evalT, Zch, Nat.reduceLT, Nat.reduceEqDiff, if_true, if_false, reduceIte, true_and, Zci, Zcj, map_ite', Zck, bind_ite', Zcl, Zcm, Zcn, Zco, Zcp, Zcq, Zcr, Zcs, Zct, Zcu, Zcv, Zcw, Zcx, Zcy, Zcz, Zda, Zdb, Zdc, Zdd, Zde, Zdf, Zdg, ofVal, ofCell, argT, List.getD_cons_zero, List.getD_cons_succ, List.getElem?_toArray, List.getElem?_cons_zero, List.getElem?_cons_succ, List.nil_append, List.cons_append, List.append_nil, resT, Zdh, Zdi, Nat.mul_one, Zdj, Zdk, Zdl, Zdm, Zdn, Zdo, Zdp, Zdq, Zdr, Zds, Zdt, setT, Zdu, Zdv, Zdw, Zdx, Zdy, List.append_eq, Zdz, Zea, Zeb, Zec, Zed, Zee, Zef, Zeg, Zeh, Nat.add_zero, Zei, Zej, Zek, Zel, Zem, Zen, Int.toNat_natCast, Bool.false_eq_true, Int.reduceEq, Int.reduceLT, Int.reduceLE, Int.reduceNeg, not_false_eq_true, and_self, Zeo, Zep, Int.natCast_one, Int.cast_ofNat_Int, not_true_eq_false, decide_true, decide_false, true_implies, false_implies, Int.toNat_zero, List.length_cons, List.length_nil, Nat.zero_add, mb, Nat.reduceBEq, Bool.false_and, Bool.and_false, Zeq, tys, stb, Zer, Zes, Zet, Zeu, Zev, Zew, Bool.or_false, Bool.false_or, Bool.true_and, Bool.or_true, Bool.true_or, Zex, Zey, tys2, t1, t3, t4, c1, twice_call w ws h hs2, h2]
      simp only [oneOr, sealDepth, sealV_int, he]
    have e2 : IntKind.i64.wrap ((ws.length : Int) - 1) = (ws.length : Int) - 1 := wrap_i64 (by omega) (by omega)
    by_cases h3 : lo = 0
    · by_cases h4 : hi = (ws.length : Int) - 1
      · have he : colE ⟨nm, lo, hi, w, ws⟩ = 0 := by simp only [colE]; rw [if_neg h0, if_neg (by omega), if_neg hno, if_neg h2, if_neg (by rintro (h | h); exact h h3; exact h h4)]
        simp -implicitDefEqProofs only [Zaa, Zab, Zac, Zad, Zae, Zaf, Zag, Zah, Zai, Zaj, Zak, Zal, Zam, Zan, Zao, Zap, Zaq, Zar, Zas, Zat, Zau, Zav, Zaw, Zax, Zay, Zaz, Zba, Zbb, Zbc, Zbd, Zbe, Zbf, Zbg, Zbh, Zbi, Zbj, Zbk, Zbl, Zbm, Zbn, Zbo, Zbp, Zbq, Zbr, Zbs, Zbt, Zbu, Zbv, Zbw, Zbx, Zby, Zbz, Zca, Zcb, Zcc, Zcd, Zce, Zcf, Zcg, evalT, Zch, Nat.reduceLT, Nat.reduceEqDiff, if_true, if_false, reduceIte, true_and, Zci, Zcj, map_ite', Zck, bind_ite', Zcl, Zcm, Zcn, Zco, Zcp, Zcq, Zcr, Zcs, Zct, Zcu, Zcv, Zcw, Zcx, Zcy, Zcz, Zda, Zdb, Zdc, Zdd, Zde, Zdf, Zdg, ofVal, ofCell, argT, List.getD_cons_zero, List.getD_cons_succ, List.getElem?_toArray, List.getElem?_cons_zero, List.getElem?_cons_succ, List.nil_append, List.cons_append, List.append_nil, resT, Zdh, Zdi, Nat.mul_one, Zdj, Zdk, Zdl, Zdm, Zdn, Zdo, Zdp, Zdq, Zdr, Zds, Zdt, setT, Zdu, Zdv, Zdw, Zdx, Zdy, List.append_eq, Zdz, Zea, Zeb, Zec, Zed, Zee, Zef, Zeg, Zeh, Nat.add_zero, Zei, Zej, Zek, Zel, Zem, Zen, Int.toNat_natCast, Bool.false_eq_true, Int.reduceEq, Int.reduceLT, Int.reduceLE, Int.reduceNeg, not_false_eq_true, and_self, Zeo, Zep, Int.natCast_one, Int.cast_ofNat_Int, not_true_eq_false, decide_true, decide_false, true_implies, false_implies, Int.toNat_zero, List.length_cons, List.length_nil, Nat.zero_add, mb, Nat.reduceBEq, Bool.false_and, Bool.and_false, Zeq, tys, stb, Zer, Zes, Zet, Zeu, Zev, Zew, Bool.or_false, Bool.false_or, Bool.true_and, Bool.or_true, Bool.true_or, Zex, Zey, tys2, t1, t3, t4, c1, twice_call w ws h hs2, h2, h3, e2, h4]
        simp only [oneOr, sealDepth, sealV_int, ← h3, ← h4, he]
      · have he : colE ⟨nm, lo, hi, w, ws⟩ = 2 := by simp only [colE]; rw [if_neg h0, if_neg (by omega), if_neg hno, if_neg h2, if_pos (.inr h4)]
        simp -implicitDefEqProofs only [Zaa, Zab, Zac, Zad, Zae, Zaf, Zag, Zah, Zai, Zaj, Zak, Zal, Zam, Zan, Zao, Zap, Zaq, Zar, Zas, Zat, Zau, Zav, Zaw, Zax, Zay, Zaz, Zba, Zbb, Zbc, Zbd, Zbe, Zbf, Zbg, Zbh, Zbi, Zbj, Zbk, Zbl, Zbm, Zbn, Zbo, Zbp, Zbq, Zbr, Zbs, Zbt, Zbu, Zbv, Zbw, Zbx, Zby, Zbz, Zca, Zcb, Zcc, Zcd, Zce, Zcf, Zcg, evalT, Zch, Nat.reduceLT, Nat.reduceEqDiff, if_true, if_false, reduceIte, true_and, Zci, Zcj, map_ite', Zck, bind_ite', Zcl, Zcm, Zcn, Zco, Zcp, Zcq, Zcr, Zcs, Zct, Zcu, Zcv, Zcw, Zcx, Zcy, Zcz, Zda, Zdb, Zdc, Zdd, Zde, Zdf, Zdg, ofVal, ofCell, argT, List.getD_cons_zero, List.getD_cons_succ, List.getElem?_toArray, List.getElem?_cons_zero, List.getElem?_cons_succ, List.nil_append, List.cons_append, List.append_nil, resT, Zdh, Zdi, Nat.mul_one, Zdj, Zdk, Zdl, Zdm, Zdn, Zdo, Zdp, Zdq, Zdr, Zds, Zdt, setT, Zdu, Zdv, Zdw, Zdx, Zdy, List.append_eq, Zdz, Zea, Zeb, Zec, Zed, Zee, Zef, Zeg, Zeh, Nat.add_zero, Zei, Zej, Zek, Zel, Zem, Zen, Int.toNat_natCast, Bool.false_eq_true, Int.reduceEq, Int.reduceLT, Int.reduceLE, Int.reduceNeg, not_false_eq_true, and_self, Zeo, Zep, Int.natCast_one, Int.cast_ofNat_Int, not_true_eq_false, decide_true, decide_false, true_implies, false_implies, Int.toNat_zero, List.length_cons, List.length_nil, Nat.zero_add, mb, Nat.reduceBEq, Bool.false_and, Bool.and_false, Zeq, tys, stb, Zer, Zes, Zet, Zeu, Zev, Zew, Bool.or_false, Bool.false_or, Bool.true_and, Bool.or_true, Bool.true_or, Zex, Zey, tys2, t1, t3, t4, c1, twice_call w ws h hs2, h2, h3, e2, h4]
        simp only [oneOr, sealDepth, sealV_int, ← h3, he]
    · have he : colE ⟨nm, lo, hi, w, ws⟩ = 2 := by simp only [colE]; rw [if_neg h0, if_neg (by omega), if_neg hno, if_neg h2, if_pos (.inl h3)]
      simp -implicitDefEqProofs only [Zaa, Zab, Zac, Zad, Zae, Zaf, Zag, Zah, Zai, Zaj, Zak, Zal, Zam, Zan, Zao, Zap, Zaq, Zar, Zas, Zat, Zau, Zav, Zaw, Zax, Zay, Zaz, Zba, Zbb, Zbc, Zbd, Zbe, Zbf, Zbg, Zbh, Zbi, Zbj, Zbk, Zbl, Zbm, Zbn, Zbo, Zbp, Zbq, Zbr, Zbs, Zbt, Zbu, Zbv, Zbw, Zbx, Zby, Zbz, Zca, Zcb, Zcc, Zcd, Zce, Zcf, Zcg, evalT, Zch, Nat.reduceLT, Nat.reduceEqDiff, if_true, if_false, reduceIte, true_and, Zci, Zcj, map_ite', Zck, bind_ite', Zcl, Zcm, Zcn, Zco, Zcp, Zcq, Zcr, Zcs, Zct, Zcu, Zcv, Zcw, Zcx, Zcy, Zcz, Zda, Zdb, Zdc, Zdd, Zde, Zdf, Zdg, ofVal, ofCell, argT, List.getD_cons_zero, List.getD_cons_succ, List.getElem?_toArray, List.getElem?_cons_zero, List.getElem?_cons_succ, List.nil_append, List.cons_append, List.append_nil, resT, Zdh, Zdi, Nat.mul_one, Zdj, Zdk, Zdl, Zdm, Zdn, Zdo, Zdp, Zdq, Zdr, Zds, Zdt, setT, Zdu, Zdv, Zdw, Zdx, Zdy, List.append_eq, Zdz, Zea, Zeb, Zec, Zed, Zee, Zef, Zeg, Zeh, Nat.add_zero, Zei, Zej, Zek, Zel, Zem, Zen, Int.toNat_natCast, Bool.false_eq_true, Int.reduceEq, Int.reduceLT, Int.reduceLE, Int.reduceNeg, not_false_eq_true, and_self, Zeo, Zep, Int.natCast_one, Int.cast_ofNat_Int, not_true_eq_false, decide_true, decide_false, true_implies, false_implies, Int.toNat_zero, List.length_cons, List.length_nil, Nat.zero_add, mb, Nat.reduceBEq, Bool.false_and, Bool.and_false, Zeq, tys, stb, Zer, Zes, Zet, Zeu, Zev, Zew, Bool.or_false, Bool.false_or, Bool.true_and, Bool.or_true, Bool.true_or, Zex, Zey, tys2, t1, t3, t4, c1, twice_call w ws h hs2, h2, h3]
      simp only [oneOr, sealDepth, sealV_int, he]
end Go.Proofs.YtbikmhpobflfeaaDoor

namespace Go.Proofs.YtbikmhpobflfeaaDoor
open Go.Ab
set_option maxRecDepth 100000
set_option linter.unusedSimpArgs false
set_option linter.unusedVariables false
theorem at24 : env.P.funcs[24]? = some Tryd.f24 := by kernel_rfl
theorem len_snoc (L : List AObj) (o : AObj) : (L ++ [o]).length = L.length + 1 := by simp
open Classical in
/-- the error of a column in its place -/
noncomputable def colX (cs : List Col) (i : Nat) : Int :=
  if ¬ IsName (cs.getD i Col.none).name then 19
  else if ∃ k, k < i ∧ (cs.getD k Col.none).name = (cs.getD i Col.none).name then 8
  else colE (cs.getD i Col.none)
/-- the first error from a place on -/
noncomputable def firstE (cs : List Col) : Nat → Nat → Int × Int
  | 0, _ => (0, -1)
  | m + 1, i => if colX cs i = 0 then firstE cs m (i + 1) else (colX cs i, i)
open Classical in
/-- the first error of a schema -/
noncomputable def checkE (nm : List UInt8) (pb : Bool) (many : Int) (cs : List Col) : Int × Int :=
  if ¬ IsName nm then (19, -1)
  else if (pb = true ∧ many ≠ 0) ∨ (pb = false ∧ (many < 1 ∨ 50 < many)) then (2, -1)
  else if cs.length = 0 then (3, -1)
  else if 16 < cs.length then (4, -1)
  else firstE cs cs.length 0
def blkC (id : Nat) : Code → Option Code
  | .block i c => if i = id then some c else blkC id c
  | .seq a b => (blkC id a).or (blkC id b)
  | .cond _ a b => (blkC id a).or (blkC id b)
  | .loop c => blkC id c
  | .scope c => blkC id c
  | _ => none
def loopB (id : Nat) (c : Code) : Code := match blkC id c with
  | some (.loop c) => c
  | _ => .skip
abbrev Q24 (r : Int × Int) : Post := ⟨wpR env [.tmp 2, .tmp 3] fun v' σ' => sealV σ'.heap sealDepth v' = some (.tup [.int .i64 r.1, .int .i64 r.2]), fun _ _ _ _ => False, wpR env [.tmp 2, .tmp 3] fun v' σ' => sealV σ'.heap sealDepth v' = some (.tup [.int .i64 r.1, .int .i64 r.2])⟩
open Classical in
theorem check_loop (nm : List UInt8) (pb : Bool) (many : Int) (cv : V) (cs : List Col) (hc : IsC cv cs) (ok : OkC cs) (hl : cs.length ≤ 1000) (hs : ∀ i, i < cs.length → Short (cs.getD i Col.none)) (r : Int × Int) (hr : r = firstE cs cs.length 0) (c2 : Code)
    (h2 : ∀ T σ, r = (0, -1) → G env 24 none 84 (Q24 r) [] c2 T [] σ) (T : Tm) (t1 : T 1 = .ptr 0 0) (t4 : T 4 = .int .i64 0) :
    wpLoop env 24 none 84 (loopB 1 (bodyOf Tryd.f24)) T [] ⟨[.cells [.str nm, .bool pb, .int .i64 many, cv] 29], []⟩ (Kt.post env 24 none 84 (Q24 r) [.blk 1, .code c2]) := by
  simp only [bodyOf, Tryd.f24, Option.getD_some, loopB, blkC, Option.or, Nat.reduceEqDiff, if_false, if_true, reduceIte]
  refine loop_rule (fun m T D σ => D = [] ∧ T 1 = .ptr 0 0 ∧ ∃ (L : List AObj) (ts : List Nat) (i : Nat), σ = ⟨L, ts⟩ ∧ L[0]? = some (.cells [.str nm, .bool pb, .int .i64 many, cv] 29) ∧ T 4 = .int .i64 i ∧ i ≤ cs.length ∧ m = cs.length - i ∧ r = firstE cs (cs.length - i) i) ?_ _ _ _ _
    ⟨rfl, t1, _, _, 0, rfl, rfl, t4, by omega, rfl, by simpa using hr⟩
  clear t1 t4 T
  rintro m T D σ ⟨rfl, t1, L, ts, i, rfl, l0, t4, hi, rfl, hri⟩
  refine G_start ?_
  have hn0 : 0 < L.length := by
    rcases Nat.lt_or_ge 0 L.length with h | h
    · exact h
    · rw [List.getElem?_eq_none h] at l0; simp at l0
  by_cases hlt : i < cs.length
  · have c1 : (i : Int) < (cs.length : Int) := by omega
    have e1 : IntKind.i64.wrap ((i : Int) + 1) = ((i + 1 : Nat) : Int) := by rw [wrap_i64 (by omega) (by omega)]; omega
    have hwc := ok.at hlt
    have hsc := hs i hlt
    have hx := idx_C hc hlt
    have hic := isCell_W hwc
    have hE0 : ∀ o, (L ++ [o])[0]? = some (.cells [.str nm, .bool pb, .int .i64 many, cv] 29) := fun o => by rw [List.getElem?_append_left hn0]; exact l0
    obtain ⟨q, hq⟩ : ∃ q, cs.length - i = q + 1 := ⟨cs.length - i - 1, by omega⟩
    have hq2 : q = cs.length - (i + 1) := by omega
    have hstep : firstE cs (cs.length - i) i = if colX cs i = 0 then firstE cs q (i + 1) else (colX cs i, (i : Int)) := by rw [hq]; rfl
    rw [hstep] at hri
    by_cases hnm : IsName (cs.getD i Col.none).name
    case neg =>
      have hX : colX cs i = 19 := by simp only [colX]; rw [if_pos hnm]
      rw [hX, if_neg (by omega)] at hri
      subst hri
      simp -implicitDefEqProofs only [Zaa, Zab, Zac, Zad, Zae, Zaf, Zag, Zah, Zai, Zaj, Zak, Zal, Zam, Zan, Zao, Zap, Zaq, Zar, Zas, Zat, Zau, Zav, Zaw, Zax, Zay, Zaz, Zba, Zbb, Zbc, Zbd, Zbe, Zbf, Zbg, Zbh, Zbi, Zbj, Zbk, Zbl, Zbm, Zbn, Zbo, Zbp, Zbq, Zbr, Zbs, Zbt, Zbu, Zbv, Zbw, Zbx, Zby, Zbz, Zca, Zcb, Zcc, Zcd, Zce, Zcf, Zcg, evalT, Zch, Nat.reduceLT, Nat.reduceEqDiff, if_true, if_false, reduceIte, true_and, Zci, Zcj, map_ite', Zck, bind_ite', Zcl, Zcm, Zcn, Zco, Zcp, Zcq, Zcr, Zcs, Zct, Zcu, Zcv, Zcw, Zcx, Zcy, Zcz, Zda, Zdb, Zdc, Zdd, Zde, Zdf, Zdg, ofVal, ofCell, argT, List.getD_cons_zero, List.getD_cons_succ, List.getElem?_toArray, List.getElem?_cons_zero, List.getElem?_cons_succ, List.nil_append, List.cons_append, List.append_nil, resT, Zdh, Zdi, Nat.mul_one, Zdj, Zdk, Zdl, Zdm, Zdn, Zdo, Zdp, Zdq, Zdr, Zds, Zdt, setT, Zdu, Zdv, Zdw, Zdx, Zdy, List.append_eq, Zdz, Zea, Zeb, Zec, Zed, Zee, Zef, Zeg, Zeh, Nat.add_zero, Zei, Zej, Zek, Zel, Zem, Zen, Int.toNat_natCast, Bool.false_eq_true, Int.reduceEq, Int.reduceLT, Int.reduceLE, Int.reduceNeg, not_false_eq_true, and_self, Zeo, Zep, Int.natCast_one, Int.cast_ofNat_Int, not_true_eq_false, decide_true, decide_false, true_implies, false_implies, Int.toNat_zero, List.length_cons, List.length_nil, Nat.zero_add, mb, Nat.reduceBEq, Bool.false_and, Bool.and_false, Zeq, tys, stb, Zer, Zes, Zet, Zeu, Zev, Zew, Bool.or_false, Bool.false_or, Bool.true_and, Bool.or_true, Bool.true_or, Zex, Zey, tys2, t1, t4, c1, l0, hE0, len_C hc, hx, agg44, load4_rptr, z44, heap_end, set_end, storeList, List.take_zero, List.drop_zero, List.drop_succ_cons, List.drop_nil, List.all_cons, List.all_nil, isCell_str, isCell_int, hic, Zeg, Nat.reduceAdd, Nat.reduceLeDiff, refname_call _ hsc.1, hnm]
      simp only [oneOr, sealDepth, sealV_tup, mapM_seal_cons, mapM_seal_nil, sealV_int, Option.bind_some, Option.map_some]
    simp -implicitDefEqProofs only [Zaa, Zab, Zac, Zad, Zae, Zaf, Zag, Zah, Zai, Zaj, Zak, Zal, Zam, Zan, Zao, Zap, Zaq, Zar, Zas, Zat, Zau, Zav, Zaw, Zax, Zay, Zaz, Zba, Zbb, Zbc, Zbd, Zbe, Zbf, Zbg, Zbh, Zbi, Zbj, Zbk, Zbl, Zbm, Zbn, Zbo, Zbp, Zbq, Zbr, Zbs, Zbt, Zbu, Zbv, Zbw, Zbx, Zby, Zbz, Zca, Zcb, Zcc, Zcd, Zce, Zcf, Zcg, evalT, Zch, Nat.reduceLT, Nat.reduceEqDiff, if_true, if_false, reduceIte, true_and, Zci, Zcj, map_ite', Zck, bind_ite', Zcl, Zcm, Zcn, Zco, Zcp, Zcq, Zcr, Zcs, Zct, Zcu, Zcv, Zcw, Zcx, Zcy, Zcz, Zda, Zdb, Zdc, Zdd, Zde, Zdf, Zdg, ofVal, ofCell, argT, List.getD_cons_zero, List.getD_cons_succ, List.getElem?_toArray, List.getElem?_cons_zero, List.getElem?_cons_succ, List.nil_append, List.cons_append, List.append_nil, resT, Zdh, Zdi, Nat.mul_one, Zdj, Zdk, Zdl, Zdm, Zdn, Zdo, Zdp, Zdq, Zdr, Zds, Zdt, setT, Zdu, Zdv, Zdw, Zdx, Zdy, List.append_eq, Zdz, Zea, Zeb, Zec, Zed, Zee, Zef, Zeg, Zeh, Nat.add_zero, Zei, Zej, Zek, Zel, Zem, Zen, Int.toNat_natCast, Bool.false_eq_true, Int.reduceEq, Int.reduceLT, Int.reduceLE, Int.reduceNeg, not_false_eq_true, and_self, Zeo, Zep, Int.natCast_one, Int.cast_ofNat_Int, not_true_eq_false, decide_true, decide_false, true_implies, false_implies, Int.toNat_zero, List.length_cons, List.length_nil, Nat.zero_add, mb, Nat.reduceBEq, Bool.false_and, Bool.and_false, Zeq, tys, stb, Zer, Zes, Zet, Zeu, Zev, Zew, Bool.or_false, Bool.false_or, Bool.true_and, Bool.or_true, Bool.true_or, Zex, Zey, tys2, t1, t4, c1, l0, hE0, len_C hc, hx, agg44, load4_rptr, z44, heap_end, set_end, storeList, List.take_zero, List.drop_zero, List.drop_succ_cons, List.drop_nil, List.all_cons, List.all_nil, isCell_str, isCell_int, hic, Zeg, Nat.reduceAdd, Nat.reduceLeDiff, refname_call _ hsc.1, hnm]
    refine loop_rule (fun m T D σ => D = [] ∧ σ = ⟨L ++ [.cells [.str (cs.getD i Col.none).name, .int .i64 (cs.getD i Col.none).lo, .int .i64 (cs.getD i Col.none).hi, (cs.getD i Col.none).w] 44], ts⟩ ∧ T 1 = .ptr 0 0 ∧ T 4 = .int .i64 i ∧ T 5 = .ptr L.length 0 ∧
      ∃ k : Nat, T 6 = .int .i64 k ∧ k ≤ i ∧ m = i - k ∧ ∀ j, j < k → (cs.getD j Col.none).name ≠ (cs.getD i Col.none).name) ?_ _ _ _ _ ⟨rfl, rfl, t1, t4, rfl, 0, rfl, by omega, rfl, fun j h1 => by omega⟩
    rintro m T D σ ⟨rfl, rfl, t1, t4, t5, k, t6, hk, rfl, hno⟩
    refine G_start ?_
    by_cases hlt2 : k < i
    · have c3 : (k : Int) < (i : Int) := by omega
      have e2 : IntKind.i64.wrap ((k : Int) + 1) = ((k + 1 : Nat) : Int) := by rw [wrap_i64 (by omega) (by omega)]; omega
      have hy := idx_C hc (show k < cs.length by omega)
      by_cases he : (cs.getD k Col.none).name = (cs.getD i Col.none).name
      · have hX : colX cs i = 8 := by simp only [colX]; rw [if_neg (not_not_intro hnm), if_pos ⟨k, hlt2, he⟩]
        rw [hX, if_neg (by omega)] at hri
        subst hri
        simp -implicitDefEqProofs only [Zaa, Zab, Zac, Zad, Zae, Zaf, Zag, Zah, Zai, Zaj, Zak, Zal, Zam, Zan, Zao, Zap, Zaq, Zar, Zas, Zat, Zau, Zav, Zaw, Zax, Zay, Zaz, Zba, Zbb, Zbc, Zbd, Zbe, Zbf, Zbg, Zbh, Zbi, Zbj, Zbk, Zbl, Zbm, Zbn, Zbo, Zbp, Zbq, Zbr, Zbs, Zbt, Zbu, Zbv, Zbw, Zbx, Zby, Zbz, Zca, Zcb, Zcc, Zcd, Zce, Zcf, Zcg, evalT, Zch, Nat.reduceLT, Nat.reduceEqDiff, if_true, if_false, reduceIte, true_and, Zci, Zcj, map_ite', Zck, bind_ite', Zcl, Zcm, Zcn, Zco, Zcp, Zcq, Zcr, Zcs, Zct, Zcu, Zcv, Zcw, Zcx, Zcy, Zcz, Zda, Zdb, Zdc, Zdd, Zde, Zdf, Zdg, ofVal, ofCell, argT, List.getD_cons_zero, List.getD_cons_succ, List.getElem?_toArray, List.getElem?_cons_zero, List.getElem?_cons_succ, List.nil_append, List.cons_append, List.append_nil, resT, Zdh, Zdi, Nat.mul_one, Zdj, Zdk, Zdl, Zdm, Zdn, Zdo, Zdp, Zdq, Zdr, Zds, Zdt, setT, Zdu, Zdv, Zdw, Zdx, Zdy, List.append_eq, Zdz, Zea, Zeb, Zec, Zed, Zee, Zef, Zeg, Zeh, Nat.add_zero, Zei, Zej, Zek, Zel, Zem, Zen, Int.toNat_natCast, Bool.false_eq_true, Int.reduceEq, Int.reduceLT, Int.reduceLE, Int.reduceNeg, not_false_eq_true, and_self, Zeo, Zep, Int.natCast_one, Int.cast_ofNat_Int, not_true_eq_false, decide_true, decide_false, true_implies, false_implies, Int.toNat_zero, List.length_cons, List.length_nil, Nat.zero_add, mb, Nat.reduceBEq, Bool.false_and, Bool.and_false, Zeq, tys, stb, Zer, Zes, Zet, Zeu, Zev, Zew, Bool.or_false, Bool.false_or, Bool.true_and, Bool.or_true, Bool.true_or, Zex, Zey, tys2, t1, t4, t5, t6, c3, hE0, hy, load_hd, heap_end, vBin_seql, he]
        refine ⟨by kernel_rfl, ?_⟩
        simp only [oneOr, sealDepth, sealV_tup, mapM_seal_cons, mapM_seal_nil, sealV_int, Option.bind_some, Option.map_some]
      · simp -implicitDefEqProofs only [Zaa, Zab, Zac, Zad, Zae, Zaf, Zag, Zah, Zai, Zaj, Zak, Zal, Zam, Zan, Zao, Zap, Zaq, Zar, Zas, Zat, Zau, Zav, Zaw, Zax, Zay, Zaz, Zba, Zbb, Zbc, Zbd, Zbe, Zbf, Zbg, Zbh, Zbi, Zbj, Zbk, Zbl, Zbm, Zbn, Zbo, Zbp, Zbq, Zbr, Zbs, Zbt, Zbu, Zbv, Zbw, Zbx, Zby, Zbz, Zca, Zcb, Zcc, Zcd, Zce, Zcf, Zcg, evalT, Zch, Nat.reduceLT, Nat.reduceEqDiff, if_true, if_false, reduceIte, true_and, Zci, Zcj, map_ite', Zck, bind_ite', Zcl, Zcm, Zcn, Zco, Zcp, Zcq, Zcr, Zcs, Zct, Zcu, Zcv, Zcw, Zcx, Zcy, Zcz, Zda, Zdb, Zdc, Zdd, Zde, Zdf, Zdg, ofVal, ofCell, argT, List.getD_cons_zero, List.getD_cons_succ, List.getElem?_toArray, List.getElem?_cons_zero, List.getElem?_cons_succ, List.nil_append, List.cons_append, List.append_nil, resT, Zdh, Zdi, Nat.mul_one, Zdj, Zdk, Zdl, Zdm, Zdn, Zdo, Zdp, Zdq, Zdr, Zds, Zdt, setT, Zdu, Zdv, Zdw, Zdx, Zdy, List.append_eq, Zdz, Zea, Zeb, Zec, Zed, Zee, Zef, Zeg, Zeh, Nat.add_zero, Zei, Zej, Zek, Zel, Zem, Zen, Int.toNat_natCast, Bool.false_eq_true, Int.reduceEq, Int.reduceLT, Int.reduceLE, Int.reduceNeg, not_false_eq_true, and_self, Zeo, Zep, Int.natCast_one, Int.cast_ofNat_Int, not_true_eq_false, decide_true, decide_false, true_implies, false_implies, Int.toNat_zero, List.length_cons, List.length_nil, Nat.zero_add, mb, Nat.reduceBEq, Bool.false_and, Bool.and_false, Zeq, tys, stb, Zer, Zes, Zet, Zeu, Zev, Zew, Bool.or_false, Bool.false_or, Bool.true_and, Bool.or_true, Bool.true_or, Zex, Zey, tys2, t1, t4, t5, t6, c3, e2, hE0, hy, load_hd, heap_end, vBin_seql, he]
        exact ⟨by kernel_rfl, i - (k + 1), by omega, k + 1, rfl, by omega, rfl, fun j hj => by
          rcases Nat.lt_or_ge j k with h2 | h2
          · exact hno j h2
          · have : j = k := by omega
            subst this; exact he⟩
    · have hk2 : k = i := by omega
      subst hk2
      have c3 : ¬ (k : Int) < (k : Int) := by omega
      have hX : colX cs k = colE (cs.getD k Col.none) := by simp only [colX]; rw [if_neg (not_not_intro hnm), if_neg (by rintro ⟨j, h1, h2⟩; exact hno j h1 h2)]
      by_cases hz : colE (cs.getD k Col.none) = 0
      · rw [hX, if_pos hz, hq2] at hri
        simp -implicitDefEqProofs only [Zaa, Zab, Zac, Zad, Zae, Zaf, Zag, Zah, Zai, Zaj, Zak, Zal, Zam, Zan, Zao, Zap, Zaq, Zar, Zas, Zat, Zau, Zav, Zaw, Zax, Zay, Zaz, Zba, Zbb, Zbc, Zbd, Zbe, Zbf, Zbg, Zbh, Zbi, Zbj, Zbk, Zbl, Zbm, Zbn, Zbo, Zbp, Zbq, Zbr, Zbs, Zbt, Zbu, Zbv, Zbw, Zbx, Zby, Zbz, Zca, Zcb, Zcc, Zcd, Zce, Zcf, Zcg, evalT, Zch, Nat.reduceLT, Nat.reduceEqDiff, if_true, if_false, reduceIte, true_and, Zci, Zcj, map_ite', Zck, bind_ite', Zcl, Zcm, Zcn, Zco, Zcp, Zcq, Zcr, Zcs, Zct, Zcu, Zcv, Zcw, Zcx, Zcy, Zcz, Zda, Zdb, Zdc, Zdd, Zde, Zdf, Zdg, ofVal, ofCell, argT, List.getD_cons_zero, List.getD_cons_succ, List.getElem?_toArray, List.getElem?_cons_zero, List.getElem?_cons_succ, List.nil_append, List.cons_append, List.append_nil, resT, Zdh, Zdi, Nat.mul_one, Zdj, Zdk, Zdl, Zdm, Zdn, Zdo, Zdp, Zdq, Zdr, Zds, Zdt, setT, Zdu, Zdv, Zdw, Zdx, Zdy, List.append_eq, Zdz, Zea, Zeb, Zec, Zed, Zee, Zef, Zeg, Zeh, Nat.add_zero, Zei, Zej, Zek, Zel, Zem, Zen, Int.toNat_natCast, Bool.false_eq_true, Int.reduceEq, Int.reduceLT, Int.reduceLE, Int.reduceNeg, not_false_eq_true, and_self, Zeo, Zep, Int.natCast_one, Int.cast_ofNat_Int, not_true_eq_false, decide_true, decide_false, true_implies, false_implies, Int.toNat_zero, List.length_cons, List.length_nil, Nat.zero_add, mb, Nat.reduceBEq, Bool.false_and, Bool.and_false, Zeq, tys, stb, Zer, Zes, Zet, Zeu, Zev, Zew, Bool.or_false, Bool.false_or, Bool.true_and, Bool.or_true, Bool.true_or, Zex, Zey, tys2, t1, t4, t5, t6, c3, e1, agg44, load4_end, colref_call _ hwc hsc, hz]
        exact ⟨cs.length - (k + 1), by omega, _, _, k + 1, rfl, hE0 _, rfl, by omega, rfl, hri⟩
      · rw [hX, if_neg hz] at hri
        subst hri
        simp -implicitDefEqProofs only [Zaa, Zab, Zac, Zad, Zae, Zaf, Zag, Zah, Zai, Zaj, Zak, Zal, Zam, Zan, Zao, Zap, Zaq, Zar, Zas, Zat, Zau, Zav, Zaw, Zax, Zay, Zaz, Zba, Zbb, Zbc, Zbd, Zbe, Zbf, Zbg, Zbh, Zbi, Zbj, Zbk, Zbl, Zbm, Zbn, Zbo, Zbp, Zbq, Zbr, Zbs, Zbt, Zbu, Zbv, Zbw, Zbx, Zby, Zbz, Zca, Zcb, Zcc, Zcd, Zce, Zcf, Zcg, evalT, Zch, Nat.reduceLT, Nat.reduceEqDiff, if_true, if_false, reduceIte, true_and, Zci, Zcj, map_ite', Zck, bind_ite', Zcl, Zcm, Zcn, Zco, Zcp, Zcq, Zcr, Zcs, Zct, Zcu, Zcv, Zcw, Zcx, Zcy, Zcz, Zda, Zdb, Zdc, Zdd, Zde, Zdf, Zdg, ofVal, ofCell, argT, List.getD_cons_zero, List.getD_cons_succ, List.getElem?_toArray, List.getElem?_cons_zero, List.getElem?_cons_succ, List.nil_append, List.cons_append, List.append_nil, resT, Zdh, Zdi, Nat.mul_one, Zdj, Zdk, Zdl, Zdm, Zdn, Zdo, Zdp, Zdq, Zdr, Zds, Zdt, setT, Zdu, Zdv, Zdw, Zdx, Zdy, List.append_eq, Zdz, Zea, Zeb, Zec, Zed, Zee, Zef, Zeg, Zeh, Nat.add_zero, Zei, Zej, Zek, Zel, Zem, Zen, Int.toNat_natCast, Bool.false_eq_true, Int.reduceEq, Int.reduceLT, Int.reduceLE, Int.reduceNeg, not_false_eq_true, and_self, Zeo, Zep, Int.natCast_one, Int.cast_ofNat_Int, not_true_eq_false, decide_true, decide_false, true_implies, false_implies, Int.toNat_zero, List.length_cons, List.length_nil, Nat.zero_add, mb, Nat.reduceBEq, Bool.false_and, Bool.and_false, Zeq, tys, stb, Zer, Zes, Zet, Zeu, Zev, Zew, Bool.or_false, Bool.false_or, Bool.true_and, Bool.or_true, Bool.true_or, Zex, Zey, tys2, t1, t4, t5, t6, c3, agg44, load4_end, colref_call _ hwc hsc, hz]
        simp only [oneOr, sealDepth, sealV_tup, mapM_seal_cons, mapM_seal_nil, sealV_int, Option.bind_some, Option.map_some]
  · have hi2 : i = cs.length := by omega
    subst hi2
    have c1 : ¬ (cs.length : Int) < (cs.length : Int) := by omega
    have h0 : r = (0, -1) := by rw [hri, Nat.sub_self]; rfl
    simp -implicitDefEqProofs only [Zaa, Zab, Zac, Zad, Zae, Zaf, Zag, Zah, Zai, Zaj, Zak, Zal, Zam, Zan, Zao, Zap, Zaq, Zar, Zas, Zat, Zau, Zav, Zaw, Zax, Zay, Zaz, Zba, Zbb, Zbc, Zbd, Zbe, Zbf, Zbg, Zbh, Zbi, Zbj, Zbk, Zbl, Zbm, Zbn, Zbo, Zbp, Zbq, Zbr, Zbs, Zbt, Zbu, Zbv, Zbw, Zbx, Zby, Zbz, Zca, Zcb, Zcc, Zcd, Zce, Zcf, Zcg, evalT, Zch, Nat.reduceLT, Nat.reduceEqDiff, if_true, if_false, reduceIte, true_and, Zci, Zcj, map_ite', Zck, bind_ite', Zcl, Zcm, Zcn, Zco, Zcp, Zcq, Zcr, Zcs, Zct, Zcu, Zcv, Zcw, Zcx, Zcy, Zcz, Zda, Zdb, Zdc, Zdd, Zde, Zdf, Zdg, ofVal, ofCell, argT, List.getD_cons_zero, List.getD_cons_succ, List.getElem?_toArray, List.getElem?_cons_zero, List.getElem?_cons_succ, List.nil_append, List.cons_append, List.append_nil, resT, Zdh, Zdi, Nat.mul_one, Zdj, Zdk, Zdl, Zdm, Zdn, Zdo, Zdp, Zdq, Zdr, Zds, Zdt, setT, Zdu, Zdv, Zdw, Zdx, Zdy, List.append_eq, Zdz, Zea, Zeb, Zec, Zed, Zee, Zef, Zeg, Zeh, Nat.add_zero, Zei, Zej, Zek, Zel, Zem, Zen, Int.toNat_natCast, Bool.false_eq_true, Int.reduceEq, Int.reduceLT, Int.reduceLE, Int.reduceNeg, not_false_eq_true, and_self, Zeo, Zep, Int.natCast_one, Int.cast_ofNat_Int, not_true_eq_false, decide_true, decide_false, true_implies, false_implies, Int.toNat_zero, List.length_cons, List.length_nil, Nat.zero_add, mb, Nat.reduceBEq, Bool.false_and, Bool.and_false, Zeq, tys, stb, Zer, Zes, Zet, Zeu, Zev, Zew, Bool.or_false, Bool.false_or, Bool.true_and, Bool.or_true, Bool.true_or, Zex, Zey, tys2, t1, t4, c1, l0, len_C hc]
    exact h2 _ _ h0

open Classical in
theorem checkref_call (nm : List UInt8) (pb : Bool) (many : Int) (cv : V) (cs : List Col) (hc : IsC cv cs) (ok : OkC cs) (hn : nm.length < 2 ^ 63) (hl : cs.length ≤ 1000) (hs : ∀ i, i < cs.length → Short (cs.getD i Col.none)) (σ : S) :
    callFn env (ev env) 24 [.agg [.str nm, .bool pb, .int .i64 many, cv]] σ = some (.tup [.int .i64 (checkE nm pb many cs).1, .int .i64 (checkE nm pb many cs).2], σ) := by
  refine callFn_pure rfl rfl (by simp [V.closed, V.closed.closedL, closed_C hc ok]) at24 rfl (by simp [Tryd.f24]) (by simp [Tryd.f24]) (G_start ?_) σ
  by_cases h1 : IsName nm
  case neg =>
    have he : checkE nm pb many cs = (19, -1) := by simp only [checkE]; rw [if_pos h1]
    simp -implicitDefEqProofs only [Tryd.f24, Zaa, Zab, Zac, Zad, Zae, Zaf, Zag, Zah, Zai, Zaj, Zak, Zal, Zam, Zan, Zao, Zap, Zaq, Zar, Zas, Zat, Zau, Zav, Zaw, Zax, Zay, Zaz, Zba, Zbb, Zbc, Zbd, Zbe, Zbf, Zbg, Zbh, Zbi, Zbj, Zbk, Zbl, Zbm, Zbn, Zbo, Zbp, Zbq, Zbr, Zbs, Zbt, Zbu, Zbv, Zbw, Zbx, Zby, Zbz, Zca, Zcb, Zcc, Zcd, Zce, Zcf, Zcg, evalT, Zch, Nat.reduceLT, Nat.reduceEqDiff, if_true, if_false, reduceIte, true_and, Zci, Zcj, map_ite', Zck, bind_ite', Zcl, Zcm, Zcn, Zco, Zcp, Zcq, Zcr, Zcs, Zct, Zcu, Zcv, Zcw, Zcx, Zcy, Zcz, Zda, Zdb, Zdc, Zdd, Zde, Zdf, Zdg, ofVal, ofCell, argT, List.getD_cons_zero, List.getD_cons_succ, List.getElem?_toArray, List.getElem?_cons_zero, List.getElem?_cons_succ, List.nil_append, List.cons_append, List.append_nil, resT, Zdh, Zdi, Nat.mul_one, Zdj, Zdk, Zdl, Zdm, Zdn, Zdo, Zdp, Zdq, Zdr, Zds, Zdt, setT, Zdu, Zdv, Zdw, Zdx, Zdy, List.append_eq, Zdz, Zea, Zeb, Zec, Zed, Zee, Zef, Zeg, Zeh, Nat.add_zero, Zei, Zej, Zek, Zel, Zem, Zen, Int.toNat_natCast, Bool.false_eq_true, Int.reduceEq, Int.reduceLT, Int.reduceLE, Int.reduceNeg, not_false_eq_true, and_self, Zeo, Zep, Int.natCast_one, Int.cast_ofNat_Int, not_true_eq_false, decide_true, decide_false, true_implies, false_implies, Int.toNat_zero, List.length_cons, List.length_nil, Nat.zero_add, mb, Nat.reduceBEq, Bool.false_and, Bool.and_false, Zeq, tys, stb, Zer, Zes, Zet, Zeu, Zev, Zew, Bool.or_false, Bool.false_or, Bool.true_and, Bool.or_true, Bool.true_or, Zex, Zey, tys2, empty_mk, refname_call _ hn, h1]
    simp only [oneOr, sealDepth, sealV_tup, mapM_seal_cons, mapM_seal_nil, sealV_int, he, Option.bind_some, Option.map_some]
  by_cases h2 : (pb = true ∧ many ≠ 0) ∨ (pb = false ∧ (many < 1 ∨ 50 < many))
  case pos =>
    have he : checkE nm pb many cs = (2, -1) := by simp only [checkE]; rw [if_neg (by simp [h1]), if_pos h2]
    rcases h2 with ⟨rfl, h3⟩ | ⟨rfl, h3⟩
    · simp -implicitDefEqProofs only [Tryd.f24, Zaa, Zab, Zac, Zad, Zae, Zaf, Zag, Zah, Zai, Zaj, Zak, Zal, Zam, Zan, Zao, Zap, Zaq, Zar, Zas, Zat, Zau, Zav, Zaw, Zax, Zay, Zaz, Zba, Zbb, Zbc, Zbd, Zbe, Zbf, Zbg, Zbh, Zbi, Zbj, Zbk, Zbl, Zbm, Zbn, Zbo, Zbp, Zbq, Zbr, Zbs, Zbt, Zbu, Zbv, Zbw, Zbx, Zby, Zbz, Zca, Zcb, Zcc, Zcd, Zce, Zcf, Zcg, evalT, Zch, Nat.reduceLT, Nat.reduceEqDiff, if_true, if_false, reduceIte, true_and, Zci, Zcj, map_ite', Zck, bind_ite', Zcl, Zcm, Zcn, Zco, Zcp, Zcq, Zcr, Zcs, Zct, Zcu, Zcv, Zcw, Zcx, Zcy, Zcz, Zda, Zdb, Zdc, Zdd, Zde, Zdf, Zdg, ofVal, ofCell, argT, List.getD_cons_zero, List.getD_cons_succ, List.getElem?_toArray, List.getElem?_cons_zero, List.getElem?_cons_succ, List.nil_append, List.cons_append, List.append_nil, resT, Zdh, Zdi, Nat.mul_one, Zdj, Zdk, Zdl, Zdm, Zdn, Zdo, Zdp, Zdq, Zdr, Zds, Zdt, setT, Zdu, Zdv, Zdw, Zdx, Zdy, List.append_eq, Zdz, Zea, Zeb, Zec, Zed, Zee, Zef, Zeg, Zeh, Nat.add_zero, Zei, Zej, Zek, Zel, Zem, Zen, Int.toNat_natCast, Bool.false_eq_true, Int.reduceEq, Int.reduceLT, Int.reduceLE, Int.reduceNeg, not_false_eq_true, and_self, Zeo, Zep, Int.natCast_one, Int.cast_ofNat_Int, not_true_eq_false, decide_true, decide_false, true_implies, false_implies, Int.toNat_zero, List.length_cons, List.length_nil, Nat.zero_add, mb, Nat.reduceBEq, Bool.false_and, Bool.and_false, Zeq, tys, stb, Zer, Zes, Zet, Zeu, Zev, Zew, Bool.or_false, Bool.false_or, Bool.true_and, Bool.or_true, Bool.true_or, Zex, Zey, tys2, empty_mk, refname_call _ hn, h1, h3]
      simp only [oneOr, sealDepth, sealV_tup, mapM_seal_cons, mapM_seal_nil, sealV_int, he, Option.bind_some, Option.map_some]
    · by_cases h4 : many < 1
      · simp -implicitDefEqProofs only [Tryd.f24, Zaa, Zab, Zac, Zad, Zae, Zaf, Zag, Zah, Zai, Zaj, Zak, Zal, Zam, Zan, Zao, Zap, Zaq, Zar, Zas, Zat, Zau, Zav, Zaw, Zax, Zay, Zaz, Zba, Zbb, Zbc, Zbd, Zbe, Zbf, Zbg, Zbh, Zbi, Zbj, Zbk, Zbl, Zbm, Zbn, Zbo, Zbp, Zbq, Zbr, Zbs, Zbt, Zbu, Zbv, Zbw, Zbx, Zby, Zbz, Zca, Zcb, Zcc, Zcd, Zce, Zcf, Zcg, evalT, Zch, Nat.reduceLT, Nat.reduceEqDiff, if_true, if_false, reduceIte, true_and, Zci, Zcj, map_ite', Zck, bind_ite', Zcl, Zcm, Zcn, Zco, Zcp, Zcq, Zcr, Zcs, Zct, Zcu, Zcv, Zcw, Zcx, Zcy, Zcz, Zda, Zdb, Zdc, Zdd, Zde, Zdf, Zdg, ofVal, ofCell, argT, List.getD_cons_zero, List.getD_cons_succ, List.getElem?_toArray, List.getElem?_cons_zero, List.getElem?_cons_succ, List.nil_append, List.cons_append, List.append_nil, resT, Zdh, Zdi, Nat.mul_one, Zdj, Zdk, Zdl, Zdm, Zdn, Zdo, Zdp, Zdq, Zdr, Zds, Zdt, setT, Zdu, Zdv, Zdw, Zdx, Zdy, List.append_eq, Zdz, Zea, Zeb, Zec, Zed, Zee, Zef, Zeg, Zeh, Nat.add_zero, Zei, Zej, Zek, Zel, Zem, Zen, Int.toNat_natCast, Bool.false_eq_true, Int.reduceEq, Int.reduceLT, Int.reduceLE, Int.reduceNeg, not_false_eq_true, and_self, Zeo, Zep, Int.natCast_one, Int.cast_ofNat_Int, not_true_eq_false, decide_true, decide_false, true_implies, false_implies, Int.toNat_zero, List.length_cons, List.length_nil, Nat.zero_add, mb, Nat.reduceBEq, Bool.false_and, Bool.and_false, Zeq, tys, stb, Zer, Zes, Zet, Zeu, Zev, Zew, Bool.or_false, Bool.false_or, Bool.true_and, Bool.or_true, Bool.true_or, Zex, Zey, tys2, empty_mk, refname_call _ hn, h1, h4]
        simp only [oneOr, sealDepth, sealV_tup, mapM_seal_cons, mapM_seal_nil, sealV_int, he, Option.bind_some, Option.map_some]
      · have h5 : 50 < many := by omega
        simp -implicitDefEqProofs only [Tryd.f24, Zaa, Zab, Zac, Zad, Zae, Zaf, Zag, Zah, Zai, Zaj, Zak, Zal, Zam, Zan, Zao, Zap, Zaq, Zar, Zas, Zat, Zau, Zav, Zaw, Zax, Zay, Zaz, Zba, Zbb, Zbc, Zbd, Zbe, Zbf, Zbg, Zbh, Zbi, Zbj, Zbk, Zbl, Zbm, Zbn, Zbo, Zbp, Zbq, Zbr, Zbs, Zbt, Zbu, Zbv, Zbw, Zbx, Zby, Zbz, Zca, Zcb, Zcc, Zcd, Zce, Zcf, Zcg, evalT, Zch, Nat.reduceLT, Nat.reduceEqDiff, if_true, if_false, reduceIte, true_and, Zci, Zcj, map_ite', Zck, bind_ite', Zcl, Zcm, Zcn, Zco, Zcp, Zcq, Zcr, Zcs, Zct, Zcu, Zcv, Zcw, Zcx, Zcy, Zcz, Zda, Zdb, Zdc, Zdd, Zde, Zdf, Zdg, ofVal, ofCell, argT, List.getD_cons_zero, List.getD_cons_succ, List.getElem?_toArray, List.getElem?_cons_zero, List.getElem?_cons_succ, List.nil_append, List.cons_append, List.append_nil, resT, Zdh, Zdi, Nat.mul_one, Zdj, Zdk, Zdl, Zdm, Zdn, Zdo, Zdp, Zdq, Zdr, Zds, Zdt, setT, Zdu, Zdv, Zdw, Zdx, Zdy, List.append_eq, Zdz, Zea, Zeb, Zec, Zed, Zee, Zef, Zeg, Zeh, Nat.add_zero, Zei, Zej, Zek, Zel, Zem, Zen, Int.toNat_natCast, Bool.false_eq_true, Int.reduceEq, Int.reduceLT, Int.reduceLE, Int.reduceNeg, not_false_eq_true, and_self, Zeo, Zep, Int.natCast_one, Int.cast_ofNat_Int, not_true_eq_false, decide_true, decide_false, true_implies, false_implies, Int.toNat_zero, List.length_cons, List.length_nil, Nat.zero_add, mb, Nat.reduceBEq, Bool.false_and, Bool.and_false, Zeq, tys, stb, Zer, Zes, Zet, Zeu, Zev, Zew, Bool.or_false, Bool.false_or, Bool.true_and, Bool.or_true, Bool.true_or, Zex, Zey, tys2, empty_mk, refname_call _ hn, h1, h4, h5]
        simp only [oneOr, sealDepth, sealV_tup, mapM_seal_cons, mapM_seal_nil, sealV_int, he, Option.bind_some, Option.map_some]
  have key : ∀ Q : Prop, (pb = true → many = 0 → Q) → (pb = false → ¬ many < 1 → ¬ 50 < many → Q) → Q := fun Q a b => by
    cases pb with
    | true => exact a rfl (Classical.byContradiction fun h => h2 (.inl ⟨rfl, h⟩))
    | false => exact b rfl (fun h => h2 (.inr ⟨rfl, .inl h⟩)) (fun h => h2 (.inr ⟨rfl, .inr h⟩))
  have he0 : checkE nm pb many cs = if cs.length = 0 then (3, -1) else if 16 < cs.length then (4, -1) else firstE cs cs.length 0 := by simp only [checkE]; rw [if_neg (by simp [h1]), if_neg h2]
  generalize checkE nm pb many cs = r at he0
  by_cases h6 : cs.length = 0
  case pos =>
    have c6 : (cs.length : Int) = 0 := by omega
    rw [if_pos h6] at he0
    subst he0
    refine key _ (fun hp hm => ?_) (fun hp hm hm2 => ?_)
    · subst hp hm
      simp -implicitDefEqProofs only [Tryd.f24, Zaa, Zab, Zac, Zad, Zae, Zaf, Zag, Zah, Zai, Zaj, Zak, Zal, Zam, Zan, Zao, Zap, Zaq, Zar, Zas, Zat, Zau, Zav, Zaw, Zax, Zay, Zaz, Zba, Zbb, Zbc, Zbd, Zbe, Zbf, Zbg, Zbh, Zbi, Zbj, Zbk, Zbl, Zbm, Zbn, Zbo, Zbp, Zbq, Zbr, Zbs, Zbt, Zbu, Zbv, Zbw, Zbx, Zby, Zbz, Zca, Zcb, Zcc, Zcd, Zce, Zcf, Zcg, evalT, Zch, Nat.reduceLT, Nat.reduceEqDiff, if_true, if_false, reduceIte, true_and, Zci, Zcj, map_ite', Zck, bind_ite', Zcl, Zcm, Zcn, Zco, Zcp, Zcq, Zcr, Zcs, Zct, Zcu, Zcv, Zcw, Zcx, Zcy, Zcz, Zda, Zdb, Zdc, Zdd, Zde, Zdf, Zdg, ofVal, ofCell, argT, List.getD_cons_zero, List.getD_cons_succ, List.getElem?_toArray, List.getElem?_cons_zero, List.getElem?_cons_succ, List.nil_append, List.cons_append, List.append_nil, resT, Zdh, Zdi, Nat.mul_one, Zdj, Zdk, Zdl, Zdm, Zdn, Zdo, Zdp, Zdq, Zdr, Zds, Zdt, setT, Zdu, Zdv, Zdw, Zdx, Zdy, List.append_eq, Zdz, Zea, Zeb, Zec, Zed, Zee, Zef, Zeg, Zeh, Nat.add_zero, Zei, Zej, Zek, Zel, Zem, Zen, Int.toNat_natCast, Bool.false_eq_true, Int.reduceEq, Int.reduceLT, Int.reduceLE, Int.reduceNeg, not_false_eq_true, and_self, Zeo, Zep, Int.natCast_one, Int.cast_ofNat_Int, not_true_eq_false, decide_true, decide_false, true_implies, false_implies, Int.toNat_zero, List.length_cons, List.length_nil, Nat.zero_add, mb, Nat.reduceBEq, Bool.false_and, Bool.and_false, Zeq, tys, stb, Zer, Zes, Zet, Zeu, Zev, Zew, Bool.or_false, Bool.false_or, Bool.true_and, Bool.or_true, Bool.true_or, Zex, Zey, tys2, empty_mk, refname_call _ hn, h1, len_C hc, c6]
      simp only [oneOr, sealDepth, sealV_tup, mapM_seal_cons, mapM_seal_nil, sealV_int, Option.bind_some, Option.map_some]
    · subst hp
      simp -implicitDefEqProofs only [Tryd.f24, Zaa, Zab, Zac, Zad, Zae, Zaf, Zag, Zah, Zai, Zaj, Zak, Zal, Zam, Zan, Zao, Zap, Zaq, Zar, Zas, Zat, Zau, Zav, Zaw, Zax, Zay, Zaz, Zba, Zbb, Zbc, Zbd, Zbe, Zbf, Zbg, Zbh, Zbi, Zbj, Zbk, Zbl, Zbm, Zbn, Zbo, Zbp, Zbq, Zbr, Zbs, Zbt, Zbu, Zbv, Zbw, Zbx, Zby, Zbz, Zca, Zcb, Zcc, Zcd, Zce, Zcf, Zcg, evalT, Zch, Nat.reduceLT, Nat.reduceEqDiff, if_true, if_false, reduceIte, true_and, Zci, Zcj, map_ite', Zck, bind_ite', Zcl, Zcm, Zcn, Zco, Zcp, Zcq, Zcr, Zcs, Zct, Zcu, Zcv, Zcw, Zcx, Zcy, Zcz, Zda, Zdb, Zdc, Zdd, Zde, Zdf, Zdg, ofVal, ofCell, argT, List.getD_cons_zero, List.getD_cons_succ, List.getElem?_toArray, List.getElem?_cons_zero, List.getElem?_cons_succ, List.nil_append, List.cons_append, List.append_nil, resT, Zdh, Zdi, Nat.mul_one, Zdj, Zdk, Zdl, Zdm, Zdn, Zdo, Zdp, Zdq, Zdr, Zds, Zdt, setT, Zdu, Zdv, Zdw, Zdx, Zdy, List.append_eq, Zdz, Zea, Zeb, Zec, Zed, Zee, Zef, Zeg, Zeh, Nat.add_zero, Zei, Zej, Zek, Zel, Zem, Zen, Int.toNat_natCast, Bool.false_eq_true, Int.reduceEq, Int.reduceLT, Int.reduceLE, Int.reduceNeg, not_false_eq_true, and_self, Zeo, Zep, Int.natCast_one, Int.cast_ofNat_Int, not_true_eq_false, decide_true, decide_false, true_implies, false_implies, Int.toNat_zero, List.length_cons, List.length_nil, Nat.zero_add, mb, Nat.reduceBEq, Bool.false_and, Bool.and_false, Zeq, tys, stb, Zer, Zes, Zet, Zeu, Zev, Zew, Bool.or_false, Bool.false_or, Bool.true_and, Bool.or_true, Bool.true_or, Zex, Zey, tys2, empty_mk, refname_call _ hn, h1, len_C hc, c6, hm, hm2]
      simp only [oneOr, sealDepth, sealV_tup, mapM_seal_cons, mapM_seal_nil, sealV_int, Option.bind_some, Option.map_some]
  rw [if_neg h6] at he0
  have c6 : ¬ (cs.length : Int) = 0 := by omega
  by_cases h7 : (16 : Int) < (cs.length : Int)
  case pos =>
    rw [if_pos (by omega)] at he0
    subst he0
    refine key _ (fun hp hm => ?_) (fun hp hm hm2 => ?_)
    · subst hp hm
      simp -implicitDefEqProofs only [Tryd.f24, Zaa, Zab, Zac, Zad, Zae, Zaf, Zag, Zah, Zai, Zaj, Zak, Zal, Zam, Zan, Zao, Zap, Zaq, Zar, Zas, Zat, Zau, Zav, Zaw, Zax, Zay, Zaz, Zba, Zbb, Zbc, Zbd, Zbe, Zbf, Zbg, Zbh, Zbi, Zbj, Zbk, Zbl, Zbm, Zbn, Zbo, Zbp, Zbq, Zbr, Zbs, Zbt, Zbu, Zbv, Zbw, Zbx, Zby, Zbz, Zca, Zcb, Zcc, Zcd, Zce, Zcf, Zcg, evalT, Zch, Nat.reduceLT, Nat.reduceEqDiff, if_true, if_false, reduceIte, true_and, Zci, Zcj, map_ite', Zck, bind_ite', Zcl, Zcm, Zcn, Zco, Zcp, Zcq, Zcr, Zcs, Zct, Zcu, Zcv, Zcw, Zcx, Zcy, Zcz, Zda, Zdb, Zdc, Zdd, Zde, Zdf, Zdg, ofVal, ofCell, argT, List.getD_cons_zero, List.getD_cons_succ, List.getElem?_toArray, List.getElem?_cons_zero, List.getElem?_cons_succ, List.nil_append, List.cons_append, List.append_nil, resT, Zdh, Zdi, Nat.mul_one, Zdj, Zdk, Zdl, Zdm, Zdn, Zdo, Zdp, Zdq, Zdr, Zds, Zdt, setT, Zdu, Zdv, Zdw, Zdx, Zdy, List.append_eq, Zdz, Zea, Zeb, Zec, Zed, Zee, Zef, Zeg, Zeh, Nat.add_zero, Zei, Zej, Zek, Zel, Zem, Zen, Int.toNat_natCast, Bool.false_eq_true, Int.reduceEq, Int.reduceLT, Int.reduceLE, Int.reduceNeg, not_false_eq_true, and_self, Zeo, Zep, Int.natCast_one, Int.cast_ofNat_Int, not_true_eq_false, decide_true, decide_false, true_implies, false_implies, Int.toNat_zero, List.length_cons, List.length_nil, Nat.zero_add, mb, Nat.reduceBEq, Bool.false_and, Bool.and_false, Zeq, tys, stb, Zer, Zes, Zet, Zeu, Zev, Zew, Bool.or_false, Bool.false_or, Bool.true_and, Bool.or_true, Bool.true_or, Zex, Zey, tys2, empty_mk, refname_call _ hn, h1, len_C hc, c6, h7]
      simp only [oneOr, sealDepth, sealV_tup, mapM_seal_cons, mapM_seal_nil, sealV_int, Option.bind_some, Option.map_some]
    · subst hp
      simp -implicitDefEqProofs only [Tryd.f24, Zaa, Zab, Zac, Zad, Zae, Zaf, Zag, Zah, Zai, Zaj, Zak, Zal, Zam, Zan, Zao, Zap, Zaq, Zar, Zas, Zat, Zau, Zav, Zaw, Zax, Zay, Zaz, Zba, Zbb, Zbc, Zbd, Zbe, Zbf, Zbg, Zbh, Zbi, Zbj, Zbk, Zbl, Zbm, Zbn, Zbo, Zbp, Zbq, Zbr, Zbs, Zbt, Zbu, Zbv, Zbw, Zbx, Zby, Zbz, Zca, Zcb, Zcc, Zcd, Zce, Zcf, Zcg, evalT, Zch, Nat.reduceLT, Nat.reduceEqDiff, if_true, if_false, reduceIte, true_and, Zci, Zcj, map_ite', Zck, bind_ite', Zcl, Zcm, Zcn, Zco, Zcp, Zcq, Zcr, Zcs, Zct, Zcu, Zcv, Zcw, Zcx, Zcy, Zcz, Zda, Zdb, Zdc, Zdd, Zde, Zdf, Zdg, ofVal, ofCell, argT, List.getD_cons_zero, List.getD_cons_succ, List.getElem?_toArray, List.getElem?_cons_zero, List.getElem?_cons_succ, List.nil_append, List.cons_append, List.append_nil, resT, Zdh, Zdi, Nat.mul_one, Zdj, Zdk, Zdl, Zdm, Zdn, Zdo, Zdp, Zdq, Zdr, Zds, Zdt, setT, Zdu, Zdv, Zdw, Zdx, Zdy, List.append_eq, Zdz, Zea, Zeb, Zec, Zed, Zee, Zef, Zeg, Zeh, Nat.add_zero, Zei, Zej, Zek, Zel, Zem, Zen, Int.toNat_natCast, Bool.false_eq_true, Int.reduceEq, Int.reduceLT, Int.reduceLE, Int.reduceNeg, not_false_eq_true, and_self, Zeo, Zep, Int.natCast_one, Int.cast_ofNat_Int, not_true_eq_false, decide_true, decide_false, true_implies, false_implies, Int.toNat_zero, List.length_cons, List.length_nil, Nat.zero_add, mb, Nat.reduceBEq, Bool.false_and, Bool.and_false, Zeq, tys, stb, Zer, Zes, Zet, Zeu, Zev, Zew, Bool.or_false, Bool.false_or, Bool.true_and, Bool.or_true, Bool.true_or, Zex, Zey, tys2, empty_mk, refname_call _ hn, h1, len_C hc, c6, hm, hm2, h7]
      simp only [oneOr, sealDepth, sealV_tup, mapM_seal_cons, mapM_seal_nil, sealV_int, Option.bind_some, Option.map_some]
  rw [if_neg (by omega)] at he0
  refine key _ (fun hp hm => ?_) (fun hp hm hm2 => ?_)
  · subst hp hm
    simp -implicitDefEqProofs only [Tryd.f24, Zaa, Zab, Zac, Zad, Zae, Zaf, Zag, Zah, Zai, Zaj, Zak, Zal, Zam, Zan, Zao, Zap, Zaq, Zar, Zas, Zat, Zau, Zav, Zaw, Zax, Zay, Zaz, Zba, Zbb, Zbc, Zbd, Zbe, Zbf, Zbg, Zbh, Zbi, Zbj, Zbk, Zbl, Zbm, Zbn, Zbo, Zbp, Zbq, Zbr, Zbs, Zbt, Zbu, Zbv, Zbw, Zbx, Zby, Zbz, Zca, Zcb, Zcc, Zcd, Zce, Zcf, Zcg, evalT, Zch, Nat.reduceLT, Nat.reduceEqDiff, if_true, if_false, reduceIte, true_and, Zci, Zcj, map_ite', Zck, bind_ite', Zcl, Zcm, Zcn, Zco, Zcp, Zcq, Zcr, Zcs, Zct, Zcu, Zcv, Zcw, Zcx, Zcy, Zcz, Zda, Zdb, Zdc, Zdd, Zde, Zdf, Zdg, ofVal, ofCell, argT, List.getD_cons_zero, List.getD_cons_succ, List.getElem?_toArray, List.getElem?_cons_zero, List.getElem?_cons_succ, List.nil_append, List.cons_append, List.append_nil, resT, Zdh, Zdi, Nat.mul_one, Zdj, Zdk, Zdl, Zdm, Zdn, Zdo, Zdp, Zdq, Zdr, Zds, Zdt, setT, Zdu, Zdv, Zdw, Zdx, Zdy, List.append_eq, Zdz, Zea, Zeb, Zec, Zed, Zee, Zef, Zeg, Zeh, Nat.add_zero, Zei, Zej, Zek, Zel, Zem, Zen, Int.toNat_natCast, Bool.false_eq_true, Int.reduceEq, Int.reduceLT, Int.reduceLE, Int.reduceNeg, not_false_eq_true, and_self, Zeo, Zep, Int.natCast_one, Int.cast_ofNat_Int, not_true_eq_false, decide_true, decide_false, true_implies, false_implies, Int.toNat_zero, List.length_cons, List.length_nil, Nat.zero_add, mb, Nat.reduceBEq, Bool.false_and, Bool.and_false, Zeq, tys, stb, Zer, Zes, Zet, Zeu, Zev, Zew, Bool.or_false, Bool.false_or, Bool.true_and, Bool.or_true, Bool.true_or, Zex, Zey, tys2, empty_mk, refname_call _ hn, h1, len_C hc, c6, h7]
    refine check_loop nm true 0 cv cs hc ok hl hs r he0 _ (fun T σ h0 => ?_) _ rfl rfl
    subst h0
    simp -implicitDefEqProofs only [Zaa, Zab, Zac, Zad, Zae, Zaf, Zag, Zah, Zai, Zaj, Zak, Zal, Zam, Zan, Zao, Zap, Zaq, Zar, Zas, Zat, Zau, Zav, Zaw, Zax, Zay, Zaz, Zba, Zbb, Zbc, Zbd, Zbe, Zbf, Zbg, Zbh, Zbi, Zbj, Zbk, Zbl, Zbm, Zbn, Zbo, Zbp, Zbq, Zbr, Zbs, Zbt, Zbu, Zbv, Zbw, Zbx, Zby, Zbz, Zca, Zcb, Zcc, Zcd, Zce, Zcf, Zcg, evalT, Zch, Nat.reduceLT, Nat.reduceEqDiff, if_true, if_false, reduceIte, true_and, Zci, Zcj, map_ite', Zck, bind_ite', Zcl, Zcm, Zcn, Zco, Zcp, Zcq, Zcr, Zcs, Zct, Zcu, Zcv, Zcw, Zcx, Zcy, Zcz, Zda, Zdb, Zdc, Zdd, Zde, Zdf, Zdg, ofVal, ofCell, argT, List.getD_cons_zero, List.getD_cons_succ, List.getElem?_toArray, List.getElem?_cons_zero, List.getElem?_cons_succ, List.nil_append, List.cons_append, List.append_nil, resT, Zdh, Zdi, Nat.mul_one, Zdj, Zdk, Zdl, Zdm, Zdn, Zdo, Zdp, Zdq, Zdr, Zds, Zdt, setT, Zdu, Zdv, Zdw, Zdx, Zdy, List.append_eq, Zdz, Zea, Zeb, Zec, Zed, Zee, Zef, Zeg, Zeh, Nat.add_zero, Zei, Zej, Zek, Zel, Zem, Zen, Int.toNat_natCast, Bool.false_eq_true, Int.reduceEq, Int.reduceLT, Int.reduceLE, Int.reduceNeg, not_false_eq_true, and_self, Zeo, Zep, Int.natCast_one, Int.cast_ofNat_Int, not_true_eq_false, decide_true, decide_false, true_implies, false_implies, Int.toNat_zero, List.length_cons, List.length_nil, Nat.zero_add, mb, Nat.reduceBEq, Bool.false_and, Bool.and_false, Zeq, tys, stb, Zer, Zes, Zet, Zeu, Zev, Zew, Bool.or_false, Bool.false_or, Bool.true_and, Bool.or_true, Bool.true_or, Zex, Zey]
    simp only [oneOr, sealDepth, sealV_tup, mapM_seal_cons, mapM_seal_nil, sealV_int, Option.bind_some, Option.map_some]
  · subst hp
    simp -implicitDefEqProofs only [Tryd.f24, Zaa, Zab, Zac, Zad, Zae, Zaf, Zag, Zah, Zai, Zaj, Zak, Zal, Zam, Zan, Zao, Zap, Zaq, Zar, Zas, Zat, Zau, Zav, Zaw, Zax, Zay, Zaz, Zba, Zbb, Zbc, Zbd, Zbe, Zbf, Zbg, Zbh, Zbi, Zbj, Zbk, Zbl, Zbm, Zbn, Zbo, Zbp, Zbq, Zbr, Zbs, Zbt, Zbu, Zbv, Zbw, Zbx, Zby, Zbz, Zca, Zcb, Zcc, Zcd, Zce, Zcf, Zcg, evalT, Zch, Nat.reduceLT, Nat.reduceEqDiff, if_true, if_false, reduceIte, true_and, Zci, Zcj, map_ite', Zck, bind_ite', Zcl, Zcm, Zcn, Zco, Zcp, Zcq, Zcr, Zcs, Zct, Zcu, Zcv, Zcw, Zcx, Zcy, Zcz, Zda, Zdb, Zdc, Zdd, Zde, Zdf, Zdg, ofVal, ofCell, argT, List.getD_cons_zero, List.getD_cons_succ, List.getElem?_toArray, List.getElem?_cons_zero, List.getElem?_cons_succ, List.nil_append, List.cons_append, List.append_nil, resT, Zdh, Zdi, Nat.mul_one, Zdj, Zdk, Zdl, Zdm, Zdn, Zdo, Zdp, Zdq, Zdr, Zds, Zdt, setT, Zdu, Zdv, Zdw, Zdx, Zdy, List.append_eq, Zdz, Zea, Zeb, Zec, Zed, Zee, Zef, Zeg, Zeh, Nat.add_zero, Zei, Zej, Zek, Zel, Zem, Zen, Int.toNat_natCast, Bool.false_eq_true, Int.reduceEq, Int.reduceLT, Int.reduceLE, Int.reduceNeg, not_false_eq_true, and_self, Zeo, Zep, Int.natCast_one, Int.cast_ofNat_Int, not_true_eq_false, decide_true, decide_false, true_implies, false_implies, Int.toNat_zero, List.length_cons, List.length_nil, Nat.zero_add, mb, Nat.reduceBEq, Bool.false_and, Bool.and_false, Zeq, tys, stb, Zer, Zes, Zet, Zeu, Zev, Zew, Bool.or_false, Bool.false_or, Bool.true_and, Bool.or_true, Bool.true_or, Zex, Zey, tys2, empty_mk, refname_call _ hn, h1, len_C hc, c6, hm, hm2, h7]
    refine check_loop nm false many cv cs hc ok hl hs r he0 _ (fun T σ h0 => ?_) _ rfl rfl
    subst h0
    simp -implicitDefEqProofs only [Zaa, Zab, Zac, Zad, Zae, Zaf, Zag, Zah, Zai, Zaj, Zak, Zal, Zam, Zan, Zao, Zap, Zaq, Zar, Zas, Zat, Zau, Zav, Zaw, Zax, Zay, Zaz, Zba, Zbb, Zbc, Zbd, Zbe, Zbf, Zbg, Zbh, Zbi, Zbj, Zbk, Zbl, Zbm, Zbn, Zbo, Zbp, Zbq, Zbr, Zbs, Zbt, Zbu, Zbv, Zbw, Zbx, Zby, Zbz, Zca, Zcb, Zcc, Zcd, Zce, Zcf, Zcg, evalT, Zch, Nat.reduceLT, Nat.reduceEqDiff, if_true, if_false, reduceIte, true_and, Zci, Zcj, map_ite', Zck, bind_ite', Zcl, Zcm, Zcn, Zco, Zcp, Zcq, Zcr, Zcs, Zct, Zcu, Zcv, Zcw, Zcx, Zcy, Zcz, Zda, Zdb, Zdc, Zdd, Zde, Zdf, Zdg, ofVal, ofCell, argT, List.getD_cons_zero, List.getD_cons_succ, List.getElem?_toArray, List.getElem?_cons_zero, List.getElem?_cons_succ, List.nil_append, List.cons_append, List.append_nil, resT, Zdh, Zdi, Nat.mul_one, Zdj, Zdk, Zdl, Zdm, Zdn, Zdo, Zdp, Zdq, Zdr, Zds, Zdt, setT, Zdu, Zdv, Zdw, Zdx, Zdy, List.append_eq, Zdz, Zea, Zeb, Zec, Zed, Zee, Zef, Zeg, Zeh, Nat.add_zero, Zei, Zej, Zek, Zel, Zem, Zen, Int.toNat_natCast, Bool.false_eq_true, Int.reduceEq, Int.reduceLT, Int.reduceLE, Int.reduceNeg, not_false_eq_true, and_self, Zeo, Zep, Int.natCast_one, Int.cast_ofNat_Int, not_true_eq_false, decide_true, decide_false, true_implies, false_implies, Int.toNat_zero, List.length_cons, List.length_nil, Nat.zero_add, mb, Nat.reduceBEq, Bool.false_and, Bool.and_false, Zeq, tys, stb, Zer, Zes, Zet, Zeu, Zev, Zew, Bool.or_false, Bool.false_or, Bool.true_and, Bool.or_true, Bool.true_or, Zex, Zey]
    simp only [oneOr, sealDepth, sealV_tup, mapM_seal_cons, mapM_seal_nil, sealV_int, Option.bind_some, Option.map_some]
end Go.Proofs.YtbikmhpobflfeaaDoor
