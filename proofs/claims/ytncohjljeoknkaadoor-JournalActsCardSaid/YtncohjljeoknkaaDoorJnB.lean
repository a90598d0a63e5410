/- Proved here: records that are read. Conditions: those of each theorem; no statement of the seat is proved in this text. -/
import Derived.Test.YtncohjljeoknkaaDoorJnA
namespace Go.Proofs.YtncohjljeoknkaaDoor.D
open Go.Ab
set_option maxHeartbeats 8000000
set_option maxRecDepth 100000
set_option linter.unusedSimpArgs false
set_option linter.unusedVariables false
set_option linter.unusedSectionVars false
theorem at75 : env.P.funcs[75]? = some Tryd.f75 := by kernel_rfl
theorem at85 : env.P.funcs[85]? = some Tryd.f85 := by kernel_rfl
theorem at87 : env.P.funcs[87]? = some Tryd.f87 := by kernel_rfl
def Sub (y' y : V) : Prop := ∀ q, blkOf y' = some q → blkOf y = some q
theorem Sub.refl (y : V) : Sub y y := fun q h => h
theorem Sub.trans {a b c : V} (h : Sub a b) (k : Sub b c) : Sub a c := fun q hq => k q (h q hq)
theorem slice_ty {t : TypeId} (h : env.P.underlying t = some (.slice 5)) : sliceO env t = sliceO env 26 := by
  funext v lo hi mx
  simp only [sliceO, h, u26]
theorem slice123 : sliceO env 123 = sliceO env 26 := slice_ty u123
theorem Rd.cut {L : List AObj} {y : V} {t : List UInt8} (h : Rd L y t) {a b : Nat} (hab : a ≤ b) (hb : b ≤ t.length) {lo hi : Option V} (hlo : lo = some (.int .i64 (a : Int)) ∨ lo = none ∧ a = 0) (hhi : hi = some (.int .i64 (b : Int)) ∨ hi = none ∧ b = t.length) :
    ∃ y', sliceO env 26 y lo hi none = some y' ∧ Rd L y' ((t.take b).drop a) ∧ Sub y' y := by
  have htl : ((t.take b).drop a).length = b - a := by rw [List.length_drop, List.length_take]; omega
  have hl : vBound lo 0 b = some a := by
    rcases hlo with rfl | ⟨rfl, rfl⟩
    · exact vB hab
    · rfl
  have hh : ∀ cap, t.length ≤ cap → vBound hi t.length cap = some b := by
    intro cap hc
    rcases hhi with rfl | ⟨rfl, rfl⟩
    · exact vB (by omega)
    · rfl
  rcases h with ⟨rfl, rfl⟩ | ⟨bk, off, cap, ex, cs, rfl, h1, h2, h3, h4⟩ | ⟨cells, cap, rfl, h1, h2⟩
  · have e1 := hh 0 (Nat.le_refl 0)
    have e : b = 0 := by simpa using hb
    subst e
    have e2 : a = 0 := by omega
    subst e2
    exact ⟨.nilsl, by simp only [List.length_nil] at e1; simp only [sliceO, u26, s5, vSlice, Option.bind_some, e1, hl], .inl ⟨rfl, rfl⟩, Sub.refl _⟩
  · have e1 := hh cap h2
    have htk : (cs.drop (off + a)).take (b - a) = byteCells ((t.take b).drop a) := by
      have : byteCells ((t.take b).drop a) = ((byteCells t).take b).drop a := by simp [byteCells, List.map_take, List.map_drop]
      rw [this, ← h4, List.take_take, Nat.min_eq_left hb, List.drop_take, List.drop_drop]
    have mk : ∀ ex' off', off' = off + a ∨ (b - a = 0 ∧ off' ≤ cs.length) → sliceO env 26 (.hsl bk off t.length cap ex) lo hi none = some (.hsl bk off' (b - a) (cap - a) ex') → ∃ y', sliceO env 26 (.hsl bk off t.length cap ex) lo hi none = some y' ∧ Rd L y' ((t.take b).drop a) ∧ Sub y' (.hsl bk off t.length cap ex) := by
      intro ex' off' ho he
      refine ⟨_, he, .inr (.inl ⟨bk, off', cap - a, ex', cs, by rw [htl], h1, by omega, by omega, ?_⟩), fun q hq => hq⟩
      rw [htl]
      rcases ho with rfl | ⟨hz, _⟩
      · exact htk
      · rw [hz] at htk ⊢
        rw [← htk]; rfl
    cases ex with
    | exact =>
      refine mk .exact (if a = cap then off else off + a) ?_ (by simp only [sliceO, u26, s5, vSlice, Option.bind_some, e1, hl, Nat.mul_one])
      by_cases hac : a = cap
      · rw [if_pos hac]; exact .inr ⟨by omega, by omega⟩
      · rw [if_neg hac]; exact .inl rfl
    | least =>
      by_cases hac : a < cap ∨ a = 0
      · exact mk (HCap.least.cut 1) (off + a) (.inl rfl) (by simp only [sliceO, u26, s5, vSlice, Option.bind_some, e1, hl, Nat.mul_one, hac, if_true])
      · have hba : b = a := by omega
        have hz : (t.take b).drop a = [] := List.eq_nil_of_length_eq_zero (by rw [htl]; omega)
        subst hba
        refine ⟨.row [] 0 .unk, by simp only [sliceO, u26, s5, vSlice, Option.bind_some, e1, hl, Nat.mul_one, hac, if_false, if_true], .inr (.inr ⟨[], .unk, by rw [hz]; rfl, by rw [hz]; simp, by rw [hz]; rfl⟩), fun q hq => by cases hq⟩
    | grow s =>
      by_cases hac : a < cap ∨ a = 0
      · exact mk ((HCap.grow s).cut 1) (off + a) (.inl rfl) (by simp only [sliceO, u26, s5, vSlice, Option.bind_some, e1, hl, Nat.mul_one, hac, if_true])
      · have hba : b = a := by omega
        have hz : (t.take b).drop a = [] := List.eq_nil_of_length_eq_zero (by rw [htl]; omega)
        subst hba
        refine ⟨.row [] 0 .unk, by simp only [sliceO, u26, s5, vSlice, Option.bind_some, e1, hl, Nat.mul_one, hac, if_false, if_true], .inr (.inr ⟨[], .unk, by rw [hz]; rfl, by rw [hz]; simp, by rw [hz]; rfl⟩), fun q hq => by cases hq⟩
    | both s =>
      by_cases hac : a < cap ∨ a = 0
      · exact mk ((HCap.both s).cut 1) (off + a) (.inl rfl) (by simp only [sliceO, u26, s5, vSlice, Option.bind_some, e1, hl, Nat.mul_one, hac, if_true])
      · have hba : b = a := by omega
        have hz : (t.take b).drop a = [] := List.eq_nil_of_length_eq_zero (by rw [htl]; omega)
        subst hba
        refine ⟨.row [] 0 .unk, by simp only [sliceO, u26, s5, vSlice, Option.bind_some, e1, hl, Nat.mul_one, hac, if_false, if_true], .inr (.inr ⟨[], .unk, by rw [hz]; rfl, by rw [hz]; simp, by rw [hz]; rfl⟩), fun q hq => by cases hq⟩
  · have e1 := hh t.length (Nat.le_refl _)
    refine ⟨_, by simp only [sliceO, u26, s5, vSlice, Option.bind_some, e1, hl, Nat.mul_one]; exact rfl, .inr (.inr ⟨(cells.drop a).take (b - a), _, by rw [htl], by rw [htl, List.length_take, List.length_drop]; omega, ?_⟩), fun q hq => by cases hq⟩
    have : byteCells ((t.take b).drop a) = ((byteCells t).take b).drop a := by simp [byteCells, List.map_take, List.map_drop]
    rw [htl, List.take_take, Nat.min_self, this, ← h2, List.take_take, Nat.min_eq_left hb, List.drop_take]
theorem take_ok {L : List AObj} {ts : List Nat} {c n : Nat} {y : V} {t : List UInt8} (hb : L[c]? = some (.cells [y] 123)) (hy : Rd L y t) (hn : n ≤ t.length) (hyc : blkOf y ≠ some c) :
    ∃ y1 y2, callFn env (ev env) 87 [.ptr c 0, .int .i64 n] ⟨L, ts⟩ = some (y1, ⟨L.set c (.cells [y2] 123), ts⟩) ∧ Rd L y1 (t.take n) ∧ Rd L y2 (t.drop n) ∧ Sub y1 y ∧ Sub y2 y := by
  obtain ⟨y1, h1, r1, b1⟩ := hy.cut (a := 0) (b := n) (lo := none) (hi := some (.int .i64 n)) (by omega) hn (.inr ⟨rfl, rfl⟩) (.inl rfl)
  obtain ⟨y2, h2, r2, b2⟩ := hy.cut (a := n) (b := t.length) (lo := some (.int .i64 n)) (hi := none) hn (Nat.le_refl _) (.inl rfl) (.inr ⟨rfl, rfl⟩)
  rw [List.drop_zero] at r1
  rw [List.take_length] at r2
  refine ⟨y1, y2, ?_, r1, r2, b1, b2⟩
  have hlen := hy.lenT 5
  have c1 : ¬ (t.length : Int) < (n : Int) := by omega
  refine callFn_eq rfl rfl at87 rfl (by simp [Tryd.f87]) (by simp [Tryd.f87]) (G_start ?_)
  simp -implicitDefEqProofs only [Tryd.f87,Wa,Wb,Wc,Wd,We,Wf,Wg,Wh,Wi,Wj,Wk,Wl,Wm,Wn,Zo,Zp,evalT,Nat.reduceLT,Nat.reduceEqDiff,if_true,if_false,reduceIte,Ys,ofVal,ofCell,argT,resT,setT,Y0,Int.reduceEq,Int.reduceLT,Int.reduceLE,Int.reduceNeg,mb,Nat.reduceBEq,tys,stb,Va,storeList,Nat.reduceAdd,Nat.reduceLeDiff,tyj,vBin_xor,vBin_or,vBin_shl,vBin_shr,opT_nilCheck,nilO_ptr,hb,hlen,c1,opT_slice,optO_none,optO_some,slice123,h1,h2,r2.cells,r2.isCell]
  exact ⟨rfl, trivial⟩
theorem wpP_seqG {E : Env} {fn : FuncId} {rnd : Option Nat} {n : Nat} {X : V → List V → List DE → S → Prop} {T : Tm} {D : List DE} {σ : S} {Q : Post} {a b : Code} (h : G E fn rnd n ⟨fun T D σ => wpP E fn rnd n X b T D σ Q, Q.exit, Q.ret⟩ [] a T D σ) : wpP E fn rnd n X (.seq a b) T D σ Q := wpP_seq (wpP_G h)
def tornV : V := .iface 121 (.agg [])
theorem n87 : Tryd.f87.ntmps = 27 := rfl
theorem take_pan {L : List AObj} {ts : List Nat} {c n : Nat} {y : V} {t : List UInt8} (hb : L[c]? = some (.cells [y] 123)) (hy : Rd L y t) (hn : t.length < n) : ev env (.call 87 [.ptr c 0, .int .i64 n] ⟨L, ts⟩) = some ⟨.pan tornV, [], [], ⟨L, ts⟩⟩ := by
  have hlen := hy.lenT 5
  have c1 : (t.length : Int) < (n : Int) := by omega
  refine ev_pan at87 rfl (by simp [Tryd.f87]) (by simp [Tryd.f87]) ?_
  refine wpP_seqG ?_
  simp -implicitDefEqProofs only [n87,Wa,Wb,Wc,Wd,We,Wf,Wg,Wh,Wi,Wj,Wk,Wl,Wm,Wn,Zo,Zp,evalT,Nat.reduceLT,Nat.reduceEqDiff,if_true,if_false,reduceIte,Ys,ofVal,ofCell,argT,resT,setT,Y0,Int.reduceEq,Int.reduceLT,Int.reduceLE,Int.reduceNeg,mb,Nat.reduceBEq,tys,stb,Va,storeList,Nat.reduceAdd,Nat.reduceLeDiff,tyj,vBin_xor,vBin_or,vBin_shl,vBin_shr]
  refine wpP_seq (wpP_seqG ?_)
  simp -implicitDefEqProofs only [n87,Wa,Wb,Wc,Wd,We,Wf,Wg,Wh,Wi,Wj,Wk,Wl,Wm,Wn,Zo,Zp,evalT,Nat.reduceLT,Nat.reduceEqDiff,if_true,if_false,reduceIte,Ys,ofVal,ofCell,argT,resT,setT,Y0,Int.reduceEq,Int.reduceLT,Int.reduceLE,Int.reduceNeg,mb,Nat.reduceBEq,tys,stb,Va,storeList,Nat.reduceAdd,Nat.reduceLeDiff,tyj,vBin_xor,vBin_or,vBin_shl,vBin_shr,opT_nilCheck,nilO_ptr,hb,hlen,c1]
  refine wpP_cond (b := true) rfl ?_
  simp only [if_true]
  refine wpP_rpan 2 _ _ rfl rfl rfl ?_
  have hbd : buildO env 121 [] = some (.agg []) := by kernel_rfl
  have hmk : mkIfO env 121 (.agg []) = some tornV := by kernel_rfl
  simp -implicitDefEqProofs only [n87,Wa,Wb,Wc,Wd,We,Wf,Wg,Wh,Wi,Wj,Wk,Wl,Wm,Wn,Zo,Zp,evalT,Nat.reduceLT,Nat.reduceEqDiff,if_true,if_false,reduceIte,Ys,ofVal,ofCell,argT,resT,setT,Y0,Int.reduceEq,Int.reduceLT,Int.reduceLE,Int.reduceNeg,mb,Nat.reduceBEq,tys,stb,Va,storeList,Nat.reduceAdd,Nat.reduceLeDiff,tyj,vBin_xor,vBin_or,vBin_shl,vBin_shr,List.take_succ_cons,List.take_zero,hbd,opT_mkIf,hmk]
  refine ⟨121, .agg [], rfl, ?_⟩
  simp [tornV]
theorem n85 : Tryd.f85.ntmps = 18 := rfl
theorem u20 : env.P.underlying 20 = some (.interface #[]) := by kernel_rfl
theorem rep85 (a b c v : V) : Rep 18 (argT [a, b, c, v, .tup [], .tup [], v]) (([a, b, c, v, .tup [], .tup [], v] : List V) ++ List.replicate 11 (V.tup [])) := Rep.args [a, b, c, v, .tup [], .tup [], v] 18 (by simp)
theorem recover_none (a b c : V) (σ : S) : ev env (.dcall 85 [a, b, c] none σ) = some ⟨.ret, [.bool false], [], σ⟩ := by
  have hb := binO_nil_if (E := env) (t := 20) u20
  exact ev_dcall (E := env) (pv := none) (σ := σ) (σ1 := σ) (σ' := σ) (args := [a, b, c]) (rc := some none) (tmps1 := ([a, b, c, .nilif, .tup [], .tup [], .nilif] : List V) ++ List.replicate 11 (V.tup [])) at85 rfl (by simp [Tryd.f85]) (by
    simp [n85, execX, Region.wanted, opV, apure, aread, astate, opP, opD, isRcv, evalO, listO, putT, List.range, List.range.loop]) (rep85 a b c .nilif) rfl (by
    simp -implicitDefEqProofs only [n85,Wa,Wb,Wc,Wd,We,Wf,Wg,Wh,Wi,Wj,Wk,Wl,Wm,Wn,Zo,Zp,evalT,Nat.reduceLT,Nat.reduceEqDiff,if_true,if_false,reduceIte,Ys,ofVal,ofCell,argT,resT,setT,Y0,Int.reduceEq,Int.reduceLT,Int.reduceLE,Int.reduceNeg,mb,Nat.reduceBEq,tys,stb,Va,storeList,Nat.reduceAdd,Nat.reduceLeDiff,tyj,vBin_xor,vBin_or,vBin_shl,vBin_shr,hb,isConst])
theorem recover_some {L : List AObj} {ts : List Nat} {a b c : Nat} {o1 o2 o3 o4 : V} (ha : L[a]? = some (.cells [o1, o2] 55)) (hb : L[b]? = some (.cells [o3] 3)) (hc : L[c]? = some (.cells [o4] 4)) (hab : a ≠ b) (hbc : b ≠ c) (hac : a ≠ c) :
    ev env (.dcall 85 [.ptr a 0, .ptr b 0, .ptr c 0] (some tornV) ⟨L, ts⟩) = some ⟨.ret, [.bool true], [], ⟨(((L ++ [AObj.cells [] 121]).set a (.cells [.int .i64 0, .nilsl] 55)).set b (.cells [.int .i64 0] 3)).set c (.cells [.bool false] 4), ts⟩⟩ := by
  have hi : ∀ c, binO env 20 c .neq (some tornV) (some .nilif) = some (.bool true) := fun c => binO_if_nil u20 c 121 (.agg [])
  have hv : vAssert env 121 true tornV = some (.tup [.agg [], .bool true]) := by kernel_rfl
  have hz : zeroV env 121 = some (.agg []) := by kernel_rfl
  have hbd : buildO env 55 [] = some (.agg [.int .i64 0, .nilsl]) := by kernel_rfl
  have hla := B.lt_get ha
  have hlb := B.lt_get hb
  have hlc := B.lt_get hc
  have g1 : (L ++ [AObj.cells [] 121])[a]? = some (.cells [o1, o2] 55) := by rw [List.getElem?_append_left hla]; exact ha
  have g2 : ((L ++ [AObj.cells [] 121]).set a (.cells [.int .i64 0, .nilsl] 55))[b]? = some (.cells [o3] 3) := by rw [List.getElem?_set_ne hab, List.getElem?_append_left hlb]; exact hb
  have g3 : (((L ++ [AObj.cells [] 121]).set a (.cells [.int .i64 0, .nilsl] 55)).set b (.cells [.int .i64 0] 3))[c]? = some (.cells [o4] 4) := by rw [List.getElem?_set_ne hbc, List.getElem?_set_ne hac, List.getElem?_append_left hlc]; exact hc
  have s121 : sz env 121 = some 0 := by kernel_rfl
  have hl : (L ++ [AObj.cells [] 121])[L.length]? = some (.cells [] 121) := by simp
  have hs : (L ++ [AObj.cells [] 121]).set L.length (.cells [] 121) = L ++ [AObj.cells [] 121] := by simp
  exact ev_dcall (E := env) (pv := some tornV) (σ := ⟨L, ts⟩) (σ1 := ⟨L, ts⟩) (args := [.ptr a 0, .ptr b 0, .ptr c 0]) (rc := some none) (tmps1 := ([.ptr a 0, .ptr b 0, .ptr c 0, tornV, .tup [], .tup [], tornV] : List V) ++ List.replicate 11 (V.tup [])) at85 rfl (by simp [Tryd.f85]) (by
    simp [n85, execX, Region.wanted, opV, apure, aread, astate, opP, opD, isRcv, evalO, listO, putT, List.range, List.range.loop]) (rep85 _ _ _ tornV) rfl (by
    simp -implicitDefEqProofs only [n85,Wa,Wb,Wc,Wd,We,Wf,Wg,Wh,Wi,Wj,Wk,Wl,Wm,Wn,Zo,Zp,evalT,Nat.reduceLT,Nat.reduceEqDiff,if_true,if_false,reduceIte,Ys,ofVal,ofCell,argT,resT,setT,Y0,Int.reduceEq,Int.reduceLT,Int.reduceLE,Int.reduceNeg,mb,Nat.reduceBEq,tys,stb,Va,storeList,Nat.reduceAdd,Nat.reduceLeDiff,tyj,vBin_xor,vBin_or,vBin_shl,vBin_shr,isConst,hi,opT_typeAssert,s121,hl,hs,hv,hz,hbd,g1,g2,g3]
    exact ⟨rfl, rfl, rfl, ⟨Nat.le_refl _, rfl⟩, rfl⟩)
def fieldsR : Nat → List UInt8 → Option (List (List UInt8) × List UInt8)
  | 0, p => some ([], p)
  | c + 1, p => if p.length < 2 then none else if (p.drop 2).length < numF (p.take 2) then none else
    (fieldsR c ((p.drop 2).drop (numF (p.take 2)))).map fun x => ((p.drop 2).take (numF (p.take 2)) :: x.1, x.2)
def payR (p : List UInt8) : Option Rec :=
  if p.length < 2 then none else match fieldsR (p.getD 1 0).toNat (p.drop 2) with
    | some (fs, []) => some ⟨(p.getD 0 0).toNat, fs⟩
    | _ => none
def oneR (t : List UInt8) : Option (Rec × Nat) :=
  if t.length < 4 then none else if (t.drop 4).length < numF (t.take 4) then none else if ((t.drop 4).drop (numF (t.take 4))).length < 4 then none else
    match payR ((t.drop 4).take (numF (t.take 4))) with
    | none => none
    | some r => if (numF (((t.drop 4).drop (numF (t.take 4))).take 4) : Int) = sumF ((t.drop 4).take (numF (t.take 4))) ∧ chkR r = 0 then some (r, numF (t.take 4) + 8) else none
def TK (ts ts' : List Nat) : Prop := ts.length ≤ ts'.length ∧ ∀ k, k < ts.length → ts'[k]? = ts[k]?
theorem TK.refl (ts : List Nat) : TK ts ts := ⟨Nat.le_refl _, fun _ _ => rfl⟩
theorem TK.trans {a b c : List Nat} (h : TK a b) (k : TK b c) : TK a c := ⟨Nat.le_trans h.1 k.1, fun i hi => by rw [k.2 i (Nat.lt_of_lt_of_le hi h.1), h.2 i hi]⟩
theorem TK.row {ts ts' : List Nat} {w n : Nat} {v : V} {cs : List V} (h : TK ts ts') (r : RowT ts w v n cs) : RowT ts' w v n cs := by
  obtain ⟨hl, h1 | ⟨cap, h1, h2 | ⟨k, e, h2, h3⟩⟩⟩ := r
  · exact ⟨hl, .inl h1⟩
  · exact ⟨hl, .inr ⟨cap, h1, .inl h2⟩⟩
  · exact ⟨hl, .inr ⟨cap, h1, .inr ⟨k, e, h2, by rw [h.2 k (List.getElem?_eq_some_iff.1 h3).1]; exact h3⟩⟩⟩
def RowN (n0 : Nat) (ts : List Nat) (w : Nat) (v : V) (n : Nat) (cs : List V) : Prop := RowT ts w v n cs ∧ ∀ cells m k e w', v = .row cells m (.tok k e w') → n0 ≤ k
theorem RowN.nil (n0 : Nat) (ts : List Nat) (w : Nat) : RowN n0 ts w .nilsl 0 [] := ⟨RowT.nil _ _, fun _ _ _ _ _ h => by cases h⟩
theorem RowN.full (n0 : Nat) (ts : List Nat) (w n : Nat) (cells : List V) (h : cells.length = n * w) : RowN n0 ts w (.row cells n .full) n cells := ⟨RowT.full ts w n cells h, fun _ _ _ _ _ h => by cases h⟩
theorem RowN.append {E : Env} {L : List AObj} {n0 : Nat} {ts : List Nat} {t ty ty2 : TypeId} {w n m nb : Nat} {v y : V} {cs new : List V} (h : RowN n0 ts w v n cs) (hn0 : n0 ≤ ts.length) (he : elemS E ty = some t) (hs : sz E t = some w) (hz : zeroN E t = some w) (hb : bys E t = some nb) (hu : ∃ e2, E.P.underlying ty2 = some (.slice e2))
    (hlim : (n + m) * nb ≤ lim ∧ n + m ≤ lim) (hy : vLen y = some m) (hc : vCells L w m y = some new) (hnl : new.length = m * w) (hcell : new.all V.isCell = true) :
    ∃ v' ts', appO E false ⟨L, ts⟩ ty ty2 v y = some (v', ⟨L, ts'⟩) ∧ RowN n0 ts' w v' (n + m) (cs ++ new) ∧ ts.length ≤ ts'.length ∧ (∀ k, k < n0 → ts'[k]? = ts[k]?) ∧ (m ≠ 0 → v' ≠ .nilsl) := by
  obtain ⟨e2, hu⟩ := hu
  obtain ⟨h, hk0⟩ := h
  have hlen : (cs ++ new).length = (n + m) * w := by rw [List.length_append, h.1, hnl, Nat.add_mul]
  obtain ⟨hl, hcase⟩ := id h
  unfold appO
  simp only [he, hs, hb, hu, hz, hy, hc, Option.bind_some, if_true]
  by_cases h0 : m = 0
  · subst h0
    have hn : new = [] := List.eq_nil_of_length_eq_zero (by simpa using hnl)
    subst hn
    refine ⟨v, ts, ?_, ⟨by simpa using h, hk0⟩, Nat.le_refl _, fun _ _ => rfl, fun e => absurd rfl e⟩
    rcases hcase with ⟨rfl, rfl⟩ | ⟨cap, rfl, _⟩ <;> simp [aappend]
  · have new_tok : ∀ cells, cells.length = (n + m) * w → RowN n0 (ts ++ [0]) w (.row cells (n + m) (.tok ts.length 0 w)) (n + m) cells ∧ ts.length ≤ (ts ++ [0]).length ∧ (∀ k, k < n0 → (ts ++ [0])[k]? = ts[k]?) := fun cells hc =>
      ⟨⟨⟨hc, .inr ⟨_, rfl, .inr ⟨ts.length, 0, rfl, by simp⟩⟩⟩, fun _ _ _ _ _ h => by cases h; exact hn0⟩, by simp, fun k hk => by rw [List.getElem?_append_left (by omega)]⟩
    rcases hcase with ⟨rfl, rfl⟩ | ⟨cap, rfl, hcap⟩
    · have hx : cs = [] := List.eq_nil_of_length_eq_zero (by simpa using hl)
      subst hx
      obtain ⟨a1, a2, a3⟩ := new_tok new (by simpa using hlen)
      simp only [Nat.zero_add] at hlim a1
      refine ⟨.row new m (.tok ts.length 0 w), ts ++ [0], ?_, by simpa using a1, a2, a3, fun _ => by simp⟩
      simp [aappend, h0, hlim]
    · rcases hcap with rfl | ⟨k, e, rfl, hk⟩
      · obtain ⟨a1, a2, a3⟩ := new_tok (cs ++ new) hlen
        refine ⟨.row (cs ++ new) (n + m) (.tok ts.length 0 w), ts ++ [0], ?_, a1, a2, a3, fun _ => by simp⟩
        simp only [aappend, h0, hlim, hl, hcell, and_self, if_true, if_false, Bool.false_eq_true]
      · have hkn := hk0 _ _ _ _ _ rfl
        refine ⟨.row (cs ++ new) (n + m) (.tok k (e + 1) w), ts.set k (e + 1), ?_, ⟨⟨hlen, .inr ⟨_, rfl, .inr ⟨k, e + 1, rfl, by rw [List.getElem?_set_self (List.getElem?_eq_some_iff.1 hk).1]⟩⟩⟩, fun _ _ _ _ _ h => by cases h; exact hkn⟩, by simp, fun k' hk' => by rw [List.getElem?_set_ne (by omega)], fun _ => by simp⟩
        simp only [aappend, h0, hlim, hl, hcell, hk, and_self, if_true, if_false]
def OneK (L : List AObj) (tz : List Nat) (t : List UInt8) (v : V) (σ : S) : Prop :=
  (Keep L σ.heap ∧ TK tz σ.toks) ∧ match oneR t with
    | none => v = .tup [.agg [.int .i64 0, .nilsl], .int .i64 0, .bool false]
    | some (r, n) => ∃ fv, Fld fv r.fs ∧ v = .tup [.agg [.int .i64 r.k, fv], .int .i64 n, .bool true]
structure St (L H : List AObj) (k : Int) (fv : V) : Prop where
  keep : Keep L H
  b0 : H[L.length]? = some (.cells [.int .i64 k, fv] 55)
  b1 : H[L.length + 1]? = some (.cells [.int .i64 0] 3)
  b2 : H[L.length + 2]? = some (.cells [.bool false] 4)
theorem Keep.setge {L H : List AObj} (h : Keep L H) {c : Nat} (hc : L.length ≤ c) (o : AObj) : Keep L (H.set c o) := ⟨by rw [List.length_set]; exact h.1, fun q hq => by rw [List.getElem?_set_ne (by omega)]; exact h.2 q hq⟩
theorem St.set {L H : List AObj} {k : Int} {fv : V} (h : St L H k fv) {c : Nat} (hc : L.length + 3 ≤ c) (o : AObj) : St L (H.set c o) k fv :=
  ⟨h.keep.setge (by omega) o, by rw [List.getElem?_set_ne (by omega)]; exact h.b0, by rw [List.getElem?_set_ne (by omega)]; exact h.b1, by rw [List.getElem?_set_ne (by omega)]; exact h.b2⟩
theorem St.trans {L H H' : List AObj} {k : Int} {fv : V} (h : St L H k fv) (hk : Keep H H') : St L H' k fv := ⟨h.keep.trans hk, hk.get h.b0, hk.get h.b1, hk.get h.b2⟩
theorem Rd.back {L H : List AObj} {y y' : V} {t t' : List UInt8} (hk : Keep L H) (hy : Rd L y t) (h : Rd H y' t') (hs : Sub y' y) : Rd L y' t' := h.move fun q hq => (hk.2 q (hy.lt (hs q hq))).symm
theorem take_st {L H : List AObj} {ts : List Nat} {c n : Nat} {y : V} {t : List UInt8} (hk : Keep L H) (hc : L.length ≤ c) (hb : H[c]? = some (.cells [y] 123)) (hy : Rd L y t) (hn : n ≤ t.length) :
    ∃ y1 y2, callFn env (ev env) 87 [.ptr c 0, .int .i64 n] ⟨H, ts⟩ = some (y1, ⟨H.set c (.cells [y2] 123), ts⟩) ∧ Rd L y1 (t.take n) ∧ Rd L y2 (t.drop n) := by
  obtain ⟨y1, y2, h1, r1, r2, u1, u2⟩ := take_ok (ts := ts) hb (hk.rd hy) hn (fun e => by have := hy.lt e; omega)
  exact ⟨y1, y2, h1, Rd.back hk hy r1 u1, Rd.back hk hy r2 u2⟩
theorem takepan_st {L H : List AObj} {ts : List Nat} {c n : Nat} {y : V} {t : List UInt8} (hk : Keep L H) (hb : H[c]? = some (.cells [y] 123)) (hy : Rd L y t) (hn : t.length < n) : ev env (.call 87 [.ptr c 0, .int .i64 n] ⟨H, ts⟩) = some ⟨.pan tornV, [], [], ⟨H, ts⟩⟩ := take_pan hb (hk.rd hy) hn
end Go.Proofs.YtncohjljeoknkaaDoor.D
namespace Go.Proofs.YtncohjljeoknkaaDoor.D
open Go.Ab
set_option maxHeartbeats 8000000
set_option maxRecDepth 100000
set_option linter.unusedSimpArgs false
set_option linter.unusedVariables false
def headC : Code → Code
  | .seq a _ => a
  | c => c
noncomputable def st75 (i : Nat) : Code := headC (dropC i (bodyOf Tryd.f75))
theorem body75 : Tryd.f75.body = some (.seq (st75 0) (.seq (st75 1) (.seq (st75 2) (.seq (st75 3) (.seq (st75 4) (.seq (st75 5) (.seq (st75 6) (.seq (st75 7) (.seq (st75 8) (.seq (st75 9) (.seq (st75 10) (dropC 11 (bodyOf Tryd.f75))))))))))))) := by kernel_rfl
noncomputable def rs75 : List ResultVar := Tryd.f75.results.toList
noncomputable def caps75 (L : List AObj) : List V := [.ptr L.length 0, .ptr (L.length + 1) 0, .ptr (L.length + 2) 0]
noncomputable def D75 (L : List AObj) : List DE := [.call 85 (caps75 L)]
noncomputable def X75 (L : List AObj) (tz : List Nat) (t : List UInt8) : V → List V → List DE → S → Prop := EndX' env 85 (caps75 L) rs75 (OneK L tz t)
noncomputable def E75 (L : List AObj) (tz : List Nat) (t : List UInt8) : Tm → List DE → S → Prop := EndD env 85 (caps75 L) rs75 (OneK L tz t)
noncomputable def Q75 (L : List AObj) (tz : List Nat) (t : List UInt8) : Post := ⟨E75 L tz t, fun _ _ _ _ => False, E75 L tz t⟩
noncomputable def One (L : List AObj) (tz : List Nat) (t : List UInt8) (c : Code) (T : Tm) (σ : S) : Prop := wpP env 75 none 67 (X75 L tz t) c T (D75 L) σ (Q75 L tz t)
def Ad (L : List AObj) (T : Tm) : Prop := T 2 = .ptr L.length 0 ∧ T 3 = .ptr (L.length + 1) 0 ∧ T 4 = .ptr (L.length + 2) 0
theorem l55 {A : List AObj} {q : Nat} {a b : V} (h : A[q]? = some (.cells [a, b] 55)) : aload env A 55 (.ptr q 0) = some (.agg [a, b]) := by rw [agg55]; simp [loadCellsV, h]
theorem l3 {A : List AObj} {q : Nat} {a : V} (h : A[q]? = some (.cells [a] 3)) : aload env A 3 (.ptr q 0) = some a := by rw [aload_one g3]; simp [loadCellsV, h]
theorem l4 {A : List AObj} {q : Nat} {a : V} (h : A[q]? = some (.cells [a] 4)) : aload env A 4 (.ptr q 0) = some a := by rw [aload_one g4]; simp [loadCellsV, h]
theorem pan75 {L H : List AObj} {tz ts : List Nat} {t : List UInt8} {k : Int} {fv : V} (htk : TK tz ts) (h : oneR t = none) (hs : St L H k fv) {vals : List V} (h2 : vals.getD 2 (.tup []) = .ptr L.length 0) (h3 : vals.getD 3 (.tup []) = .ptr (L.length + 1) 0) (h4 : vals.getD 4 (.tup []) = .ptr (L.length + 2) 0) : X75 L tz t tornV vals (D75 L) ⟨H, ts⟩ := by
  refine ⟨rfl, _, recover_some hs.b0 hs.b1 hs.b2 (by omega) (by omega) (by omega), ?_⟩
  have hl0 := B.lt_get hs.b0
  have hl1 := B.lt_get hs.b1
  have hl2 := B.lt_get hs.b2
  have g0 : ((((H ++ [AObj.cells [] 121]).set L.length (.cells [.int .i64 0, .nilsl] 55)).set (L.length + 1) (.cells [.int .i64 0] 3)).set (L.length + 2) (.cells [.bool false] 4))[L.length]? = some (.cells [.int .i64 0, .nilsl] 55) := by
    rw [List.getElem?_set_ne (by omega), List.getElem?_set_ne (by omega), List.getElem?_set_self (by simp; omega)]
  have g1 : ((((H ++ [AObj.cells [] 121]).set L.length (.cells [.int .i64 0, .nilsl] 55)).set (L.length + 1) (.cells [.int .i64 0] 3)).set (L.length + 2) (.cells [.bool false] 4))[L.length + 1]? = some (.cells [.int .i64 0] 3) := by
    rw [List.getElem?_set_ne (by omega), List.getElem?_set_self (by simp; omega)]
  have g2 : ((((H ++ [AObj.cells [] 121]).set L.length (.cells [.int .i64 0, .nilsl] 55)).set (L.length + 1) (.cells [.int .i64 0] 3)).set (L.length + 2) (.cells [.bool false] 4))[L.length + 2]? = some (.cells [.bool false] 4) := by
    rw [List.getElem?_set_self (by simp; omega)]
  have hk : Keep L ((((H ++ [AObj.cells [] 121]).set L.length (.cells [.int .i64 0, .nilsl] 55)).set (L.length + 1) (.cells [.int .i64 0] 3)).set (L.length + 2) (.cells [.bool false] 4)) :=
    (((hs.keep.trans (Keep.app H _)).setge (Nat.le_refl _) _).setge (by omega) _).setge (by omega) _
  have hr : rs75 = [.cell 2 55, .cell 3 3, .cell 4 4] := rfl
  refine ⟨[.agg [.int .i64 0, .nilsl], .int .i64 0, .bool false], ?_, ⟨hk, htk⟩, ?_⟩
  · rw [hr]
    simp only [resV, h2, h3, h4, l55 g0, l3 g1, l4 g2, Option.bind_some, Option.map_some]
  · rw [h]; rfl
theorem end75 {L H : List AObj} {tz ts : List Nat} {t : List UInt8} {T : Tm} {b c : V} {k : Int} {fv : V} (hT : Ad L T) (hk : Keep L H) (g0 : H[L.length]? = some (.cells [.int .i64 k, fv] 55)) (g1 : H[L.length + 1]? = some (.cells [b] 3)) (g2 : H[L.length + 2]? = some (.cells [c] 4))
    (h : OneK L tz t (.tup [.agg [.int .i64 k, fv], b, c]) ⟨H, ts⟩) : E75 L tz t T (D75 L) ⟨H, ts⟩ := by
  refine ⟨rfl, _, recover_none _ _ _ _, [.agg [.int .i64 k, fv], b, c], ?_, h⟩
  have hr : rs75 = [.cell 2 55, .cell 3 3, .cell 4 4] := rfl
  obtain ⟨t2, t3, t4⟩ := hT
  rw [hr]
  simp only [resT, t2, t3, t4, l55 g0, l3 g1, l4 g2, Option.bind_some, Option.map_some]
section
variable {L H : List AObj} {tz ts : List Nat} {t : List UInt8} {T : Tm} {k : Int} {fv : V} {rest : Code}
theorem bad75 (htk : TK tz ts) (hT : Ad L T) (h : oneR t = none) (hk : Keep L H) (g0 : H[L.length]? = some (.cells [.int .i64 0, .nilsl] 55)) (g1 : H[L.length + 1]? = some (.cells [.int .i64 0] 3)) (g2 : H[L.length + 2]? = some (.cells [.bool false] 4)) : E75 L tz t T (D75 L) ⟨H, ts⟩ :=
  end75 (k := 0) (fv := .nilsl) hT hk g0 g1 g2 ⟨⟨hk, htk⟩, by rw [h]⟩
theorem set_same {q : Nat} {o : AObj} (h : H[q]? = some o) : H.set q o = H := by
  obtain ⟨hl, rfl⟩ := List.getElem?_eq_some_iff.1 h
  exact List.set_getElem_self hl
theorem s11 {yb : V} {body : List UInt8} {r : Rec} (htk : TK tz ts) (hT : Ad L T) (hs : St L H r.k fv) (hf : Fld fv r.fs) (t7 : T 7 = yb) (hy : Rd L yb body) (hl : body.length ≤ 2 ^ 38) (ho : oneR t = some (r, body.length + 8)) : One L tz t (dropC 11 (bodyOf Tryd.f75)) T ⟨H, ts⟩ := by
  have hlen := hy.lenT 5
  have w1 : IntKind.wrap .i64 ((body.length : Int) + 8) = ((body.length + 8 : Nat) : Int) := by rw [B.wrap64 (by omega)]; omega
  obtain ⟨t2, t3, t4⟩ := id hT
  have hl0 := B.lt_get hs.b0
  have hl1 := B.lt_get hs.b1
  have hl2 := B.lt_get hs.b2
  have g0 := hs.b0
  have g1 : (H.set (L.length + 1) (.cells [.int .i64 ((body.length + 8 : Nat) : Int)] 3))[L.length + 2]? = some (.cells [.bool false] 4) := by rw [List.getElem?_set_ne (by omega)]; exact hs.b2
  have hb1 := hs.b1
  refine wpP_G ?_
  simp -implicitDefEqProofs only [dropC,bodyOf,Tryd.f75,Option.getD_some,Wa,Wb,Wc,Wd,We,Wf,Wg,Wh,Wi,Wj,Wk,Wl,Wm,Wn,Zo,Zp,evalT,Nat.reduceLT,Nat.reduceEqDiff,if_true,if_false,reduceIte,Ys,ofVal,ofCell,argT,resT,setT,Y0,Int.reduceEq,Int.reduceLT,Int.reduceLE,Int.reduceNeg,mb,Nat.reduceBEq,tys,stb,Va,storeList,Nat.reduceAdd,Nat.reduceLeDiff,tyj,vBin_xor,vBin_or,vBin_shl,vBin_shr,t2,t3,t4,t7,hlen,w1,g0,l55 g0,hb1,g1,hf.cells,hf.isCell,set_same g0]
  refine ⟨rfl, rfl, rfl, ⟨Nat.le_refl _, rfl⟩, ?_⟩
  refine end75 (k := r.k) (fv := fv) (b := .int .i64 ((body.length + 8 : Nat) : Int)) (c := .bool true) ⟨t2, t3, t4⟩ ((hs.keep.setge (by omega) _).setge (by omega) _) ?_ ?_ ?_ ⟨⟨(hs.keep.setge (by omega) _).setge (by omega) _, htk⟩, ?_⟩
  · rw [List.getElem?_set_ne (by omega), List.getElem?_set_ne (by omega)]; exact g0
  · rw [List.getElem?_set_ne (by omega), List.getElem?_set_self hl1]
  · rw [List.getElem?_set_self (by rw [List.length_set]; exact hl2)]; rfl
  · rw [ho]
    exact ⟨fv, hf, rfl⟩
theorem s10 {yb yp : V} {body : List UInt8} {r : Rec} {sum : Nat} {left : List UInt8} (htk : TK tz ts) (hT : Ad L T) (hs : St L H r.k fv) (hf : Fld fv r.fs) (hfl : r.fs.length ≤ 2 ^ 38) (t7 : T 7 = yb) (t8 : T 8 = .int .u32 sum) (t9 : T 9 = .ptr (L.length + 4) 0) (hy : Rd L yb body) (hl : body.length ≤ 2 ^ 38) (hb : H[L.length + 4]? = some (.cells [yp] 123)) (hyp : Rd L yp left)
    (ho : oneR t = if left = [] ∧ (sum : Int) = sumF body ∧ chkR r = 0 then some (r, body.length + 8) else none) : One L tz t (.seq (st75 10) (dropC 11 (bodyOf Tryd.f75))) T ⟨H, ts⟩ := by
  have hlen := hyp.lenT 5
  obtain ⟨t2, t3, t4⟩ := id hT
  have g0 := hs.b0
  have g1 := hs.b1
  have g2 := hs.b2
  have hl0 := B.lt_get g0
  have hl1 := B.lt_get g1
  have hl2 := B.lt_get g2
  have hS := sum_call (ts := ts) (hs.keep.rd hy) hl
  obtain ⟨H', hC, hK⟩ := check_call (L := H) (ts := ts) hf hfl
  have hst := hs.trans hK
  have bad : ∀ (T' : Tm) (H2 : List AObj), St L H2 r.k fv → oneR t = none → Ad L T' → E75 L tz t T' (D75 L) ⟨((H2.set L.length (.cells [.int .i64 0, .nilsl] 55)).set (L.length + 1) (.cells [.int .i64 0] 3)).set (L.length + 2) (.cells [.bool false] 4), ts⟩ := by
    intro T' H2 h2 ho2 hA
    have e0 := B.lt_get h2.b0
    have e1 := B.lt_get h2.b1
    have e2 := B.lt_get h2.b2
    refine bad75 htk hA ho2 (((h2.keep.setge (Nat.le_refl _) _).setge (by omega) _).setge (by omega) _) ?_ ?_ ?_
    · rw [List.getElem?_set_ne (by omega), List.getElem?_set_ne (by omega), List.getElem?_set_self e0]
    · rw [List.getElem?_set_ne (by omega), List.getElem?_set_self (by rw [List.length_set]; exact e1)]
    · rw [List.getElem?_set_self (by rw [List.length_set, List.length_set]; exact e2)]
  have bset : ∀ (H2 : List AObj), St L H2 r.k fv → (H2.set L.length (.cells [.int .i64 0, .nilsl] 55))[L.length + 1]? = some (.cells [.int .i64 0] 3) ∧ ((H2.set L.length (.cells [.int .i64 0, .nilsl] 55)).set (L.length + 1) (.cells [.int .i64 0] 3))[L.length + 2]? = some (.cells [.bool false] 4) := by
    intro H2 h2
    exact ⟨by rw [List.getElem?_set_ne (by omega)]; exact h2.b1, by rw [List.getElem?_set_ne (by omega), List.getElem?_set_ne (by omega)]; exact h2.b2⟩
  have hbd : buildO env 55 [] = some (.agg [.int .i64 0, .nilsl]) := by kernel_rfl
  by_cases c1 : 0 < left.length
  · have c1' : (0 : Int) < (left.length : Int) := by omega
    have hn : oneR t = none := by rw [ho, if_neg]; rintro ⟨rfl, _⟩; simp at c1
    obtain ⟨b1, b2⟩ := bset H hs
    refine wpP_seqG ?_
    simp -implicitDefEqProofs only [st75,headC,dropC,bodyOf,Tryd.f75,Option.getD_some,Wa,Wb,Wc,Wd,We,Wf,Wg,Wh,Wi,Wj,Wk,Wl,Wm,Wn,Zo,Zp,evalT,Nat.reduceLT,Nat.reduceEqDiff,if_true,if_false,reduceIte,Ys,ofVal,ofCell,argT,resT,setT,Y0,Int.reduceEq,Int.reduceLT,Int.reduceLE,Int.reduceNeg,mb,Nat.reduceBEq,tys,stb,Va,storeList,Nat.reduceAdd,Nat.reduceLeDiff,tyj,vBin_xor,vBin_or,vBin_shl,vBin_shr,t2,t3,t4,t7,t8,t9,hb,hlen,c1',hbd,g0,b1,b2]
    exact ⟨rfl, rfl, rfl, ⟨Nat.le_refl _, rfl⟩, bad _ H hs hn ⟨t2, t3, t4⟩⟩
  · have hleft : left = [] := List.eq_nil_of_length_eq_zero (by omega)
    have c1' : ¬ (0 : Int) < (left.length : Int) := by omega
    by_cases c2 : (sum : Int) = sumF body
    · have hS2 := hS
      rw [← c2] at hS2
      obtain ⟨b1, b2⟩ := bset H' hst
      have g0' := hst.b0
      by_cases c3 : chkR r = 0
      · rw [if_pos ⟨hleft, c2, c3⟩] at ho
        rw [c3] at hC
        refine wpP_seqG ?_
        simp -implicitDefEqProofs only [st75,headC,dropC,bodyOf,Tryd.f75,Option.getD_some,Wa,Wb,Wc,Wd,We,Wf,Wg,Wh,Wi,Wj,Wk,Wl,Wm,Wn,Zo,Zp,evalT,Nat.reduceLT,Nat.reduceEqDiff,if_true,if_false,reduceIte,Ys,ofVal,ofCell,argT,resT,setT,Y0,Int.reduceEq,Int.reduceLT,Int.reduceLE,Int.reduceNeg,mb,Nat.reduceBEq,tys,stb,Va,storeList,Nat.reduceAdd,Nat.reduceLeDiff,tyj,vBin_xor,vBin_or,vBin_shl,vBin_shr,t2,t3,t4,t7,t8,t9,hb,hlen,c1',hbd,g0,b1,b2,hS2,l55 g0,hC,ZQ]
        refine s11 (yb := yb) (body := body) htk ⟨t2, t3, t4⟩ hst hf t7 hy hl ho
      · have hn : oneR t = none := by rw [ho, if_neg]; rintro ⟨_, _, h⟩; exact c3 h
        refine wpP_seqG ?_
        simp -implicitDefEqProofs only [st75,headC,dropC,bodyOf,Tryd.f75,Option.getD_some,Wa,Wb,Wc,Wd,We,Wf,Wg,Wh,Wi,Wj,Wk,Wl,Wm,Wn,Zo,Zp,evalT,Nat.reduceLT,Nat.reduceEqDiff,if_true,if_false,reduceIte,Ys,ofVal,ofCell,argT,resT,setT,Y0,Int.reduceEq,Int.reduceLT,Int.reduceLE,Int.reduceNeg,mb,Nat.reduceBEq,tys,stb,Va,storeList,Nat.reduceAdd,Nat.reduceLeDiff,tyj,vBin_xor,vBin_or,vBin_shl,vBin_shr,t2,t3,t4,t7,t8,t9,hb,hlen,c1',hbd,g0,b1,b2,hS2,l55 g0,hC,c3,g0']
        exact ⟨rfl, rfl, rfl, ⟨Nat.le_refl _, rfl⟩, bad _ H' hst hn ⟨t2, t3, t4⟩⟩
    · have hn : oneR t = none := by rw [ho, if_neg]; rintro ⟨_, h, _⟩; exact c2 h
      obtain ⟨b1, b2⟩ := bset H hs
      refine wpP_seqG ?_
      simp -implicitDefEqProofs only [st75,headC,dropC,bodyOf,Tryd.f75,Option.getD_some,Wa,Wb,Wc,Wd,We,Wf,Wg,Wh,Wi,Wj,Wk,Wl,Wm,Wn,Zo,Zp,evalT,Nat.reduceLT,Nat.reduceEqDiff,if_true,if_false,reduceIte,Ys,ofVal,ofCell,argT,resT,setT,Y0,Int.reduceEq,Int.reduceLT,Int.reduceLE,Int.reduceNeg,mb,Nat.reduceBEq,tys,stb,Va,storeList,Nat.reduceAdd,Nat.reduceLeDiff,tyj,vBin_xor,vBin_or,vBin_shl,vBin_shr,t2,t3,t4,t7,t8,t9,hb,hlen,c1',hbd,g0,b1,b2,hS,c2]
      exact ⟨rfl, rfl, rfl, ⟨Nat.le_refl _, rfl⟩, bad _ H hs hn ⟨t2, t3, t4⟩⟩
end
end Go.Proofs.YtncohjljeoknkaaDoor.D
namespace Go.Proofs.YtncohjljeoknkaaDoor.D
open Go.Ab
set_option maxHeartbeats 8000000
set_option maxRecDepth 100000
set_option linter.unusedSimpArgs false
set_option linter.unusedVariables false
def finR (k : Int) (sum : Nat) (body : List UInt8) : Option (List (List UInt8) × List UInt8) → Option (Rec × Nat)
  | none => none
  | some (fs, left) => if left = [] ∧ (sum : Int) = sumF body ∧ chkR ⟨k, fs⟩ = 0 then some (⟨k, fs⟩, body.length + 8) else none
theorem RowT.fld {ts : List Nat} {v : V} {fs : List (List UInt8)} (h : RowT ts 1 v fs.length (fs.map .str)) : Fld v fs := by
  rcases h.or with ⟨rfl, h0, _⟩ | ⟨cap, rfl⟩
  · exact .inl ⟨rfl, List.eq_nil_of_length_eq_zero h0⟩
  · exact .inr ⟨cap, rfl⟩
theorem e53 : elemS env 53 = some 9 := by kernel_rfl
theorem row53 (s : List UInt8) : rowO env 53 1 [(0, .str s)] = some (.row [.str s] 1 .full) :=
  rowN (z := .str []) (vs := [.str s]) e53 s9 (by kernel_rfl) rfl (by simp [V.cells]) (by simp) (by simp) _ rfl
theorem app_fld {L : List AObj} {tz ts : List Nat} {v : V} {fs : List (List UInt8)} (htk : TK tz ts) (h : RowN tz.length ts 1 v fs.length (fs.map .str)) (s : List UInt8) (hl : fs.length ≤ 2 ^ 30) :
    ∃ v' ts', appO env false ⟨L, ts⟩ 53 53 v (.row [.str s] 1 .full) = some (v', ⟨L, ts'⟩) ∧ RowN tz.length ts' 1 v' (fs ++ [s]).length ((fs ++ [s]).map .str) ∧ TK tz ts' := by
  have hlim : (fs.length + 1) * 16 ≤ lim ∧ fs.length + 1 ≤ lim := by unfold lim; omega
  obtain ⟨v', ts', h1, h2, h3, h4, _⟩ := h.append (E := env) (L := L) (y := .row [.str s] 1 .full) (m := 1) (new := [.str s]) (nb := 16) htk.1 e53 s9 (by kernel_rfl) (by kernel_rfl) ⟨9, u53⟩ hlim rfl rfl rfl rfl
  exact ⟨v', ts', h1, by rw [List.length_append, List.map_append]; exact h2, Nat.le_trans htk.1 h3, fun k hk => by rw [h4 k hk, htk.2 k hk]⟩
theorem getD_take {vals : List V} {k i : Nat} (h : i < k) : (vals.take k).getD i (.tup []) = vals.getD i (.tup []) := by
  simp [List.getD, List.getElem?_take_of_lt h]
theorem mb75 (r : Nat) : env.mutb 75 r = false := rfl
section
variable {L H : List AObj} {tz ts : List Nat} {t : List UInt8} {T : Tm} {k : Int} {fv : V} {rest : Code}
theorem panc {T : Tm} {σ : S} {K : V → S → Prop} {c n : Operand} {ar : Array TypeId} {cv nv : V} (h1 : evalT env T c = some cv) (h2 : evalT env T n = some nv) (hp : ev env (.call 87 [cv, nv] σ) = some ⟨.pan tornV, [], [], σ⟩) (hk : K tornV σ) : PanO env T (.call { callee := .value (.func 87), args := #[c, n], argTypes := ar }) σ K := by
  refine ⟨87, [], [], [cv, nv], tornV, σ, rfl, ?_, rfl, rfl, rfl, rfl, hp, hk⟩
  simp only [listO, h1, h2, Option.bind_some, Option.map_some]
theorem pan_vals {T' : Tm} {σ : S} (htk : TK tz σ.toks) (h : oneR t = none) (hs : St L σ.heap k fv) (hT : Ad L T') : ∀ vals, Rep 67 T' vals → X75 L tz t tornV vals (D75 L) σ := fun vals hr =>
  pan75 (H := σ.heap) (ts := σ.toks) htk h hs ((hr.2 2).trans hT.1) ((hr.2 3).trans hT.2.1) ((hr.2 4).trans hT.2.2)
theorem pan_take {T' : Tm} {σ : S} {n : Nat} (hn : 4 < n) (htk : TK tz σ.toks) (h : oneR t = none) (hs : St L σ.heap k fv) (hT : Ad L T') : ∀ vals, Rep 67 T' vals → X75 L tz t tornV (vals.take n) (D75 L) σ := fun vals hr =>
  pan75 (H := σ.heap) (ts := σ.toks) htk h hs ((getD_take (by omega)).trans ((hr.2 2).trans hT.1)) ((getD_take (by omega)).trans ((hr.2 3).trans hT.2.1)) ((getD_take (by omega)).trans ((hr.2 4).trans hT.2.2))
structure Rnd (L : List AObj) (tz : List Nat) (t : List UInt8) (k : Int) (sum : Nat) (body : List UInt8) (c : Nat) (yb : V) (j : Nat) (T : Tm) (σ : S) (i : Nat) (acc : List (List UInt8)) (p : List UInt8) (fv yp : V) : Prop where
  ad : Ad L T
  t7 : T 7 = yb
  t8 : T 8 = .int .u32 sum
  t9 : T 9 = .ptr (L.length + 4) 0
  t34 : T 34 = .int .u8 c
  t35 : T 35 = .int .u8 j
  le : i ≤ c
  len : acc.length = i
  st : St L σ.heap k fv
  tk : TK tz σ.toks
  row : RowN tz.length σ.toks 1 fv acc.length (acc.map .str)
  box : σ.heap[L.length + 4]? = some (.cells [yp] 123)
  rd : Rd L yp p
  ho : oneR t = finR k sum body ((fieldsR (c - i) p).map fun x => (acc ++ x.1, x.2))
def tailC : Code → Code
  | .seq _ b => b
  | c => c
def inB : Code → Code
  | .block _ c => c
  | c => c
def inL : Code → Code
  | .loop c => c
  | c => c
noncomputable def lp75 : Code := inL (inB (tailC (st75 9)))
noncomputable def reg12 : Code := inB (headC (tailC (tailC lp75)))
theorem r12 {yb : V} {body : List UInt8} {sum c i : Nat} {σ : S} {acc : List (List UInt8)} {p : List UInt8} {fv yp : V} {Q : Post} (h : Rnd L tz t k sum body c yb i T σ i acc p fv yp) (hic : i < c) (hc : c ≤ 255) (hpl : p.length ≤ 2 ^ 38)
    (hQ : ∀ T' σ' fv' yp' f p', Rnd L tz t k sum body c yb i T' σ' (i + 1) (acc ++ [f]) p' fv' yp' → p'.length ≤ p.length → Q.norm T' (D75 L) σ') : wpP env 75 none 67 (X75 L tz t) reg12 T (D75 L) σ Q := by
  obtain ⟨hT, t7, t8, t9, t34, t35, hle, hlen, hs, htk, hrow, hb, hyp, ho⟩ := h
  obtain ⟨t2, t3, t4⟩ := id hT
  obtain ⟨H, ts⟩ := σ
  simp only at hs htk hrow hb
  have hci : c - i = (c - (i + 1)) + 1 := by omega
  rw [hci, fieldsR] at ho
  have hg0 := hs.b0
  have hld : loadCellsV H 1 (.ptr L.length 1) = some [fv] := by simp [loadCellsV, hg0]
  have hbl := B.lt_get hb
  by_cases c1 : p.length < 2
  · have hn : oneR t = none := by rw [ho, if_pos c1]; rfl
    have hp := takepan_st (ts := ts) (n := 2) hs.keep hb hyp (by omega)
    simp -implicitDefEqProofs only [reg12,lp75,inB,inL,tailC,st75,headC,dropC,bodyOf,Tryd.f75,Option.getD_some]
    refine wpP_dpan 2 _ _ [(false, []), (false, [])] (fun m s0 => s0.heap = H) rfl rfl rfl rfl (by kernel_rfl) (by kernel_rfl) (by kernel_rfl) (by kernel_rfl) rfl ?_
    simp -implicitDefEqProofs only [List.take_succ_cons,List.take_zero,Wa,Wb,Wc,Wd,We,Wf,Wg,Wh,Wi,Wj,Wk,Wl,Wm,Wn,Zo,Zp,evalT,Nat.reduceLT,Nat.reduceEqDiff,if_true,if_false,reduceIte,Ys,ofVal,ofCell,argT,resT,setT,Y0,Int.reduceEq,Int.reduceLT,Int.reduceLE,Int.reduceNeg,mb,Nat.reduceBEq,tys,stb,Va,storeList,Nat.reduceAdd,Nat.reduceLeDiff,tyj,vBin_xor,vBin_or,vBin_shl,vBin_shr,t2,hg0,hld,GW_nil,GW_op,GWS_0,GWS_0n,GWS_1,GWS_1n,GWS_m,GWS_ite,GWS_nite,AllM_nil,AllM_cons]
    exact panc (cv := .ptr (L.length + 4) 0) (nv := .int .i64 2) (congrArg some t9) rfl hp (pan_take (Nat.le_of_ble_eq_true (n := 5) (by kernel_rfl)) htk hn hs ⟨t2, t3, t4⟩)
  · rw [if_neg c1] at ho
    obtain ⟨y1, y2, hC1, r1, r2⟩ := take_st (ts := ts) (n := 2) hs.keep (by omega) hb hyp (by omega)
    have hs2 := hs.set (c := L.length + 4) (by omega) (.cells [y2] 123)
    have hN := number_call (ts := ts) (hs2.keep.rd r1) (by rw [List.length_take]; omega)
    have hlt := numF_lt (p.take 2)
    have hle2 : (p.take 2).length = 2 := by rw [List.length_take]; omega
    rw [hle2] at hlt
    have w1 : IntKind.i64.wrap (numF (p.take 2) : Int) = (numF (p.take 2) : Int) := wrap_i64_of (by omega)
    have hb2 : (H.set (L.length + 4) (.cells [y2] 123))[L.length + 4]? = some (.cells [y2] 123) := List.getElem?_set_self hbl
    have hg2 := hs2.b0
    have i2 : ((2 : Nat) : Int) = 2 := rfl
    rw [i2] at hC1
    by_cases c2 : (p.drop 2).length < numF (p.take 2)
    · have hn : oneR t = none := by rw [ho, if_pos c2]; rfl
      have hp := takepan_st (ts := ts) (n := numF (p.take 2)) hs2.keep hb2 r2 c2
      simp -implicitDefEqProofs only [reg12,lp75,inB,inL,tailC,st75,headC,dropC,bodyOf,Tryd.f75,Option.getD_some]
      refine wpP_dpan 5 _ _ [(false, []), (false, [1, 2]), (true, []), (true, []), (false, [])] (fun m s0 => s0.heap[L.length]? = some (.cells [.int .i64 k, fv] 55)) rfl rfl rfl hg0 (by kernel_rfl) (by kernel_rfl) (by kernel_rfl) (by kernel_rfl) rfl ?_
      simp -implicitDefEqProofs only [List.take_succ_cons,List.take_zero,Wa,Wb,Wc,Wd,We,Wf,Wg,Wh,Wi,Wj,Wk,Wl,Wm,Wn,Zo,Zp,evalT,Nat.reduceLT,Nat.reduceEqDiff,if_true,if_false,reduceIte,Ys,ofVal,ofCell,argT,resT,setT,Y0,Int.reduceEq,Int.reduceLT,Int.reduceLE,Int.reduceNeg,mb,Nat.reduceBEq,tys,stb,Va,storeList,Nat.reduceAdd,Nat.reduceLeDiff,tyj,vBin_xor,vBin_or,vBin_shl,vBin_shr,t2,t9,hg0,hld,GW_nil,GW_op,GWS_0,GWS_0n,GWS_1,GWS_1n,GWS_m,GWS_ite,GWS_nite,AllM_nil,AllM_cons,hC1,hN,w1,aread_load,hg2]
      exact ⟨⟨fun s0 e => by rw [e]; rfl, fun s0 e => by rw [e]; rfl, trivial⟩, panc (cv := .ptr (L.length + 4) 0) (nv := .int .i64 (numF (p.take 2) : Int)) (congrArg some t9) rfl hp (pan_take (Nat.le_of_ble_eq_true (n := 5) (by kernel_rfl)) htk hn hs2 ⟨t2, t3, t4⟩)⟩
    · rw [if_neg c2] at ho
      obtain ⟨y3, y4, hC2, r3, r4⟩ := take_st (ts := ts) (n := numF (p.take 2)) hs2.keep (by omega) hb2 r2 (by omega)
      have hss : ∀ o : AObj, (H.set (L.length + 4) (.cells [y2] 123)).set (L.length + 4) o = H.set (L.length + 4) o := fun o => List.set_set ..
      rw [hss] at hC2
      have hs4 := hs.set (c := L.length + 4) (by omega) (.cells [y4] 123)
      have hcv := (hs4.keep.rd r3).str ts
      obtain ⟨v', ts', hA, hrow', htk'⟩ := app_fld (L := H.set (L.length + 4) (.cells [y4] 123)) htk hrow ((p.drop 2).take (numF (p.take 2))) (by rw [hlen]; omega)
      have hvc := (RowT.fld hrow'.1).cells
      have hvi := (RowT.fld hrow'.1).isCell
      have hg4 := hs4.b0
      have hb4 : (H.set (L.length + 4) (.cells [y4] 123))[L.length + 4]? = some (.cells [y4] 123) := List.getElem?_set_self hbl
      simp -implicitDefEqProofs only [reg12,lp75,inB,inL,tailC,st75,headC,dropC,bodyOf,Tryd.f75,Option.getD_some]
      refine wpP_G ?_
      refine G_win rfl [(false, []), (false, [1, 2, 3]), (true, []), (true, []), (false, []), (true, []), (false, []), (false, []), (true, []), (false, []), (true, [])] (fun m s0 => m ≤ 3 → s0.heap[L.length]? = some (.cells [.int .i64 k, fv] 55)) (fun _ => hg0) (by kernel_rfl) (by kernel_rfl) ?_
      simp -implicitDefEqProofs only [Wa,Wb,Wc,Wd,We,Wf,Wg,Wh,Wi,Wj,Wk,Wl,Wm,Wn,Zo,Zp,evalT,Nat.reduceLT,Nat.reduceEqDiff,if_true,if_false,reduceIte,Ys,ofVal,ofCell,argT,resT,setT,Y0,Int.reduceEq,Int.reduceLT,Int.reduceLE,Int.reduceNeg,mb,Nat.reduceBEq,tys,stb,Va,storeList,Nat.reduceAdd,Nat.reduceLeDiff,tyj,vBin_xor,vBin_or,vBin_shl,vBin_shr,t2,t9,hg0,hld,GW_nil,GW_op,GWS_0,GWS_0n,GWS_1,GWS_1n,GWS_m,GWS_ite,GWS_nite,AllM_nil,AllM_cons,hC1,hN,w1,aread_load,hg2,hC2,hcv,opT_rowB,row53,mb75,hA,hvc,hvi,hg4]
      have hl0 := B.lt_get hs4.b0
      refine ⟨⟨fun s0 e => by rw [e]; rfl, fun s0 e => by rw [e]; rfl, fun s0 e => by rw [e]; rfl, trivial⟩, hQ _ _ v' y4 ((p.drop 2).take (numF (p.take 2))) ((p.drop 2).drop (numF (p.take 2))) ⟨⟨t2, t3, t4⟩, t7, t8, t9, t34, t35, by omega, by rw [List.length_append, hlen]; rfl, ⟨hs4.keep.setge (Nat.le_refl _) _, List.getElem?_set_self hl0, ?_, ?_⟩, htk', hrow', ?_, r4, ?_⟩ (by rw [List.length_drop, List.length_drop]; omega)⟩
      · rw [List.getElem?_set_ne (by omega)]; exact hs4.b1
      · rw [List.getElem?_set_ne (by omega)]; exact hs4.b2
      · rw [List.getElem?_set_ne (by omega)]; exact hb4
      · rw [ho, Option.map_map]
        congr 2
        funext x
        simp
theorem lp {yb : V} {body : List UInt8} {sum c : Nat} {Q : Post} (hc : c ≤ 255) (hQ : ∀ T' σ' fv' yp' acc' p', Rnd L tz t k sum body c yb c T' σ' c acc' p' fv' yp' → Q.exit 0 T' (D75 L) σ') :
    ∀ m T D σ, (D = D75 L ∧ ∃ i acc p fv yp, Rnd L tz t k sum body c yb i T σ i acc p fv yp ∧ m = c - i ∧ p.length ≤ 2 ^ 38) → wpP env 75 none 67 (X75 L tz t) (.loop lp75) T D σ Q := by
  refine wpP_loop _ ?_
  rintro m T D σ ⟨rfl, i, acc, p, fv, yp, h, rfl, hpl⟩
  have e : lp75 = .seq (headC lp75) (.seq (headC (tailC lp75)) (.seq (.block 1 reg12) (tailC (tailC (tailC lp75))))) := by kernel_rfl
  rw [e]
  have t34 := h.t34
  have t35 := h.t35
  refine wpP_seqG ?_
  by_cases hic : i < c
  · have c1 : (i : Int) < (c : Int) := by omega
    simp -implicitDefEqProofs only [lp75,inB,inL,tailC,st75,headC,dropC,bodyOf,Tryd.f75,Option.getD_some,Wa,Wb,Wc,Wd,We,Wf,Wg,Wh,Wi,Wj,Wk,Wl,Wm,Wn,Zo,Zp,evalT,Nat.reduceLT,Nat.reduceEqDiff,if_true,if_false,reduceIte,Ys,ofVal,ofCell,argT,resT,setT,Y0,Int.reduceEq,Int.reduceLT,Int.reduceLE,Int.reduceNeg,mb,Nat.reduceBEq,tys,stb,Va,storeList,Nat.reduceAdd,Nat.reduceLeDiff,tyj,vBin_xor,vBin_or,vBin_shl,vBin_shr,t34,t35,c1]
    refine wpP_seq (wpP_cond (b := true) rfl ?_)
    simp only [if_true]
    refine wpP_G ?_
    simp -implicitDefEqProofs only [Wa,Wb,Wc,Wd,We,Wf,Wg,Wh,Wi,Wj,Wk,Wl,Wm,Wn,Zo,Zp,evalT,Nat.reduceLT,Nat.reduceEqDiff,if_true,if_false,reduceIte,Ys,ofVal,ofCell,argT,resT,setT,Y0,Int.reduceEq,Int.reduceLT,Int.reduceLE,Int.reduceNeg,mb,Nat.reduceBEq,tys,stb]
    refine wpP_seq (wpP_block (r12 (i := i) (acc := acc) (p := p) (fv := fv) (yp := yp) (sum := sum) (body := body) (c := c) (yb := yb) ⟨h.ad, h.t7, h.t8, h.t9, h.t34, h.t35, h.le, h.len, h.st, h.tk, h.row, h.box, h.rd, h.ho⟩ hic hc hpl ?_))
    intro T' σ' fv' yp' f p' h' hp'
    have t35' := h'.t35
    have w1 : IntKind.wrap .u8 ((i : Int) + 1) = ((i + 1 : Nat) : Int) := by rw [show (i : Int) + 1 = ((i + 1 : Nat) : Int) by omega, byteV, UInt8.toNat_ofNat', Nat.mod_eq_of_lt (by omega)]
    refine wpP_G ?_
    simp -implicitDefEqProofs only [Wa,Wb,Wc,Wd,We,Wf,Wg,Wh,Wi,Wj,Wk,Wl,Wm,Wn,Zo,Zp,evalT,Nat.reduceLT,Nat.reduceEqDiff,if_true,if_false,reduceIte,Ys,ofVal,ofCell,argT,resT,setT,Y0,Int.reduceEq,Int.reduceLT,Int.reduceLE,Int.reduceNeg,mb,Nat.reduceBEq,tys,stb,Va,storeList,Nat.reduceAdd,Nat.reduceLeDiff,tyj,vBin_xor,vBin_or,vBin_shl,vBin_shr,t35',w1]
    exact ⟨c - (i + 1), by omega, i + 1, acc ++ [f], p', fv', yp', ⟨h'.ad, h'.t7, h'.t8, h'.t9, h'.t34, rfl, h'.le, h'.len, h'.st, h'.tk, h'.row, h'.box, h'.rd, h'.ho⟩, rfl, by omega⟩
  · have c1 : ¬ (i : Int) < (c : Int) := by omega
    simp -implicitDefEqProofs only [lp75,inB,inL,tailC,st75,headC,dropC,bodyOf,Tryd.f75,Option.getD_some,Wa,Wb,Wc,Wd,We,Wf,Wg,Wh,Wi,Wj,Wk,Wl,Wm,Wn,Zo,Zp,evalT,Nat.reduceLT,Nat.reduceEqDiff,if_true,if_false,reduceIte,Ys,ofVal,ofCell,argT,resT,setT,Y0,Int.reduceEq,Int.reduceLT,Int.reduceLE,Int.reduceNeg,mb,Nat.reduceBEq,tys,stb,Va,storeList,Nat.reduceAdd,Nat.reduceLeDiff,tyj,vBin_xor,vBin_or,vBin_shl,vBin_shr,t34,t35,c1]
    refine wpP_seq (wpP_cond (b := false) rfl ?_)
    simp only [Bool.false_eq_true, if_false]
    refine wpP_G ?_
    simp -implicitDefEqProofs only [Wa,Wb,Wc,Wd,We,Wf,Wg,Wh,Wi,Wj,Wk,Wl,Wm,Wn,Zo,Zp,evalT,Nat.reduceLT,Nat.reduceEqDiff,if_true,if_false,reduceIte,Ys,ofVal,ofCell,argT,resT,setT,Y0,Int.reduceEq,Int.reduceLT,Int.reduceLE,Int.reduceNeg,mb,Nat.reduceBEq,tys,stb]
    have hi := h.le
    have : i = c := by omega
    subst this
    exact hQ _ _ fv yp acc p ⟨h.ad, h.t7, h.t8, h.t9, h.t34, h.t35, h.le, h.len, h.st, h.tk, h.row, h.box, h.rd, h.ho⟩
theorem finR_map (k : Int) (sum : Nat) (body : List UInt8) (x : Option (List (List UInt8) × List UInt8)) : finR k sum body (x.map fun x => ([] ++ x.1, x.2)) = finR k sum body x := by
  cases x <;> rfl
theorem g9 {yb yp : V} {body left : List UInt8} {sum : Nat} (htk : TK tz ts) (hT : Ad L T) (hs : St L H k .nilsl) (t7 : T 7 = yb) (t8 : T 8 = .int .u32 sum) (t9 : T 9 = .ptr (L.length + 4) 0) (hy : Rd L yb body) (hl : body.length ≤ 2 ^ 38) (hb : H[L.length + 4]? = some (.cells [yp] 123)) (hyp : Rd L yp left) (hll : left.length ≤ 2 ^ 38)
    (ho : oneR t = if left.length < 1 then none else finR k sum body (fieldsR (left.getD 0 0).toNat (left.drop 1))) : One L tz t (.seq (st75 9) (.seq (st75 10) (dropC 11 (bodyOf Tryd.f75)))) T ⟨H, ts⟩ := by
  obtain ⟨t2, t3, t4⟩ := id hT
  have hbl := B.lt_get hb
  have e : st75 9 = .seq (headC (st75 9)) (.block 0 (.loop lp75)) := by kernel_rfl
  refine wpP_seq ?_
  rw [e]
  by_cases c0 : left.length < 1
  · rw [if_pos c0] at ho
    have hp := takepan_st (ts := ts) (n := 1) hs.keep hb hyp (by omega)
    simp -implicitDefEqProofs only [st75,headC,dropC,bodyOf,Tryd.f75,Option.getD_some]
    refine wpP_seq (wpP_rpan 0 _ _ rfl rfl rfl ?_)
    simp -implicitDefEqProofs only [Wa,Wb,Wc,Wd,We,Wf,Wg,Wh,Wi,Wj,Wk,Wl,Wm,Wn,Zo,Zp,evalT,Nat.reduceLT,Nat.reduceEqDiff,if_true,if_false,reduceIte,Ys,ofVal,ofCell,argT,resT,setT,Y0,Int.reduceEq,Int.reduceLT,Int.reduceLE,Int.reduceNeg,mb,Nat.reduceBEq,tys,stb,Va,storeList,Nat.reduceAdd,Nat.reduceLeDiff,tyj,vBin_xor,vBin_or,vBin_shl,vBin_shr,List.take_zero]
    exact panc (cv := .ptr (L.length + 4) 0) (nv := .int .i64 1) (congrArg some t9) rfl hp (pan_vals htk ho hs hT)
  · rw [if_neg c0] at ho
    obtain ⟨y1, y2, hC1, r1, r2⟩ := take_st (ts := ts) (n := 1) hs.keep (by omega) hb hyp (by omega)
    have hs2 := hs.set (c := L.length + 4) (by omega) (.cells [y2] 123)
    obtain ⟨pp, hp, hldp⟩ := (hs2.keep.rd r1).idx (i := 0) (by rw [List.length_take]; omega)
    have i1 : ((1 : Nat) : Int) = 1 := rfl
    have i0 : ((0 : Nat) : Int) = 0 := rfl
    rw [i1] at hC1
    rw [i0] at hp
    have hb2 : (H.set (L.length + 4) (.cells [y2] 123))[L.length + 4]? = some (.cells [y2] 123) := List.getElem?_set_self hbl
    have hx : (left.take 1)[0]'(by rw [List.length_take]; omega) = left.getD 0 0 := by
      have h0 : 0 < left.length := by omega
      rw [List.getElem_take, List.getD, List.getElem?_eq_getElem h0]; rfl
    rw [hx] at hldp
    have hc := (left.getD 0 0).toNat_lt
    generalize (left.getD 0 0).toNat = c at ho hldp hc
    simp -implicitDefEqProofs only [st75,headC,dropC,bodyOf,Tryd.f75,Option.getD_some]
    refine wpP_seqG ?_
    simp -implicitDefEqProofs only [Wa,Wb,Wc,Wd,We,Wf,Wg,Wh,Wi,Wj,Wk,Wl,Wm,Wn,Zo,Zp,evalT,Nat.reduceLT,Nat.reduceEqDiff,if_true,if_false,reduceIte,Ys,ofVal,ofCell,argT,resT,setT,Y0,Int.reduceEq,Int.reduceLT,Int.reduceLE,Int.reduceNeg,mb,Nat.reduceBEq,tys,stb,Va,storeList,Nat.reduceAdd,Nat.reduceLeDiff,tyj,vBin_xor,vBin_or,vBin_shl,vBin_shr,t9,hC1,hp,hldp]
    refine wpP_block (lp (k := k) (sum := sum) (body := body) (c := c) (yb := yb) (by omega) ?_ c _ _ _ ⟨rfl, 0, [], left.drop 1, .nilsl, y2, ⟨⟨t2, t3, t4⟩, t7, t8, t9, rfl, rfl, Nat.zero_le _, rfl, hs2, htk, RowN.nil _ _ _, hb2, r2, ?_⟩, rfl, by rw [List.length_drop]; omega⟩)
    · intro T' σ' fv' yp' acc' p' h'
      have ho' := h'.ho
      rw [Nat.sub_self, fieldsR] at ho'
      simp only [Option.map_some, List.append_nil, finR] at ho'
      have hlen := h'.len
      exact s10 (r := ⟨k, acc'⟩) (sum := sum) (left := p') h'.tk h'.ad h'.st (RowT.fld h'.row.1) (by rw [hlen]; omega) h'.t7 h'.t8 h'.t9 hy hl h'.box h'.rd ho'
    · rw [Nat.sub_zero, finR_map]
      exact ho
end
end Go.Proofs.YtncohjljeoknkaaDoor.D
namespace Go.Proofs.YtncohjljeoknkaaDoor.D
open Go.Ab
set_option maxHeartbeats 8000000
set_option maxRecDepth 100000
set_option linter.unusedSimpArgs false
set_option linter.unusedVariables false
def R9 (sum : Nat) (body : List UInt8) : Option (Rec × Nat) := if body.length < 1 then none else if (body.drop 1).length < 1 then none else finR ((body.getD 0 0).toNat : Int) sum body (fieldsR ((body.drop 1).getD 0 0).toNat ((body.drop 1).drop 1))
def R7 (body r : List UInt8) : Option (Rec × Nat) := if r.length < 4 then none else R9 (numF (r.take 4)) body
def R4 (n : Nat) (r : List UInt8) : Option (Rec × Nat) := if r.length < n then none else R7 (r.take n) (r.drop n)
theorem oneR_eq (t : List UInt8) : oneR t = if t.length < 4 then none else R4 (numF (t.take 4)) (t.drop 4) := by
  unfold oneR R4 R7 R9
  by_cases h1 : t.length < 4
  · rw [if_pos h1, if_pos h1]
  rw [if_neg h1, if_neg h1]
  generalize numF (t.take 4) = n
  generalize t.drop 4 = r
  by_cases h2 : r.length < n
  · rw [if_pos h2, if_pos h2]
  rw [if_neg h2, if_neg h2]
  by_cases h3 : (r.drop n).length < 4
  · rw [if_pos h3, if_pos h3]
  rw [if_neg h3, if_neg h3]
  have hn : n = (r.take n).length := by rw [List.length_take]; omega
  generalize (r.drop n).take 4 = s
  have hn2 : n + 8 = (r.take n).length + 8 := by omega
  rw [hn2]
  clear hn hn2
  generalize r.take n = p
  unfold payR
  by_cases h4 : p.length < 2
  · rw [if_pos h4]
    by_cases h5 : p.length < 1
    · rw [if_pos h5]
    · rw [if_neg h5, if_pos (by rw [List.length_drop]; omega)]
  · rw [if_neg h4, if_neg (by omega), if_neg (by rw [List.length_drop]; omega)]
    have e1 : (p.drop 1).getD 0 0 = p.getD 1 0 := by simp [List.getD]
    have e2 : (p.drop 1).drop 1 = p.drop 2 := by simp
    rw [e1, e2]
    cases fieldsR (p.getD 1 0).toNat (p.drop 2) with
    | none => rfl
    | some x =>
      obtain ⟨fs, l⟩ := x
      cases l with
      | nil => simp [finR]
      | cons a l => simp [finR]
section
variable {L H : List AObj} {tz ts : List Nat} {t : List UInt8} {T : Tm} {k : Int} {fv : V}
theorem St.kind (hs : St L H k fv) (k' : Int) (fv' : V) : St L (H.set L.length (.cells [.int .i64 k', fv'] 55)) k' fv' :=
  ⟨hs.keep.setge (Nat.le_refl _) _, List.getElem?_set_self (B.lt_get hs.b0), by rw [List.getElem?_set_ne (by omega)]; exact hs.b1, by rw [List.getElem?_set_ne (by omega)]; exact hs.b2⟩
noncomputable def kk9 : Code := .seq (st75 9) (.seq (st75 10) (dropC 11 (bodyOf Tryd.f75)))
theorem qq8 {yb yp : V} {body : List UInt8} {sum : Nat} (htk : TK tz ts) (hT : Ad L T) (hs : St L H 0 .nilsl) (t7 : T 7 = yb) (t8 : T 8 = .int .u32 sum) (t9 : T 9 = .ptr (L.length + 4) 0) (hy : Rd L yb body) (hl : body.length ≤ 2 ^ 38) (hb : H[L.length + 4]? = some (.cells [yp] 123)) (hyp : Rd L yp body)
    (ho : oneR t = R9 sum body) : One L tz t (.seq (st75 8) kk9) T ⟨H, ts⟩ := by
  obtain ⟨t2, t3, t4⟩ := id hT
  have hbl := B.lt_get hb
  unfold R9 at ho
  by_cases c0 : body.length < 1
  · rw [if_pos c0] at ho
    have hp := takepan_st (ts := ts) (n := 1) hs.keep hb hyp (by omega)
    refine wpP_seq ?_
    simp -implicitDefEqProofs only [st75,headC,dropC,bodyOf,Tryd.f75,Option.getD_some]
    refine wpP_rpan 0 _ _ rfl rfl rfl ?_
    simp -implicitDefEqProofs only [Wa,Wb,Wc,Wd,We,Wf,Wg,Wh,Wi,Wj,Wk,Wl,Wm,Wn,Zo,Zp,evalT,Nat.reduceLT,Nat.reduceEqDiff,if_true,if_false,reduceIte,Ys,ofVal,ofCell,argT,resT,setT,Y0,Int.reduceEq,Int.reduceLT,Int.reduceLE,Int.reduceNeg,mb,Nat.reduceBEq,tys,stb,Va,storeList,Nat.reduceAdd,Nat.reduceLeDiff,tyj,vBin_xor,vBin_or,vBin_shl,vBin_shr,List.take_zero]
    exact panc (cv := .ptr (L.length + 4) 0) (nv := .int .i64 1) (congrArg some t9) rfl hp (pan_vals htk ho hs hT)
  · rw [if_neg c0] at ho
    obtain ⟨y1, y2, hC1, r1, r2⟩ := take_st (ts := ts) (n := 1) hs.keep (by omega) hb hyp (by omega)
    have hs2 := hs.set (c := L.length + 4) (by omega) (.cells [y2] 123)
    obtain ⟨pp, hp, hldp⟩ := (hs2.keep.rd r1).idx (i := 0) (by rw [List.length_take]; omega)
    have i1 : ((1 : Nat) : Int) = 1 := rfl
    have i0 : ((0 : Nat) : Int) = 0 := rfl
    rw [i1] at hC1
    rw [i0] at hp
    have hb2 : (H.set (L.length + 4) (.cells [y2] 123))[L.length + 4]? = some (.cells [y2] 123) := List.getElem?_set_self hbl
    have hx : (body.take 1)[0]'(by rw [List.length_take]; omega) = body.getD 0 0 := by
      have h0 : 0 < body.length := by omega
      rw [List.getElem_take, List.getD, List.getElem?_eq_getElem h0]; rfl
    rw [hx] at hldp
    have hc := (body.getD 0 0).toNat_lt
    have w1 : IntKind.i64.wrap ((body.getD 0 0).toNat : Int) = ((body.getD 0 0).toNat : Int) := wrap_i64_of (by omega)
    have hg := hs2.b0
    have hl0 := B.lt_get hg
    refine wpP_seqG ?_
    simp -implicitDefEqProofs only [st75,headC,dropC,bodyOf,Tryd.f75,Option.getD_some,Wa,Wb,Wc,Wd,We,Wf,Wg,Wh,Wi,Wj,Wk,Wl,Wm,Wn,Zo,Zp,evalT,Nat.reduceLT,Nat.reduceEqDiff,if_true,if_false,reduceIte,Ys,ofVal,ofCell,argT,resT,setT,Y0,Int.reduceEq,Int.reduceLT,Int.reduceLE,Int.reduceNeg,mb,Nat.reduceBEq,tys,stb,Va,storeList,Nat.reduceAdd,Nat.reduceLeDiff,tyj,vBin_xor,vBin_or,vBin_shl,vBin_shr,t2,t9,hC1,hp,hldp,w1,hg]
    refine ⟨rfl, g9 (k := ((body.getD 0 0).toNat : Int)) (sum := sum) (body := body) (left := body.drop 1) htk ⟨t2, t3, t4⟩ (hs2.kind _ _) t7 t8 t9 hy hl ?_ r2 (by rw [List.length_drop]; omega) ho⟩
    rw [List.getElem?_set_ne (by omega)]; exact hb2
theorem z123 : zeroV env 123 = some .nilsl := by kernel_rfl
noncomputable def kk8 : Code := .seq (st75 8) kk9
theorem qq7 {yb : V} {body : List UInt8} {sum : Nat} (htk : TK tz ts) (hT : Ad L T) (hs : St L H 0 .nilsl) (hH : H.length = L.length + 4) (t7 : T 7 = yb) (t8 : T 8 = .int .u32 sum) (hy : Rd L yb body) (hl : body.length ≤ 2 ^ 38)
    (ho : oneR t = R9 sum body) : One L tz t (.seq (st75 7) kk8) T ⟨H, ts⟩ := by
  obtain ⟨t2, t3, t4⟩ := id hT
  have hlast : ∀ o : AObj, (H ++ [o])[L.length + 4]? = some o := fun o => by rw [← hH]; simp
  have hset : ∀ o o' : AObj, (H ++ [o]).set (L.length + 4) o' = H ++ [o'] := fun o o' => by rw [← hH]; simp
  refine wpP_seqG ?_
  simp -implicitDefEqProofs only [st75,headC,dropC,bodyOf,Tryd.f75,Option.getD_some,Wa,Wb,Wc,Wd,We,Wf,Wg,Wh,Wi,Wj,Wk,Wl,Wm,Wn,Zo,Zp,evalT,Nat.reduceLT,Nat.reduceEqDiff,if_true,if_false,reduceIte,Ys,ofVal,ofCell,argT,resT,setT,Y0,Int.reduceEq,Int.reduceLT,Int.reduceLE,Int.reduceNeg,mb,Nat.reduceBEq,tys,stb,Va,storeList,Nat.reduceAdd,Nat.reduceLeDiff,tyj,vBin_xor,vBin_or,vBin_shl,vBin_shr,t2,t7,z123,hH,hlast,hset,hy.cells,hy.isCell]
  exact qq8 (yp := yb) htk ⟨t2, t3, t4⟩ (hs.trans (Keep.app _ _)) t7 t8 rfl hy hl (hlast _) hy ho
noncomputable def kk7 : Code := .seq (st75 7) kk8
theorem qq6 {yb yr : V} {body r : List UInt8} (htk : TK tz ts) (hT : Ad L T) (hs : St L H 0 .nilsl) (hH : H.length = L.length + 4) (t5 : T 5 = .ptr (L.length + 3) 0) (t7 : T 7 = yb) (hy : Rd L yb body) (hl : body.length ≤ 2 ^ 38) (hb : H[L.length + 3]? = some (.cells [yr] 123)) (hyr : Rd L yr r)
    (ho : oneR t = R7 body r) : One L tz t (.seq (st75 6) kk7) T ⟨H, ts⟩ := by
  obtain ⟨t2, t3, t4⟩ := id hT
  unfold R7 at ho
  by_cases c0 : r.length < 4
  · rw [if_pos c0] at ho
    have hp := takepan_st (ts := ts) (n := 4) hs.keep hb hyr (by omega)
    refine wpP_seq ?_
    simp -implicitDefEqProofs only [st75,headC,dropC,bodyOf,Tryd.f75,Option.getD_some]
    refine wpP_rpan 0 _ _ rfl rfl rfl ?_
    simp -implicitDefEqProofs only [Wa,Wb,Wc,Wd,We,Wf,Wg,Wh,Wi,Wj,Wk,Wl,Wm,Wn,Zo,Zp,evalT,Nat.reduceLT,Nat.reduceEqDiff,if_true,if_false,reduceIte,Ys,ofVal,ofCell,argT,resT,setT,Y0,Int.reduceEq,Int.reduceLT,Int.reduceLE,Int.reduceNeg,mb,Nat.reduceBEq,tys,stb,Va,storeList,Nat.reduceAdd,Nat.reduceLeDiff,tyj,vBin_xor,vBin_or,vBin_shl,vBin_shr,List.take_zero,List.take_succ_cons]
    exact panc (cv := .ptr (L.length + 3) 0) (nv := .int .i64 4) (congrArg some t5) rfl hp (pan_vals htk ho hs ⟨t2, t3, t4⟩)
  · rw [if_neg c0] at ho
    obtain ⟨y1, y2, hC1, r1, r2⟩ := take_st (ts := ts) (n := 4) hs.keep (by omega) hb hyr (by omega)
    have hs2 := hs.set (c := L.length + 3) (by omega) (.cells [y2] 123)
    have hN := number_call (ts := ts) (hs2.keep.rd r1) (by rw [List.length_take]; omega)
    have i4 : ((4 : Nat) : Int) = 4 := rfl
    rw [i4] at hC1
    refine wpP_seqG ?_
    simp -implicitDefEqProofs only [st75,headC,dropC,bodyOf,Tryd.f75,Option.getD_some,Wa,Wb,Wc,Wd,We,Wf,Wg,Wh,Wi,Wj,Wk,Wl,Wm,Wn,Zo,Zp,evalT,Nat.reduceLT,Nat.reduceEqDiff,if_true,if_false,reduceIte,Ys,ofVal,ofCell,argT,resT,setT,Y0,Int.reduceEq,Int.reduceLT,Int.reduceLE,Int.reduceNeg,mb,Nat.reduceBEq,tys,stb,Va,storeList,Nat.reduceAdd,Nat.reduceLeDiff,tyj,vBin_xor,vBin_or,vBin_shl,vBin_shr,t2,t5,hC1,hN]
    exact qq7 (yb := yb) (body := body) (sum := numF (r.take 4)) htk ⟨t2, t3, t4⟩ hs2 (by rw [List.length_set]; exact hH) t7 rfl hy hl ho
noncomputable def kk6 : Code := .seq (st75 6) kk7
theorem qq5 {yr : V} {r : List UInt8} {n : Nat} (htk : TK tz ts) (hT : Ad L T) (hs : St L H 0 .nilsl) (hH : H.length = L.length + 4) (t5 : T 5 = .ptr (L.length + 3) 0) (t6 : T 6 = .int .u32 n) (hn : n ≤ r.length) (hl : r.length ≤ 2 ^ 38) (hb : H[L.length + 3]? = some (.cells [yr] 123)) (hyr : Rd L yr r)
    (ho : oneR t = R4 n r) : One L tz t (.seq (st75 5) kk6) T ⟨H, ts⟩ := by
  obtain ⟨t2, t3, t4⟩ := id hT
  unfold R4 at ho
  rw [if_neg (by omega)] at ho
  have hbl := B.lt_get hb
  obtain ⟨y1, y2, hC1, r1, r2⟩ := take_st (ts := ts) (n := n) hs.keep (by omega) hb hyr hn
  have hs2 := hs.set (c := L.length + 3) (by omega) (.cells [y2] 123)
  have w1 : IntKind.i64.wrap (n : Int) = (n : Int) := wrap_i64_of (by omega)
  refine wpP_seqG ?_
  simp -implicitDefEqProofs only [st75,headC,dropC,bodyOf,Tryd.f75,Option.getD_some,Wa,Wb,Wc,Wd,We,Wf,Wg,Wh,Wi,Wj,Wk,Wl,Wm,Wn,Zo,Zp,evalT,Nat.reduceLT,Nat.reduceEqDiff,if_true,if_false,reduceIte,Ys,ofVal,ofCell,argT,resT,setT,Y0,Int.reduceEq,Int.reduceLT,Int.reduceLE,Int.reduceNeg,mb,Nat.reduceBEq,tys,stb,Va,storeList,Nat.reduceAdd,Nat.reduceLeDiff,tyj,vBin_xor,vBin_or,vBin_shl,vBin_shr,t2,t5,t6,w1,hC1]
  exact qq6 (yb := y1) (yr := y2) htk ⟨t2, t3, t4⟩ hs2 (by rw [List.length_set]; exact hH) t5 rfl r1 (by rw [List.length_take]; omega) (List.getElem?_set_self hbl) r2 ho
noncomputable def kk5 : Code := .seq (st75 5) kk6
theorem qq4 {yr : V} {r : List UInt8} {n : Nat} (htk : TK tz ts) (hT : Ad L T) (hs : St L H 0 .nilsl) (hH : H.length = L.length + 4) (t5 : T 5 = .ptr (L.length + 3) 0) (t6 : T 6 = .int .u32 n) (hn : n < 2 ^ 32) (hl : r.length ≤ 2 ^ 38) (hb : H[L.length + 3]? = some (.cells [yr] 123)) (hyr : Rd L yr r)
    (ho : oneR t = R4 n r) : One L tz t (.seq (st75 4) kk5) T ⟨H, ts⟩ := by
  obtain ⟨t2, t3, t4⟩ := id hT
  have w1 : IntKind.u64.wrap (n : Int) = (n : Int) := wrap_u64 (by omega) (by omega)
  have w2 : IntKind.u64.wrap (r.length : Int) = (r.length : Int) := wrap_u64 (by omega) (by omega)
  have hlen := hyr.lenT 5
  have g0 := hs.b0
  have g1 := hs.b1
  have g2 := hs.b2
  refine wpP_seqG ?_
  by_cases c0 : r.length < n
  · have c1 : (r.length : Int) < (n : Int) := by omega
    have ho' : oneR t = none := by rw [ho]; unfold R4; rw [if_pos c0]
    simp -implicitDefEqProofs only [st75,headC,dropC,bodyOf,Tryd.f75,Option.getD_some,Wa,Wb,Wc,Wd,We,Wf,Wg,Wh,Wi,Wj,Wk,Wl,Wm,Wn,Zo,Zp,evalT,Nat.reduceLT,Nat.reduceEqDiff,if_true,if_false,reduceIte,Ys,ofVal,ofCell,argT,resT,setT,Y0,Int.reduceEq,Int.reduceLT,Int.reduceLE,Int.reduceNeg,mb,Nat.reduceBEq,tys,stb,Va,storeList,Nat.reduceAdd,Nat.reduceLeDiff,tyj,vBin_xor,vBin_or,vBin_shl,vBin_shr,t2,t3,t4,t5,t6,w1,w2,hb,hlen,c1,l55 g0,set_same g0,set_same g1,set_same g2,g0,g1,g2]
    refine ⟨rfl, rfl, rfl, ⟨Nat.le_refl _, rfl⟩, ?_⟩
    show E75 L tz t _ (D75 L) ⟨H.set (L.length + 2) (.cells [.bool false] 4), ts⟩
    rw [set_same g2]
    exact bad75 htk ⟨t2, t3, t4⟩ ho' hs.keep g0 g1 g2
  · have c1 : ¬ (r.length : Int) < (n : Int) := by omega
    simp -implicitDefEqProofs only [st75,headC,dropC,bodyOf,Tryd.f75,Option.getD_some,Wa,Wb,Wc,Wd,We,Wf,Wg,Wh,Wi,Wj,Wk,Wl,Wm,Wn,Zo,Zp,evalT,Nat.reduceLT,Nat.reduceEqDiff,if_true,if_false,reduceIte,Ys,ofVal,ofCell,argT,resT,setT,Y0,Int.reduceEq,Int.reduceLT,Int.reduceLE,Int.reduceNeg,mb,Nat.reduceBEq,tys,stb,Va,storeList,Nat.reduceAdd,Nat.reduceLeDiff,tyj,vBin_xor,vBin_or,vBin_shl,vBin_shr,t2,t3,t4,t5,t6,w1,w2,hb,hlen,c1]
    exact qq5 htk ⟨t2, t3, t4⟩ hs hH t5 t6 (by omega) hl hb hyr ho
noncomputable def kk4 : Code := .seq (st75 4) kk5
theorem qq3 {y : V} (htk : TK tz ts) (hT : Ad L T) (hs : St L H 0 .nilsl) (hH : H.length = L.length + 4) (t5 : T 5 = .ptr (L.length + 3) 0) (hl : t.length ≤ 2 ^ 38) (hb : H[L.length + 3]? = some (.cells [y] 123)) (hy : Rd L y t) : One L tz t (.seq (st75 3) kk4) T ⟨H, ts⟩ := by
  obtain ⟨t2, t3, t4⟩ := id hT
  have ho := oneR_eq t
  have hbl := B.lt_get hb
  by_cases c0 : t.length < 4
  · rw [if_pos c0] at ho
    have hp := takepan_st (ts := ts) (n := 4) hs.keep hb hy (by omega)
    refine wpP_seq ?_
    simp -implicitDefEqProofs only [st75,headC,dropC,bodyOf,Tryd.f75,Option.getD_some]
    refine wpP_rpan 0 _ _ rfl rfl rfl ?_
    simp -implicitDefEqProofs only [Wa,Wb,Wc,Wd,We,Wf,Wg,Wh,Wi,Wj,Wk,Wl,Wm,Wn,Zo,Zp,evalT,Nat.reduceLT,Nat.reduceEqDiff,if_true,if_false,reduceIte,Ys,ofVal,ofCell,argT,resT,setT,Y0,Int.reduceEq,Int.reduceLT,Int.reduceLE,Int.reduceNeg,mb,Nat.reduceBEq,tys,stb,Va,storeList,Nat.reduceAdd,Nat.reduceLeDiff,tyj,vBin_xor,vBin_or,vBin_shl,vBin_shr,List.take_zero,List.take_succ_cons]
    exact panc (cv := .ptr (L.length + 3) 0) (nv := .int .i64 4) (congrArg some t5) rfl hp (pan_vals htk ho hs ⟨t2, t3, t4⟩)
  · rw [if_neg c0] at ho
    obtain ⟨y1, y2, hC1, r1, r2⟩ := take_st (ts := ts) (n := 4) hs.keep (by omega) hb hy (by omega)
    have hs2 := hs.set (c := L.length + 3) (by omega) (.cells [y2] 123)
    have hN := number_call (ts := ts) (hs2.keep.rd r1) (by rw [List.length_take]; omega)
    have hlt := numF_lt (t.take 4)
    have hle4 : (t.take 4).length = 4 := by rw [List.length_take]; omega
    rw [hle4] at hlt
    have i4 : ((4 : Nat) : Int) = 4 := rfl
    rw [i4] at hC1
    refine wpP_seqG ?_
    simp -implicitDefEqProofs only [st75,headC,dropC,bodyOf,Tryd.f75,Option.getD_some,Wa,Wb,Wc,Wd,We,Wf,Wg,Wh,Wi,Wj,Wk,Wl,Wm,Wn,Zo,Zp,evalT,Nat.reduceLT,Nat.reduceEqDiff,if_true,if_false,reduceIte,Ys,ofVal,ofCell,argT,resT,setT,Y0,Int.reduceEq,Int.reduceLT,Int.reduceLE,Int.reduceNeg,mb,Nat.reduceBEq,tys,stb,Va,storeList,Nat.reduceAdd,Nat.reduceLeDiff,tyj,vBin_xor,vBin_or,vBin_shl,vBin_shr,t2,t5,hC1,hN]
    exact qq4 (yr := y2) (n := numF (t.take 4)) htk ⟨t2, t3, t4⟩ hs2 (by rw [List.length_set]; exact hH) t5 rfl (by omega) (by rw [List.length_drop]; omega) (List.getElem?_set_self hbl) r2 ho
noncomputable def kk3 : Code := .seq (st75 3) kk4
end
theorem wpP_defer2 {E : Env} {fn : FuncId} {n : Nat} {X : V → List V → List DE → S → Prop} {id : Nat} {g : FuncId} {d : Nat} {cs : Array Operand} {caps : List V} {ty ty2 : TypeId} {ps ps2 : String} {af af2 : Array Edge} {T : Tm} {D : List DE} {σ : S} {Q : Post} (hc : listO (evalT E T) cs.toList = some caps) (hd : d < n)
    (h : Q.norm (upd T d (.func g [] caps)) (.call g caps :: D) σ) : wpP E fn none n X (.region id #[⟨some d, .makeFunc (.func g) #[] cs, ty, ps, af, none⟩, ⟨none, .defer ⟨.value (.tmp d), #[], #[]⟩, ty2, ps2, af2, none⟩] false) T D σ Q := fun tmps hr => by
  refine ⟨⟨.normal, tmps.set d (.func g [] caps), .call g caps :: D, σ⟩, ?_, _, hr.upd hd _, h⟩
  have h1 : opV E (ev E) (E.mutb fn id) tmps σ (.makeFunc (.func g) #[] cs) = some (.func g [] caps, σ) := by
    rw [← opT_opV E hr, YP, hc]; rfl
  have hl : d < tmps.length := by rw [hr.1]; exact hd
  have h2 : evalO E (tmps.set d (.func g [] caps)) (.tmp d) = some (.func g [] caps) := by simp [evalO, hl]
  have h3 : ∀ t : List V, opV E (ev E) (E.mutb fn id) t σ (.defer ⟨.value (.tmp d), #[], #[]⟩) = none := fun t => by simp [opV, apure, aread, astate]
  simp [execC, XR.res, execX, Region.wanted, h1, h2, h3, opP, opD, listO, putT, List.range, List.range.loop]
theorem one_call {L : List AObj} {ts : List Nat} {y : V} {t : List UInt8} (hy : Rd L y t) (hl : t.length ≤ 2 ^ 38) : ∃ v σ', callFn env (ev env) 75 [y] ⟨L, ts⟩ = some (v, σ') ∧ OneK L ts t v σ' := by
  have key : ∃ v σ', ev env (.call 75 [y] ⟨L, ts⟩) = some ⟨.ret, [v], [], σ'⟩ ∧ OneK L ts t v σ' := by
    refine ev_rec (g := 85) (caps := caps75 L) at75 body75 (by simp [Tryd.f75]) (by simp [Tryd.f75]) ?_
    show wpP env 75 none 67 (X75 L ts t) (.seq (st75 0) (.seq (st75 1) (.seq (st75 2) kk3))) (argT [y]) [] ⟨L, ts⟩ (Q75 L ts t)
    have z55 : zeroV env 55 = some (.agg [.int .i64 0, .nilsl]) := by kernel_rfl
    have z3 : zeroV env 3 = some (.int .i64 0) := by kernel_rfl
    have z4 : zeroV env 4 = some (.bool false) := by kernel_rfl
    have l1 : ∀ o : AObj, (L ++ [o]).length = L.length + 1 := fun o => by simp
    have l2 : ∀ o p : AObj, (L ++ [o] ++ [p]).length = L.length + 2 := fun o p => by simp
    have l3 : ∀ o p q : AObj, (L ++ [o] ++ [p] ++ [q]).length = L.length + 3 := fun o p q => by simp
    refine wpP_seqG ?_
    simp -implicitDefEqProofs only [st75,headC,dropC,bodyOf,Tryd.f75,Option.getD_some,Wa,Wb,Wc,Wd,We,Wf,Wg,Wh,Wi,Wj,Wk,Wl,Wm,Wn,Zo,Zp,evalT,Nat.reduceLT,Nat.reduceEqDiff,if_true,if_false,reduceIte,Ys,ofVal,ofCell,argT,resT,setT,Y0,Int.reduceEq,Int.reduceLT,Int.reduceLE,Int.reduceNeg,mb,Nat.reduceBEq,tys,stb,Va,storeList,Nat.reduceAdd,Nat.reduceLeDiff,tyj,vBin_xor,vBin_or,vBin_shl,vBin_shr,z55,z3,z4,l1,l2]
    refine wpP_seq (wpP_defer2 (caps := caps75 L) rfl (by omega) ?_)
    have cb : (V.bool false).cells = [.bool false] := rfl
    have e0 : (L ++ [AObj.cells [V.int IntKind.i64 0, V.nilsl] 55] ++ [AObj.cells [V.int IntKind.i64 0] 3] ++ [AObj.cells [V.bool false] 4]) = L ++ [AObj.cells [V.int IntKind.i64 0, V.nilsl] 55, AObj.cells [V.int IntKind.i64 0] 3, AObj.cells [V.bool false] 4] := by simp
    rw [cb, e0]
    have hs : St L (L ++ [AObj.cells [V.int IntKind.i64 0, V.nilsl] 55, AObj.cells [V.int IntKind.i64 0] 3, AObj.cells [V.bool false] 4]) 0 .nilsl := ⟨Keep.app _ _, by simp, by simp, by simp⟩
    have hlen : (L ++ [AObj.cells [V.int IntKind.i64 0, V.nilsl] 55, AObj.cells [V.int IntKind.i64 0] 3, AObj.cells [V.bool false] 4]).length = L.length + 3 := by simp
    generalize (L ++ [AObj.cells [V.int IntKind.i64 0, V.nilsl] 55, AObj.cells [V.int IntKind.i64 0] 3, AObj.cells [V.bool false] 4]) = H at hs hlen
    have hlast : ∀ o : AObj, (H ++ [o])[L.length + 3]? = some o := fun o => by rw [← hlen]; simp
    have hset : ∀ o o' : AObj, (H ++ [o]).set (L.length + 3) o' = H ++ [o'] := fun o o' => by rw [← hlen]; simp
    refine wpP_seqG ?_
    simp -implicitDefEqProofs only [Wa,Wb,Wc,Wd,We,Wf,Wg,Wh,Wi,Wj,Wk,Wl,Wm,Wn,Zo,Zp,evalT,Nat.reduceLT,Nat.reduceEqDiff,if_true,if_false,reduceIte,Ys,ofVal,ofCell,argT,resT,setT,Y0,Int.reduceEq,Int.reduceLT,Int.reduceLE,Int.reduceNeg,mb,Nat.reduceBEq,tys,stb,Va,storeList,Nat.reduceAdd,Nat.reduceLeDiff,tyj,vBin_xor,vBin_or,vBin_shl,vBin_shr,z123,hlen,hlast,hset,hy.cells,hy.isCell]
    exact qq3 (y := y) (TK.refl ts) ⟨rfl, rfl, rfl⟩ (hs.trans (Keep.app _ _)) (by simp [hlen]) rfl hl (hlast _) hy
  obtain ⟨v, σ', h1, h2⟩ := key
  refine ⟨v, σ', ?_, h2⟩
  unfold callFn
  have e1 : env.hook 75 = none := rfl
  have e2 : env.pure 75 = false := rfl
  have e3 : env.frz 75 = false := rfl
  have e4 : env.hookS 75 = none := rfl
  simp only [e1, e2, e3, e4, h1, Bool.false_eq_true, if_false]
end Go.Proofs.YtncohjljeoknkaaDoor.D
namespace Go.Proofs.YtncohjljeoknkaaDoor.D
open Go.Ab
set_option maxHeartbeats 8000000
set_option maxRecDepth 100000
set_option linter.unusedSimpArgs false
set_option linter.unusedVariables false
theorem at37 : env.P.funcs[37]? = some Tryd.f37 := by kernel_rfl
theorem at61 : env.P.funcs[61]? = some Tryd.f61 := by kernel_rfl
theorem at74 : env.P.funcs[74]? = some Tryd.f74 := by kernel_rfl
theorem oneR_le {t : List UInt8} {r : Rec} {n : Nat} (h : oneR t = some (r, n)) : 8 ≤ n ∧ n ≤ t.length ∧ chkR r = 0 := by
  unfold oneR at h
  split at h
  · cases h
  split at h
  · cases h
  split at h
  · cases h
  rename_i h1 h2 h3
  simp only [List.length_drop] at h2 h3
  split at h
  · cases h
  · split at h
    · rename_i h4
      simp only [Option.some.injEq, Prod.mk.injEq] at h
      obtain ⟨rfl, rfl⟩ := h
      exact ⟨by omega, by omega, h4.2⟩
    · cases h
def readN : Nat → List UInt8 → List Rec × Nat
  | 0, _ => ([], 0)
  | f + 1, t => match oneR t with
    | none => ([], 0)
    | some (r, n) => (r :: (readN f (t.drop n)).1, n + (readN f (t.drop n)).2)
def RecC : List Rec → List V → Prop
  | [], cs => cs = []
  | r :: rs, cs => ∃ fv cs', cs = .int .i64 r.k :: fv :: cs' ∧ Fld fv r.fs ∧ RecC rs cs'
theorem RecC.snoc {rs : List Rec} {cs : List V} (h : RecC rs cs) {r : Rec} {fv : V} (hf : Fld fv r.fs) : RecC (rs ++ [r]) (cs ++ [.int .i64 r.k, fv]) := by
  induction rs generalizing cs with
  | nil => simp only [RecC] at h; subst h; exact ⟨fv, [], rfl, hf, rfl⟩
  | cons a rs ih =>
    obtain ⟨gv, cs', rfl, h1, h2⟩ := h
    exact ⟨gv, cs' ++ [.int .i64 r.k, fv], rfl, h1, ih h2⟩
theorem RecC.cell {rs : List Rec} {cs : List V} (h : RecC rs cs) : cs.all V.isCell = true ∧ cs.length = rs.length * 2 := by
  induction rs generalizing cs with
  | nil => simp only [RecC] at h; subst h; exact ⟨rfl, rfl⟩
  | cons a rs ih =>
    obtain ⟨gv, cs', rfl, h1, h2⟩ := h
    obtain ⟨a1, a2⟩ := ih h2
    refine ⟨?_, by simp [a2]; omega⟩
    simp only [List.all_cons, a1, h1.isCell, Bool.and_true]; rfl
def RowR (n0 : Nat) (ts : List Nat) (lv : V) (rs : List Rec) : Prop := ∃ cs, RowN n0 ts 2 lv rs.length cs ∧ RecC rs cs
theorem RowR.nil (n0 : Nat) (ts : List Nat) : RowR n0 ts .nilsl [] := ⟨[], RowN.nil _ _ _, rfl⟩
theorem RowR.cells {n0 : Nat} {ts : List Nat} {lv : V} {rs : List Rec} (h : RowR n0 ts lv rs) : lv.cells = [lv] ∧ lv.isCell = true := by
  obtain ⟨cs, h, _⟩ := h
  exact h.1.cells
theorem RowR.tk {n0 : Nat} {ts ts' : List Nat} {lv : V} {rs : List Rec} (hk : TK ts ts') (h : RowR n0 ts lv rs) : RowR n0 ts' lv rs := by
  obtain ⟨cs, ⟨h1, h2⟩, h3⟩ := h
  exact ⟨cs, ⟨hk.row h1, h2⟩, h3⟩
theorem e58 : elemS env 58 = some 55 := by kernel_rfl
theorem row58 (a fv : V) (ha : a.cells = [a]) (hf : fv.cells = [fv]) : rowO env 58 1 [(0, .agg [a, fv])] = some (.row [a, fv] 1 .full) := by
  have z : zeroV env 55 = some (.agg [.int .i64 0, .nilsl]) := by kernel_rfl
  unfold rowO
  simp [e58, s55, z, V.cells, vFill, ha, hf]
theorem app_rec {H : List AObj} {n0 : Nat} {ts : List Nat} {lv : V} {rs : List Rec} (h : RowR n0 ts lv rs) (hn0 : n0 ≤ ts.length) {r : Rec} {fv : V} (hf : Fld fv r.fs) (hl : rs.length ≤ 2 ^ 30) :
    ∃ v' ts', appO env false ⟨H, ts⟩ 58 58 lv (.row [.int .i64 r.k, fv] 1 .full) = some (v', ⟨H, ts'⟩) ∧ RowR n0 ts' v' (rs ++ [r]) ∧ ts.length ≤ ts'.length ∧ (∀ k, k < n0 → ts'[k]? = ts[k]?) := by
  obtain ⟨cs, h1, h2⟩ := h
  have hlim : (rs.length + 1) * 32 ≤ lim ∧ rs.length + 1 ≤ lim := by unfold lim; omega
  obtain ⟨v', ts', a1, a2, a3, a4, _⟩ := h1.append (E := env) (L := H) (y := .row [.int .i64 r.k, fv] 1 .full) (m := 1) (new := [.int .i64 r.k, fv]) (nb := 32) hn0 e58 s55 (by kernel_rfl) (by kernel_rfl) ⟨55, u58⟩ hlim rfl rfl rfl (by simp only [List.all_cons, List.all_nil, hf.isCell]; rfl)
  exact ⟨v', ts', a1, ⟨_, by rw [List.length_append]; exact a2, h2.snoc hf⟩, a3, a4⟩
def rngC : Code → Option (Code × Code)
  | .rangeFunc _ _ a b => some (a, b)
  | .block _ c => rngC c
  | .seq a b => (rngC a).or (rngC b)
  | .cond _ a b => (rngC a).or (rngC b)
  | .loop c => rngC c
  | .scope c => rngC c
  | _ => none
def asgR (c : Code) : Code := match rngC c with | some (a, _) => a | none => .skip
def bodR (c : Code) : Code := match rngC c with | some (_, b) => b | none => .skip
structure PR (L : List AObj) (tz : List Nat) (lo : AObj) (rs : List Rec) (used : Nat) (p : List UInt8) (H : List AObj) (ts : List Nat) : Prop where
  keep : Keep L H
  tk : TK tz ts
  b0 : ∃ lv, H[L.length]? = some (.cells [lv] 58) ∧ RowR tz.length ts lv rs
  b1 : H[L.length + 1]? = some (.cells [.int .i64 used] 3)
  b2 : ∃ yb, H[L.length + 2]? = some (.cells [yb] 26) ∧ Rd L yb p
  b3 : H[L.length + 3]? = some (.defd true)
  b4 : H[L.length + 4]? = some lo
theorem PR.trans {L : List AObj} {tz : List Nat} {lo : AObj} {rs : List Rec} {used : Nat} {p : List UInt8} {H H' : List AObj} {ts ts' : List Nat} (h : PR L tz lo rs used p H ts) (hk : Keep H H') (ht : TK ts ts') : PR L tz lo rs used p H' ts' := by
  obtain ⟨lv, c1, c2⟩ := h.b0
  obtain ⟨yb, c3, c4⟩ := h.b2
  exact ⟨h.keep.trans hk, h.tk.trans ht, ⟨lv, hk.get c1, c2.tk ht⟩, hk.get h.b1, ⟨yb, hk.get c3, c4⟩, hk.get h.b3, hk.get h.b4⟩
theorem round_read {L : List AObj} {tz : List Nat} {T : Tm} {tmps : List V} {lo : AObj} (hr : Rep 19 T tmps) (hlo : lo = .loop .ready none 37 tmps #[8, 9] (asgR (bodyOf Tryd.f37)) (bodR (bodyOf Tryd.f37)) (L.length + 3))
    (t2 : T 2 = .ptr L.length 0) (t3 : T 3 = .ptr (L.length + 1) 0) {rs : List Rec} {used n : Nat} {p : List UInt8} {H : List AObj} {ts : List Nat} (hP : PR L tz lo rs used p H ts) {r : Rec} {fv : V} (hf : Fld fv r.fs) (hl : rs.length ≤ 2 ^ 30) (hu : used + n ≤ 2 ^ 40) :
    ∃ σ', callV env (ev env) (.yld (L.length + 4)) [.int .i64 n, .agg [.int .i64 r.k, fv]] ⟨H, ts⟩ = some (.bool true, σ') ∧ PR L tz lo (rs ++ [r]) (used + n) p σ'.heap σ'.toks := by
  obtain ⟨hK, htk, ⟨lv, b0, hrow⟩, b1, ⟨yb, b2, hy⟩, b3, b4⟩ := hP
  have l4 := B.lt_get b4
  refine round_rule hlo b4 hr rfl (by simp) ?_
  intro lb hlb
  clear hlb hlo hr
  obtain ⟨v', ts', happ, hrow', a3, a4⟩ := app_rec (H := (H ++ [AObj.cells [.int .i64 r.k, fv] 55]).set (L.length + 4) lb) hrow htk.1 hf hl
  have q0 : ((H ++ [AObj.cells [.int .i64 r.k, fv] 55]).set (L.length + 4) lb)[L.length]? = some (.cells [lv] 58) := by
    rw [List.getElem?_set_ne (by omega), List.getElem?_append_left (by omega)]; exact b0
  have q5 : aload env ((H ++ [AObj.cells [.int .i64 r.k, fv] 55]).set (L.length + 4) lb) 55 (.ptr H.length 0) = some (.agg [.int .i64 r.k, fv]) := l55 (by rw [List.getElem?_set_ne (by omega)]; simp)
  have q4 : (H ++ [AObj.cells [.int .i64 r.k, fv] 55])[L.length + 4]? = some lo := by rw [List.getElem?_append_left (by omega)]; exact b4
  have qe : ∀ o : AObj, (H ++ [o])[H.length]? = some o := fun o => by simp
  have qs : ∀ o o' : AObj, (H ++ [o]).set H.length o' = H ++ [o'] := fun o o' => by simp
  have z55 : zeroV env 55 = some (.agg [.int .i64 0, .nilsl]) := by kernel_rfl
  have hr58 := row58 (.int .i64 r.k) fv rfl hf.cells
  have q1 : ∀ o : AObj, (((H ++ [AObj.cells [.int .i64 r.k, fv] 55]).set (L.length + 4) lb).set L.length o)[L.length + 1]? = some (.cells [.int .i64 used] 3) := fun o => by
    rw [List.getElem?_set_ne (by omega), List.getElem?_set_ne (by omega), List.getElem?_append_left (by omega)]; exact b1
  have w1 : IntKind.i64.wrap ((used : Int) + (n : Int)) = ((used + n : Nat) : Int) := by rw [B.wrap64 (by omega)]; omega
  have m37 : ∀ r, env.mutb 37 r = false := fun _ => rfl
  have hc := hrow'.cells
  refine G_start ?_
  simp only [asgR, bodR, rngC, bodyOf, Tryd.f37, Option.getD_some, Option.or]
  simp -implicitDefEqProofs only [Wa,Wb,Wc,Wd,We,Wf,Wg,Wh,Wi,Wj,Wk,Wl,Wm,Wn,Zo,Zp,evalT,Nat.reduceLT,Nat.reduceEqDiff,if_true,if_false,reduceIte,Ys,ofVal,ofCell,argT,resT,setT,Y0,Int.reduceEq,Int.reduceLT,Int.reduceLE,Int.reduceNeg,mb,Nat.reduceBEq,tys,stb,Va,storeList,Nat.reduceAdd,Nat.reduceLeDiff,tyj,vBin_xor,vBin_or,vBin_shl,vBin_shr,List.zip_cons_cons,List.zip_nil_right,t2,t3,z55,qe,qs,q4,q0,q5,opT_rowB,hr58,m37,happ,q1,w1,hc,hf.cells,hf.isCell]
  generalize AObj.cells [V.int IntKind.i64 r.k, fv] 55 = o
  have hk : Keep L (((((H ++ [o]).set (L.length + 4) lb).set L.length (.cells [v'] 58)).set (L.length + 1) (.cells [.int .i64 ((used + n : Nat) : Int)] 3)).set (L.length + 4) lo) :=
    (((((hK.trans (Keep.app H _)).setge (by omega) _).setge (Nat.le_refl _) _).setge (by omega) _).setge (by omega) _)
  refine ⟨rfl, rfl, ?_, hk, ⟨Nat.le_trans htk.1 a3, fun k hk => by rw [a4 k hk, htk.2 k hk]⟩, ⟨v', ?_, hrow'⟩, ?_, ⟨yb, ?_, hy⟩, ?_, ?_⟩
  · rw [List.getElem?_set_ne (by omega), List.getElem?_set_ne (by omega), List.getElem?_set_self (by simp; omega)]
  · rw [List.getElem?_set_ne (by omega), List.getElem?_set_ne (by omega), List.getElem?_set_self (by simp; omega)]
  · rw [List.getElem?_set_ne (by omega), List.getElem?_set_self (by simp; omega)]
  · rw [List.getElem?_set_ne (by omega), List.getElem?_set_ne (by omega), List.getElem?_set_ne (by omega), List.getElem?_set_ne (by omega), List.getElem?_append_left (by omega)]; exact b2
  · rw [List.getElem?_set_ne (by omega), List.getElem?_set_ne (by omega), List.getElem?_set_ne (by omega), List.getElem?_set_ne (by omega), List.getElem?_append_left (by omega)]; exact b3
  · rw [List.getElem?_set_self (by simp; omega)]
theorem callFn_ev {f : FuncId} {args : List V} {σ σ' : S} {v : V} (h : callFn env (ev env) f args σ = some (v, σ')) (hp : env.pure f = false := by rfl) (hk : env.hook f = none := by rfl) (hz : env.frz f = false := by rfl) (hs : env.hookS f = none := by rfl) : ev env (.call f args σ) = some ⟨.ret, [v], [], σ'⟩ := by
  unfold callFn at h
  simp only [hk, hp, hz, hs, Bool.false_eq_true, if_false] at h
  split at h
  · rename_i v0 σ0 he
    simp only [Option.some.injEq, Prod.mk.injEq] at h
    obtain ⟨rfl, rfl⟩ := h
    exact he
  · simp at h
theorem a26 (h : List AObj) (p : V) : aload env h 26 p = (loadCellsV h 1 p).bind (·[0]?) := aload_one g26
theorem records_call {L : List AObj} {tz : List Nat} {T0 : Tm} {tmps : List V} {lo : AObj} (hr : Rep 19 T0 tmps) (hlo : lo = .loop .ready none 37 tmps #[8, 9] (asgR (bodyOf Tryd.f37)) (bodR (bodyOf Tryd.f37)) (L.length + 3))
    (t2 : T0 2 = .ptr L.length 0) (t3 : T0 3 = .ptr (L.length + 1) 0) {t : List UInt8} {H : List AObj} {ts : List Nat} (hl : t.length ≤ 2 ^ 30) (hP : PR L tz lo [] 0 t H ts) :
    ∃ v σ', callFn env (ev env) 74 [.yld (L.length + 4), .ptr (L.length + 2) 0] ⟨H, ts⟩ = some (v, σ') ∧ ∃ p, PR L tz lo (readN t.length t).1 (readN t.length t).2 p σ'.heap σ'.toks := by
  refine callFn_any rfl rfl at74 rfl (by simp [Tryd.f74]) (by simp [Tryd.f74]) (G_start ?_)
  simp -implicitDefEqProofs only [Tryd.f74,Wa,Wb,Wc,Wd,We,Wf,Wg,Wh,Wi,Wj,Wk,Wl,Wm,Wn,Zo,Zp,evalT,Nat.reduceLT,Nat.reduceEqDiff,if_true,if_false,reduceIte,Ys,ofVal,ofCell,argT,resT,setT,Y0,Int.reduceEq,Int.reduceLT,Int.reduceLE,Int.reduceNeg,mb,Nat.reduceBEq,tys,stb,Va,storeList,Nat.reduceAdd,Nat.reduceLeDiff,tyj,vBin_xor,vBin_or,vBin_shl,vBin_shr]
  refine loop_rule (fun m T D σ => D = [] ∧ T 0 = .yld (L.length + 4) ∧ T 1 = .ptr (L.length + 2) 0 ∧ ∃ (rs : List Rec) (used : Nat) (p : List UInt8), PR L tz lo rs used p σ.heap σ.toks ∧ p.length ≤ m ∧ used + p.length ≤ 2 ^ 30 ∧ rs.length ≤ used ∧ (readN t.length t).1 = rs ++ (readN m p).1 ∧ (readN t.length t).2 = used + (readN m p).2) ?_ t.length _ _ _ ⟨rfl, rfl, rfl, [], 0, t, hP, Nat.le_refl _, by omega, Nat.le_refl _, rfl, by omega⟩
  rintro m T D σ ⟨rfl, ta, tb, rs, used, p, hP, hpm, hup, hru, e1, e2⟩
  obtain ⟨yb, c2, hy⟩ := hP.b2
  obtain ⟨v, ⟨H1, ts1⟩, hC, ⟨hK1, ht1⟩, hO⟩ := one_call (ts := σ.toks) (hP.keep.rd hy) (by omega)
  obtain ⟨H, ts⟩ := σ
  simp only at hP c2 hC hK1 ht1
  have hP1 := hP.trans hK1 ht1
  have qe : ∀ o : AObj, (H1 ++ [o])[H1.length]? = some o := fun o => by simp
  have qs : ∀ o o' : AObj, (H1 ++ [o]).set H1.length o' = H1 ++ [o'] := fun o o' => by simp
  have z55 : zeroV env 55 = some (.agg [.int .i64 0, .nilsl]) := by kernel_rfl
  refine G_start ?_
  cases ho : oneR p with
  | none =>
    rw [ho] at hO
    simp only at hO
    subst hO
    have hz : readN m p = ([], 0) := by
      cases m with
      | zero => rfl
      | succ m => simp only [readN, ho]
    rw [hz] at e1 e2
    simp -implicitDefEqProofs only [Wa,Wb,Wc,Wd,We,Wf,Wg,Wh,Wi,Wj,Wk,Wl,Wm,Wn,Zo,Zp,evalT,Nat.reduceLT,Nat.reduceEqDiff,if_true,if_false,reduceIte,Ys,ofVal,ofCell,argT,resT,setT,Y0,Int.reduceEq,Int.reduceLT,Int.reduceLE,Int.reduceNeg,mb,Nat.reduceBEq,tys,stb,Va,storeList,Nat.reduceAdd,Nat.reduceLeDiff,tyj,vBin_xor,vBin_or,vBin_shl,vBin_shr,ta,tb,a26,c2,hC,z55,qe,qs]
    refine ⟨rfl, p, ?_⟩
    rw [e1, e2, List.append_nil, Nat.add_zero]
    exact hP1.trans (Keep.app _ _) (TK.refl _)
  | some x =>
    obtain ⟨r, n⟩ := x
    rw [ho] at hO
    obtain ⟨fv, hf, rfl⟩ := hO
    obtain ⟨n1, n2, _⟩ := oneR_le ho
    obtain ⟨m, rfl⟩ : ∃ m', m = m' + 1 := ⟨m - 1, by omega⟩
    have hz : readN (m + 1) p = (r :: (readN m (p.drop n)).1, n + (readN m (p.drop n)).2) := by simp only [readN, ho]
    rw [hz] at e1 e2
    have hP2 := hP1.trans (Keep.app H1 [.cells [.int .i64 r.k, fv] 55]) (TK.refl _)
    obtain ⟨⟨H3, ts3⟩, hY, hP3⟩ := round_read hr hlo t2 t3 (n := n) hP2 hf (by omega) (by omega)
    simp only at hP3
    obtain ⟨yb3, c3, hy3⟩ := hP3.b2
    have q55 : aload env (H1 ++ [AObj.cells [.int .i64 r.k, fv] 55]) 55 (.ptr H1.length 0) = some (.agg [.int .i64 r.k, fv]) := l55 (by simp)
    obtain ⟨y5, hS, r5, _⟩ := (hP3.keep.rd hy3).cut (a := n) (b := p.length) (lo := some (.int .i64 n)) (hi := none) (by omega) (Nat.le_refl _) (.inl rfl) (.inr ⟨rfl, rfl⟩)
    rw [List.take_length] at r5
    simp -implicitDefEqProofs only [Wa,Wb,Wc,Wd,We,Wf,Wg,Wh,Wi,Wj,Wk,Wl,Wm,Wn,Zo,Zp,evalT,Nat.reduceLT,Nat.reduceEqDiff,if_true,if_false,reduceIte,Ys,ofVal,ofCell,argT,resT,setT,Y0,Int.reduceEq,Int.reduceLT,Int.reduceLE,Int.reduceNeg,mb,Nat.reduceBEq,tys,stb,Va,storeList,Nat.reduceAdd,Nat.reduceLeDiff,tyj,vBin_xor,vBin_or,vBin_shl,vBin_shr,ta,tb,a26,c2,hC,z55,qe,qs,hf.cells,hf.isCell,q55,hY,c3,opT_slice,optO_none,optO_some,hS,r5.cells,r5.isCell]
    obtain ⟨lv3, d0, d1⟩ := hP3.b0
    have l2 := B.lt_get c3
    rename_i hsub
    refine ⟨rfl, m, by omega, rs ++ [r], used + n, p.drop n, ⟨hP3.keep.setge (by omega) _, hP3.tk, ⟨lv3, by rw [List.getElem?_set_ne (by omega)]; exact d0, d1⟩, by rw [List.getElem?_set_ne (by omega)]; exact hP3.b1, ⟨y5, List.getElem?_set_self l2, Rd.back hP3.keep hy3 r5 hsub⟩, by rw [List.getElem?_set_ne (by omega)]; exact hP3.b3, by rw [List.getElem?_set_ne (by omega)]; exact hP3.b4⟩, by rw [List.length_drop]; omega, by rw [List.length_drop]; omega, by rw [List.length_append, List.length_singleton]; omega, by rw [e1]; simp, by rw [e2]; simp only; omega⟩
def readR (t : List UInt8) : List Rec × Nat := readN t.length t
theorem recs_call {b : Nat} {L : List AObj} {ts : List Nat} {y : V} (hyc : y.cells = [y]) (hb : b = L.length) : callFn env (ev env) 61 [y] ⟨L, ts⟩ = some (.func 74 [] [.ptr b 0], ⟨L ++ [.cells [y] 26], ts⟩) := by
  subst hb
  refine callFn_eq rfl rfl at61 rfl (by simp [Tryd.f61]) (by simp [Tryd.f61]) (G_start ?_)
  simp -implicitDefEqProofs only [Tryd.f61,Wa,Wb,Wc,Wd,We,Wf,Wg,Wh,Wi,Wj,Wk,Wl,Wm,Wn,Zo,Zp,evalT,Nat.reduceLT,Nat.reduceEqDiff,if_true,if_false,reduceIte,Ys,ofVal,ofCell,argT,resT,setT,Y0,Int.reduceEq,Int.reduceLT,Int.reduceLE,Int.reduceNeg,mb,Nat.reduceBEq,tys,stb,Va,storeList,Nat.reduceAdd,Nat.reduceLeDiff,tyj,vBin_xor,vBin_or,vBin_shl,vBin_shr,hyc]
  exact ⟨rfl, trivial⟩
theorem read_call {L : List AObj} {ts : List Nat} {y : V} {t : List UInt8} (hy : Rd L y t) (hl : t.length ≤ 2 ^ 30) :
    ∃ lv L' ts', callFn env (ev env) 37 [y] ⟨L, ts⟩ = some (.tup [lv, .int .i64 (readR t).2], ⟨L', ts'⟩) ∧ Keep L L' ∧ TK ts ts' ∧ RowR ts.length ts' lv (readR t).1 := by
  have hk : ∃ v σ', callFn env (ev env) 37 [y] ⟨L, ts⟩ = some (v, σ') ∧ ∃ lv, v = .tup [lv, .int .i64 (readR t).2] ∧ Keep L σ'.heap ∧ TK ts σ'.toks ∧ RowR ts.length σ'.toks lv (readR t).1 := by
    have z58 : zeroV env 58 = some .nilsl := by kernel_rfl
    have z3 : zeroV env 3 = some (.int .i64 0) := by kernel_rfl
    have l1 : ∀ o : AObj, (L ++ [o]).length = L.length + 1 := fun o => by simp
    have hR := recs_call (b := L.length + 2) (L := L ++ [.cells [.nilsl] 58] ++ [.cells [.int .i64 0] 3]) (ts := ts) hy.cells (by simp)
    refine callFn_any rfl rfl at37 rfl (by simp [Tryd.f37]) (by simp [Tryd.f37]) (G_start ?_)
    simp -implicitDefEqProofs only [Tryd.f37,Wa,Wb,Wc,Wd,We,Wf,Wg,Wh,Wi,Wj,Wk,Wl,Wm,Wn,Zo,Zp,evalT,Nat.reduceLT,Nat.reduceEqDiff,if_true,if_false,reduceIte,Ys,ofVal,ofCell,argT,resT,setT,Y0,Int.reduceEq,Int.reduceLT,Int.reduceLE,Int.reduceNeg,mb,Nat.reduceBEq,tys,stb,Va,storeList,Nat.reduceAdd,Nat.reduceLeDiff,tyj,vBin_xor,vBin_or,vBin_shl,vBin_shr,z58,z3,l1,hR]
    refine G_range rfl ?_
    intro tmps lo lx hr hlo hlx
    have hlen3 : (L ++ [AObj.cells [V.nilsl] 58] ++ [AObj.cells [V.int IntKind.i64 0] 3] ++ [AObj.cells [y] 26]).length = L.length + 3 := by simp
    have e0 : L ++ [AObj.cells [V.nilsl] 58] ++ [AObj.cells [V.int IntKind.i64 0] 3] ++ [AObj.cells [y] 26] ++ [AObj.defd true, lo] = L ++ [AObj.cells [V.nilsl] 58, AObj.cells [V.int IntKind.i64 0] 3, AObj.cells [y] 26, AObj.defd true, lo] := by simp
    simp only [hlen3, List.nil_append, Nat.add_assoc, Nat.reduceAdd] at hlo hlx ⊢
    obtain ⟨v, ⟨H, ts2⟩, hC, p, hP⟩ := records_call (L := L) (tz := ts) hr hlo rfl rfl hl (H := L ++ [AObj.cells [V.nilsl] 58, AObj.cells [V.int IntKind.i64 0] 3, AObj.cells [y] 26, AObj.defd true, lo]) (ts := ts) ⟨Keep.app _ _, TK.refl _, ⟨.nilsl, by simp, RowR.nil _ _⟩, by simp, ⟨y, by simp, hy⟩, by simp, by simp⟩
    rw [e0]
    simp only at hP
    refine ⟨v, ⟨H, ts2⟩, callFn_ev hC, hP.b4, ?_⟩
    obtain ⟨lv, c0, hrow⟩ := hP.b0
    have l4 := B.lt_get hP.b4
    have k0 : (H.set (L.length + 4) lx)[L.length]? = some (.cells [lv] 58) := by rw [List.getElem?_set_ne (by omega)]; exact c0
    have k1 : (H.set (L.length + 4) lx)[L.length + 1]? = some (.cells [.int .i64 (readR t).2] 3) := by rw [List.getElem?_set_ne (by omega)]; exact hP.b1
    have k3 : (H.set (L.length + 4) lx)[L.length + 3]? = some (.defd true) := by rw [List.getElem?_set_ne (by omega)]; exact hP.b3
    have hK := hP.keep.setge (c := L.length + 4) (by omega) lx
    have hcc := hrow.cells
    simp -implicitDefEqProofs only [Wa,Wb,Wc,Wd,We,Wf,Wg,Wh,Wi,Wj,Wk,Wl,Wm,Wn,Zo,Zp,evalT,Nat.reduceLT,Nat.reduceEqDiff,if_true,if_false,reduceIte,Ys,ofVal,ofCell,argT,resT,setT,Y0,Int.reduceEq,Int.reduceLT,Int.reduceLE,Int.reduceNeg,mb,Nat.reduceBEq,tys,stb,Va,storeList,Nat.reduceAdd,Nat.reduceLeDiff,tyj,vBin_xor,vBin_or,vBin_shl,vBin_shr]
    refine G_win rfl [(false, []), (false, [1]), (true, []), (true, [])] (fun m s0 => m ≤ 1 → s0.heap[L.length + 1]? = some (.cells [.int .i64 (readR t).2] 3)) (fun _ => k1) (by kernel_rfl) (by kernel_rfl) ?_
    have a58 : ∀ (h : List AObj) (p : V), aload env h 58 p = (loadCellsV h 1 p).bind (·[0]?) := fun h p => aload_one (by kernel_rfl)
    simp -implicitDefEqProofs only [Wa,Wb,Wc,Wd,We,Wf,Wg,Wh,Wi,Wj,Wk,Wl,Wm,Wn,Zo,Zp,evalT,Nat.reduceLT,Nat.reduceEqDiff,if_true,if_false,reduceIte,Ys,ofVal,ofCell,argT,resT,setT,Y0,Int.reduceEq,Int.reduceLT,Int.reduceLE,Int.reduceNeg,mb,Nat.reduceBEq,tys,stb,Va,storeList,Nat.reduceAdd,Nat.reduceLeDiff,tyj,vBin_xor,vBin_or,vBin_shl,vBin_shr,GW_nil,GW_op,GWS_0,GWS_0n,GWS_1,GWS_1n,GWS_m,GWS_ite,GWS_nite,AllM_nil,AllM_cons,aread_load,a58,k0,k1,hcc,set_same k0,set_same k1]
    have z0 : ((H.set (L.length + 4) lx).set (L.length + 3) (.defd false))[L.length]? = some (.cells [lv] 58) := by rw [List.getElem?_set_ne (by omega), k0]
    have z1 : ((H.set (L.length + 4) lx).set (L.length + 3) (.defd false))[L.length + 1]? = some (.cells [.int .i64 (readR t).2] 3) := by rw [List.getElem?_set_ne (by omega), k1]
    refine ⟨⟨fun s0 e => by rw [e]; rfl, trivial⟩, rfl, ?_⟩
    simp -implicitDefEqProofs only [Wa,Wb,Wc,Wd,We,Wf,Wg,Wh,Wi,Wj,Wk,Wl,Wm,Wn,Zo,Zp,evalT,Nat.reduceLT,Nat.reduceEqDiff,if_true,if_false,reduceIte,Ys,ofVal,ofCell,argT,resT,setT,Y0,Int.reduceEq,Int.reduceLT,Int.reduceLE,Int.reduceNeg,mb,Nat.reduceBEq,tys,stb,Va,storeList,Nat.reduceAdd,Nat.reduceLeDiff,tyj,vBin_xor,vBin_or,vBin_shl,vBin_shr,wpR,takeDfs,k3,Nat.reduceAdd,z0,z1,Option.bind_some,Option.map_some]
    exact ⟨lv, rfl, hK.setge (c := L.length + 3) (by omega) _, hP.tk, hrow⟩
  obtain ⟨v, ⟨L', ts'⟩, h1, lv, rfl, h2, h3, h4⟩ := hk
  exact ⟨lv, L', ts', h1, h2, h3, h4⟩
end Go.Proofs.YtncohjljeoknkaaDoor.D
namespace Go.Proofs.YtncohjljeoknkaaDoor.D
open Go.Ab
set_option maxHeartbeats 8000000
set_option maxRecDepth 100000
set_option linter.unusedSimpArgs false
set_option linter.unusedVariables false
theorem at38 : env.P.funcs[38]? = some Tryd.f38 := by kernel_rfl
theorem at44 : env.P.funcs[44]? = some Tryd.f44 := by kernel_rfl
def RdR (L : List AObj) (v : V) (rs : List Rec) : Prop := ∃ cs, RdS L 2 v rs.length cs ∧ RecC rs cs
theorem RowR.rd {n0 : Nat} {ts : List Nat} {lv : V} {rs : List Rec} (h : RowR n0 ts lv rs) (L : List AObj) : RdR L lv rs := by
  obtain ⟨cs, h1, h2⟩ := h
  exact ⟨cs, h1.1.rd L, h2⟩
theorem RecC.get {rs : List Rec} {cs : List V} (h : RecC rs cs) {i : Nat} (hi : i < rs.length) : ∃ fv, (cs.drop (i * 2)).take 2 = [.int .i64 rs[i].k, fv] ∧ Fld fv rs[i].fs := by
  induction rs generalizing cs i with
  | nil => simp at hi
  | cons a rs ih =>
    obtain ⟨gv, cs', rfl, h1, h2⟩ := h
    cases i with
    | zero => exact ⟨gv, rfl, h1⟩
    | succ i =>
      obtain ⟨fv, e, hf⟩ := ih h2 (i := i) (by simpa using hi)
      exact ⟨fv, by rw [show (i + 1) * 2 = i * 2 + 2 by omega]; exact e, hf⟩
theorem RdR.len {L : List AObj} {v : V} {rs : List Rec} (h : RdR L v rs) (e : TypeId) : vLenT (some (.slice e)) v = some (.int .i64 rs.length) := by
  obtain ⟨cs, h, _⟩ := h
  exact h.2.1 e
theorem load2 {L : List AObj} {p x y : V} (h : loadCellsV L 2 p = some [x, y]) : ∃ p0 p1, vFieldAddr 0 p = some p0 ∧ vFieldAddr 1 p = some p1 ∧ (loadCellsV L 1 p0).bind (·[0]?) = some x ∧ (loadCellsV L 1 p1).bind (·[0]?) = some y := by
  cases p with
  | rptr cells =>
    unfold loadCellsV at h
    simp only at h
    split at h
    · rename_i hl
      simp only [Option.some.injEq] at h
      refine ⟨_, _, rfl, rfl, ?_, ?_⟩
      · match cells, h with
        | a :: b :: r, h =>
          simp only [List.take_succ_cons, List.take_zero, List.cons.injEq, and_true] at h
          simp [loadCellsV, h.1]
      · match cells, h with
        | a :: b :: r, h =>
          simp only [List.take_succ_cons, List.take_zero, List.cons.injEq, and_true] at h
          simp [loadCellsV, h.2]
    · cases h
  | ptr b off =>
    have key : ∀ cs : List V, (cs.drop off).take 2 = [x, y] → cs[off]? = some x ∧ cs[off + 1]? = some y := by
      intro cs e
      have e1 := congrArg (·[0]?) e
      have e2 := congrArg (·[1]?) e
      simp only [List.getElem?_take_of_lt (show 0 < 2 by omega), List.getElem?_take_of_lt (show 1 < 2 by omega), List.getElem?_drop, Nat.add_zero] at e1 e2
      exact ⟨e1, e2⟩
    refine ⟨_, _, rfl, rfl, ?_, ?_⟩
    · rw [YA, Nat.add_zero]
      unfold loadCellsV at h
      simp only at h
      cases hL : L[b]? with
      | none => rw [hL] at h; cases h
      | some o =>
        rw [hL] at h
        cases o with
        | cells cs t =>
          simp only at h
          split at h
          · exact (key cs (Option.some.inj h)).1
          · cases h
        | ro cs t =>
          simp only at h
          split at h
          · exact (key cs (Option.some.inj h)).1
          · cases h
        | _ => cases h
    · rw [YA]
      unfold loadCellsV at h
      simp only at h
      cases hL : L[b]? with
      | none => rw [hL] at h; cases h
      | some o =>
        rw [hL] at h
        cases o with
        | cells cs t =>
          simp only at h
          split at h
          · exact (key cs (Option.some.inj h)).2
          · cases h
        | ro cs t =>
          simp only at h
          split at h
          · exact (key cs (Option.some.inj h)).2
          · cases h
        | _ => cases h
  | _ => cases h
theorem RdR.idx {L : List AObj} {v : V} {rs : List Rec} (h : RdR L v rs) {i : Nat} (hi : i < rs.length) : ∃ p p0 p1 fv, vIndexAddr 2 v (.int .i64 (i : Int)) = some p ∧ vFieldAddr 0 p = some p0 ∧ vFieldAddr 1 p = some p1 ∧ (loadCellsV L 1 p0).bind (·[0]?) = some (.int .i64 rs[i].k) ∧ (loadCellsV L 1 p1).bind (·[0]?) = some fv ∧ loadCellsV L 2 p = some [.int .i64 rs[i].k, fv] ∧ Fld fv rs[i].fs := by
  obtain ⟨cs, h1, h2⟩ := h
  obtain ⟨p, a1, a2⟩ := h1.2.2.2 i hi
  obtain ⟨fv, e, hf⟩ := h2.get hi
  rw [e] at a2
  obtain ⟨p0, p1, b1, b2, b3, b4⟩ := load2 a2
  exact ⟨p, p0, p1, fv, a1, b1, b2, b3, b4, a2, hf⟩
theorem vBin_sne (us : Option TypeDesc) (c : Bool) (a b : List UInt8) : vBinT us c .neq (.str a) (.str b) = some (.bool (decide (¬ a = b))) := by by_cases h : a = b <;> simp [vBinT, vBin, vStrOp, vEq, h]
theorem same_call {L : List AObj} {ts : List Nat} {u v : V} {rs : List Rec} (hu : RdR L u rs) (hv : RdR L v rs) (hl : rs.length ≤ 2 ^ 38) (hf : ∀ r ∈ rs, r.fs.length ≤ 2 ^ 38) : callFn env (ev env) 38 [u, v] ⟨L, ts⟩ = some (.bool true, ⟨L, ts⟩) := by
  have l1 := hu.len 55
  have l2 := hv.len 55
  refine callFn_eq rfl rfl at38 rfl (by simp [Tryd.f38]) (by simp [Tryd.f38]) (G_start ?_)
  simp -implicitDefEqProofs only [Tryd.f38,Wa,Wb,Wc,Wd,We,Wf,Wg,Wh,Wi,Wj,Wk,Wl,Wm,Wn,Zo,Zp,evalT,Nat.reduceLT,Nat.reduceEqDiff,if_true,if_false,reduceIte,Ys,ofVal,ofCell,argT,resT,setT,Y0,Int.reduceEq,Int.reduceLT,Int.reduceLE,Int.reduceNeg,mb,Nat.reduceBEq,tys,stb,Va,storeList,Nat.reduceAdd,Nat.reduceLeDiff,tyj,vBin_xor,vBin_or,vBin_shl,vBin_shr,l1,l2]
  refine loop_rule (fun m T D σ => D = [] ∧ σ = ⟨L, ts⟩ ∧ T 0 = u ∧ T 1 = v ∧ ∃ i : Nat, i ≤ rs.length ∧ m = rs.length - i ∧ T 5 = .int .i64 i) ?_ rs.length _ _ _ ⟨rfl, rfl, rfl, rfl, 0, by omega, rfl, rfl⟩
  rintro m T D σ ⟨rfl, rfl, t0, t1, i, hi, rfl, t5⟩
  refine G_start ?_
  by_cases hlt : i < rs.length
  · have c1 : (i : Int) < (rs.length : Int) := by omega
    have w1 : IntKind.wrap .i64 ((i : Int) + 1) = ((i + 1 : Nat) : Int) := by rw [B.wrap64 (by omega)]; omega
    obtain ⟨p, p0, p1, fv, a1, a2, a3, a4, a5, _, hfv⟩ := hu.idx hlt
    obtain ⟨q, q0, q1, gv, b1, b2, b3, b4, b5, _, hgv⟩ := hv.idx hlt
    have n1 := hfv.len 9
    have n2 := hgv.len 9
    have hfl := hf _ (List.getElem_mem hlt)
    simp -implicitDefEqProofs only [Wa,Wb,Wc,Wd,We,Wf,Wg,Wh,Wi,Wj,Wk,Wl,Wm,Wn,Zo,Zp,evalT,Nat.reduceLT,Nat.reduceEqDiff,if_true,if_false,reduceIte,Ys,ofVal,ofCell,argT,resT,setT,Y0,Int.reduceEq,Int.reduceLT,Int.reduceLE,Int.reduceNeg,mb,Nat.reduceBEq,tys,stb,Va,storeList,Nat.reduceAdd,Nat.reduceLeDiff,tyj,vBin_xor,vBin_or,vBin_shl,vBin_shr,t0,t1,t5,l1,c1,a1,a2,a3,a4,a5,b1,b2,b3,b4,b5,n1,n2]
    refine ⟨by kernel_rfl, ?_⟩
    refine loop_rule (fun m T D σ => D = [] ∧ σ = ⟨L, ts⟩ ∧ T 0 = u ∧ T 1 = v ∧ T 5 = .int .i64 i ∧ ∃ k : Nat, k ≤ rs[i].fs.length ∧ m = rs[i].fs.length - k ∧ T 6 = .int .i64 k) ?_ rs[i].fs.length _ _ _ ⟨rfl, rfl, t0, t1, t5, 0, by omega, rfl, rfl⟩
    clear t0 t1 t5
    rintro m T D σ ⟨rfl, rfl, t0, t1, t5, k, hk, rfl, t6⟩
    refine G_start ?_
    by_cases hkt : k < rs[i].fs.length
    · have d1 : (k : Int) < (rs[i].fs.length : Int) := by omega
      have w2 : IntKind.wrap .i64 ((k : Int) + 1) = ((k + 1 : Nat) : Int) := by rw [B.wrap64 (by omega)]; omega
      obtain ⟨x, x1, x2⟩ := hfv.idx hkt L
      obtain ⟨y, y1, y2⟩ := hgv.idx hkt L
      simp -implicitDefEqProofs only [Wa,Wb,Wc,Wd,We,Wf,Wg,Wh,Wi,Wj,Wk,Wl,Wm,Wn,Zo,Zp,evalT,Nat.reduceLT,Nat.reduceEqDiff,if_true,if_false,reduceIte,Ys,ofVal,ofCell,argT,resT,setT,Y0,Int.reduceEq,Int.reduceLT,Int.reduceLE,Int.reduceNeg,mb,Nat.reduceBEq,tys,stb,Va,storeList,Nat.reduceAdd,Nat.reduceLeDiff,tyj,vBin_xor,vBin_or,vBin_shl,vBin_shr,t0,t1,t5,t6,l1,c1,a1,a2,a3,a4,a5,b1,b2,b3,b4,b5,n1,n2,d1,x1,x2,y1,y2,w2,vBin_sne]
      exact ⟨by kernel_rfl, rs[i].fs.length - (k + 1), by omega, k + 1, by omega, rfl, rfl⟩
    · have d1 : ¬ (k : Int) < (rs[i].fs.length : Int) := by omega
      simp -implicitDefEqProofs only [Wa,Wb,Wc,Wd,We,Wf,Wg,Wh,Wi,Wj,Wk,Wl,Wm,Wn,Zo,Zp,evalT,Nat.reduceLT,Nat.reduceEqDiff,if_true,if_false,reduceIte,Ys,ofVal,ofCell,argT,resT,setT,Y0,Int.reduceEq,Int.reduceLT,Int.reduceLE,Int.reduceNeg,mb,Nat.reduceBEq,tys,stb,Va,storeList,Nat.reduceAdd,Nat.reduceLeDiff,tyj,vBin_xor,vBin_or,vBin_shl,vBin_shr,t0,t1,t5,t6,l1,c1,a1,a2,a3,a4,a5,n1,d1,w1]
      exact ⟨rs.length - (i + 1), by omega, i + 1, by omega, rfl, rfl⟩
  · have c1 : ¬ (i : Int) < (rs.length : Int) := by omega
    simp -implicitDefEqProofs only [Wa,Wb,Wc,Wd,We,Wf,Wg,Wh,Wi,Wj,Wk,Wl,Wm,Wn,Zo,Zp,evalT,Nat.reduceLT,Nat.reduceEqDiff,if_true,if_false,reduceIte,Ys,ofVal,ofCell,argT,resT,setT,Y0,Int.reduceEq,Int.reduceLT,Int.reduceLE,Int.reduceNeg,mb,Nat.reduceBEq,tys,stb,Va,storeList,Nat.reduceAdd,Nat.reduceLeDiff,tyj,vBin_xor,vBin_or,vBin_shl,vBin_shr,t0,t1,t5,l1,c1]
    exact ⟨rfl, trivial⟩
def longN (fs : List (List UInt8)) (n : Nat) : Bool := (fs.take n).any fun f => decide (400 < f.length)
def longR (r : Rec) : Bool := longN r.fs 71 || decide (70 < r.fs.length)
theorem long_call {L : List AObj} {ts : List Nat} {r : Rec} {fv : V} (hf : Fld fv r.fs) : callFn env (ev env) 44 [.agg [.int .i64 r.k, fv]] ⟨L, ts⟩ = some (.bool (longR r), ⟨L ++ [.cells [.int .i64 r.k, fv] 55], ts⟩) := by
  have hlen := hf.len 9
  have hlast : ∀ o, (L ++ [o])[L.length]? = some o := fun o => by simp
  refine callFn_eq rfl rfl at44 rfl (by simp [Tryd.f44]) (by simp [Tryd.f44]) (G_start ?_)
  simp -implicitDefEqProofs only [Tryd.f44,Wa,Wb,Wc,Wd,We,Wf,Wg,Wh,Wi,Wj,Wk,Wl,Wm,Wn,Zo,Zp,evalT,Nat.reduceLT,Nat.reduceEqDiff,if_true,if_false,reduceIte,Ys,ofVal,ofCell,argT,resT,setT,Y0,Int.reduceEq,Int.reduceLT,Int.reduceLE,Int.reduceNeg,mb,Nat.reduceBEq,tys,stb,Va,storeList,Nat.reduceAdd,Nat.reduceLeDiff,tyj,vBin_xor,vBin_or,vBin_shl,vBin_shr,hlast]
  refine loop_rule (fun m T D σ => D = [] ∧ σ = ⟨L ++ [.cells [.int .i64 r.k, fv] 55], ts⟩ ∧ T 1 = .ptr L.length 0 ∧ ∃ i : Nat, i ≤ r.fs.length ∧ i ≤ 71 ∧ m = 71 - i ∧ T 3 = .int .i64 i ∧ longN r.fs i = false) ?_ 71 _ _ _ ⟨rfl, rfl, rfl, 0, by omega, by omega, rfl, rfl, rfl⟩
  rintro m T D σ ⟨rfl, rfl, t1, i, hi, hi2, rfl, t3, hn⟩
  refine G_start ?_
  have stop : longN r.fs 71 = longN r.fs i → longR r = decide (70 < r.fs.length) := fun h => by
    unfold longR
    rw [h, hn]; rfl
  by_cases hlt : i < r.fs.length
  · have c1 : (i : Int) < (r.fs.length : Int) := by omega
    by_cases h71 : i < 71
    · have c2 : (i : Int) < 71 := by omega
      have w1 : IntKind.wrap .i64 ((i : Int) + 1) = ((i + 1 : Nat) : Int) := by rw [B.wrap64 (by omega)]; omega
      obtain ⟨x, x1, x2⟩ := hf.idx hlt (L ++ [.cells [.int .i64 r.k, fv] 55])
      have ht : longN r.fs (i + 1) = (longN r.fs i || decide (400 < r.fs[i].length)) := by
        unfold longN
        rw [List.take_succ_eq_append_getElem hlt, List.any_append]; simp
      by_cases c3 : 400 < r.fs[i].length
      · have c3' : (400 : Int) < (r.fs[i].length : Int) := by omega
        have hr : longR r = true := by
          have : longN r.fs 71 = true := by
            unfold longN
            rw [List.any_eq_true]
            refine ⟨r.fs[i], ?_, by simp [c3]⟩
            exact List.mem_take_iff_getElem.2 ⟨i, by omega, rfl⟩
          unfold longR; rw [this]; rfl
        simp -implicitDefEqProofs only [Wa,Wb,Wc,Wd,We,Wf,Wg,Wh,Wi,Wj,Wk,Wl,Wm,Wn,Zo,Zp,evalT,Nat.reduceLT,Nat.reduceEqDiff,if_true,if_false,reduceIte,Ys,ofVal,ofCell,argT,resT,setT,Y0,Int.reduceEq,Int.reduceLT,Int.reduceLE,Int.reduceNeg,mb,Nat.reduceBEq,tys,stb,Va,storeList,Nat.reduceAdd,Nat.reduceLeDiff,tyj,vBin_xor,vBin_or,vBin_shl,vBin_shr,t1,t3,hlast,hlen,c1,c2,x1,x2,lenS,c3']
        exact ⟨by rw [hr]; rfl, trivial⟩
      · have c3' : ¬ (400 : Int) < (r.fs[i].length : Int) := by omega
        simp -implicitDefEqProofs only [Wa,Wb,Wc,Wd,We,Wf,Wg,Wh,Wi,Wj,Wk,Wl,Wm,Wn,Zo,Zp,evalT,Nat.reduceLT,Nat.reduceEqDiff,if_true,if_false,reduceIte,Ys,ofVal,ofCell,argT,resT,setT,Y0,Int.reduceEq,Int.reduceLT,Int.reduceLE,Int.reduceNeg,mb,Nat.reduceBEq,tys,stb,Va,storeList,Nat.reduceAdd,Nat.reduceLeDiff,tyj,vBin_xor,vBin_or,vBin_shl,vBin_shr,t1,t3,hlast,hlen,c1,c2,x1,x2,lenS,c3',w1]
        exact ⟨71 - (i + 1), by omega, i + 1, by omega, by omega, rfl, rfl, by rw [ht, hn, decide_eq_false c3]; rfl⟩
    · have c2 : ¬ (i : Int) < 71 := by omega
      have e : i = 71 := by omega
      have hr := stop (by rw [e])
      have c4 : (70 : Int) < (r.fs.length : Int) := by omega
      simp -implicitDefEqProofs only [Wa,Wb,Wc,Wd,We,Wf,Wg,Wh,Wi,Wj,Wk,Wl,Wm,Wn,Zo,Zp,evalT,Nat.reduceLT,Nat.reduceEqDiff,if_true,if_false,reduceIte,Ys,ofVal,ofCell,argT,resT,setT,Y0,Int.reduceEq,Int.reduceLT,Int.reduceLE,Int.reduceNeg,mb,Nat.reduceBEq,tys,stb,Va,storeList,Nat.reduceAdd,Nat.reduceLeDiff,tyj,vBin_xor,vBin_or,vBin_shl,vBin_shr,t1,t3,hlast,hlen,c1,c2,c4]
      exact ⟨by rw [hr, decide_eq_true (by omega)]; rfl, trivial⟩
  · have c1 : ¬ (i : Int) < (r.fs.length : Int) := by omega
    have e : i = r.fs.length := by omega
    have hr := stop (by unfold longN; rw [List.take_of_length_le (by omega), List.take_of_length_le (by omega)])
    have c4 : decide ((70 : Int) < (r.fs.length : Int)) = decide (70 < r.fs.length) := by
      by_cases h : 70 < r.fs.length
      · rw [decide_eq_true h, decide_eq_true (by omega)]
      · rw [decide_eq_false h, decide_eq_false (by omega)]
    simp -implicitDefEqProofs only [Wa,Wb,Wc,Wd,We,Wf,Wg,Wh,Wi,Wj,Wk,Wl,Wm,Wn,Zo,Zp,evalT,Nat.reduceLT,Nat.reduceEqDiff,if_true,if_false,reduceIte,Ys,ofVal,ofCell,argT,resT,setT,Y0,Int.reduceEq,Int.reduceLT,Int.reduceLE,Int.reduceNeg,mb,Nat.reduceBEq,tys,stb,Va,storeList,Nat.reduceAdd,Nat.reduceLeDiff,tyj,vBin_xor,vBin_or,vBin_shl,vBin_shr,t1,t3,hlast,hlen,c1,c4]
    exact ⟨by rw [hr]; rfl, trivial⟩
end Go.Proofs.YtncohjljeoknkaaDoor.D
