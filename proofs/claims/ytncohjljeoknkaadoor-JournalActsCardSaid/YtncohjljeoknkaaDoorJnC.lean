/- Proved here: the law. Conditions: those of each theorem; no statement of the seat is proved in this text. -/
import Derived.Test.YtncohjljeoknkaaDoorJnB
namespace Go.Proofs.YtncohjljeoknkaaDoor.D
open Go.Ab
set_option maxHeartbeats 8000000
set_option maxRecDepth 100000
set_option linter.unusedSimpArgs false
set_option linter.unusedVariables false
set_option linter.unusedSectionVars false
theorem at80 : env.P.funcs[80]? = some Tryd.f80 := by kernel_rfl
theorem at66 : env.P.funcs[66]? = some Tryd.f66 := by kernel_rfl
def okP (p : List UInt8) : Option Rec := match payR p with
  | some r => if chkR r = 0 then some r else none
  | none => none
theorem numF2 {p : List UInt8} {i : Nat} (h : i + 1 < p.length) : numF ((p.drop i).take 2) = p[i].toNat * 256 + p[i + 1].toNat := by
  have e : (p.drop i).take 2 = [p[i], p[i + 1]] := by
    rw [List.drop_eq_getElem_cons (by omega), List.take_succ_cons, List.drop_eq_getElem_cons h, List.take_succ_cons, List.take_zero]
  rw [e]; simp [numF]
theorem fields_stop {c : Nat} {q : List UInt8} (h : q.length < 2) : fieldsR (c + 1) q = none := by rw [fieldsR, if_pos h]
structure Pay (L : List AObj) (tz : List Nat) (p : List UInt8) (y : V) (c : Nat) (T : Tm) (H : List AObj) (ts : List Nat) (i pos : Nat) (acc : List (List UInt8)) (fv : V) : Prop where
  t0 : T 0 = y
  t2 : T 2 = .ptr L.length 0
  t3 : T 3 = .bool false
  t4 : T 4 = .ptr (L.length + 1) 0
  t5 : T 5 = .int .i64 pos
  t6 : T 6 = .int .i64 i
  le : i ≤ c
  pl : pos ≤ p.length
  len : acc.length = i
  hp : H = L ++ [.cells [.int .i64 0, .nilsl] 55, .cells [.int .i64 ((p.getD 0 0).toNat : Int), fv] 55]
  tk : TK tz ts
  row : RowN tz.length ts 1 fv acc.length (acc.map .str)
  ho : fieldsR c (p.drop 2) = (fieldsR (c - i) (p.drop pos)).map fun x => (acc ++ x.1, x.2)
theorem idxD {L : List AObj} {y : V} {p : List UInt8} (h : Rd L y p) {i : Nat} (hi : i < p.length) : ∃ q, vIndexAddr 1 y (.int .i64 (i : Int)) = some q ∧ (loadCellsV L 1 q).bind (·[0]?) = some (.int .u8 ((p.getD i 0).toNat : Int)) := by
  obtain ⟨q, h1, h2⟩ := h.idx hi
  exact ⟨q, h1, by rw [h2, List.getD, List.getElem?_eq_getElem hi]; rfl⟩
def Res80 (L : List AObj) (ts : List Nat) (p : List UInt8) (v : V) (σ' : S) : Prop := ∃ a b, v = .tup [.agg [a, b], .bool (okP p).isSome] ∧ Keep L σ'.heap ∧ TK ts σ'.toks ∧ a.cells = [a] ∧ b.cells = [b] ∧ a.isCell = true ∧ b.isCell = true ∧ (∀ r, okP p = some r → a = .int .i64 r.k ∧ Fld b r.fs)
theorem bad80 {L H : List AObj} {ts ts' : List Nat} {p : List UInt8} (ho : okP p = none) (hk : Keep L H) (ht : TK ts ts') (g : H[L.length]? = some (.cells [.int .i64 0, .nilsl] 55)) : V1 ((aload env H 55 (.ptr L.length 0)).bind fun v => some [v, .bool false]) fun vs => Res80 L ts p (oneOr vs) ⟨H, ts'⟩ := by
  refine ⟨[.agg [.int .i64 0, .nilsl], .bool false], by rw [l55 g]; rfl, .int .i64 0, .nilsl, by rw [ho]; rfl, hk, ht, rfl, rfl, rfl, rfl, fun r hr => by rw [ho] at hr; cases hr⟩
theorem fin80 {L H : List AObj} {ts ts' : List Nat} {p : List UInt8} {k : Int} {fv : V} {acc : List (List UInt8)} {b : Bool} (g : H[L.length]? = some (.cells [.int .i64 k, fv] 55)) (hk : Keep L H) (ht : TK ts ts') (hf : Fld fv acc) (ho : okP p = if b = true then some ⟨k, acc⟩ else none) :
    V1 (((loadCellsV H 2 (.ptr L.length 0)).map V.agg).bind fun v => some [v, .bool b]) fun vs => Res80 L ts p (oneOr vs) ⟨H, ts'⟩ := by
  have e : loadCellsV H 2 (.ptr L.length 0) = some [.int .i64 k, fv] := by simp [loadCellsV, g]
  refine ⟨[.agg [.int .i64 k, fv], .bool b], by rw [e]; rfl, .int .i64 k, fv, ?_, hk, ht, rfl, hf.cells, rfl, hf.isCell, fun r hr => ?_⟩
  · rw [ho]; cases b <;> rfl
  · rw [ho] at hr
    cases b with
    | false => cases hr
    | true => cases hr; exact ⟨rfl, hf⟩
theorem okP_none {p : List UInt8} (h2 : ¬ p.length < 2) (h : fieldsR (p.getD 1 0).toNat (p.drop 2) = none) : okP p = none := by
  unfold okP payR
  rw [if_neg h2, h]
theorem i64w {n : Nat} (h : n ≤ 2 ^ 40) : IntKind.i64.wrap (n : Int) = (n : Int) := B.wrap64 (by omega)
theorem pay_call {L : List AObj} {ts : List Nat} {y : V} {p : List UInt8} (hy : Rd L y p) (hl : p.length ≤ 2 ^ 38) :
    ∃ a b L' ts', callFn env (ev env) 80 [y] ⟨L, ts⟩ = some (.tup [.agg [a, b], .bool (okP p).isSome], ⟨L', ts'⟩) ∧ Keep L L' ∧ TK ts ts' ∧ a.cells = [a] ∧ b.cells = [b] ∧ a.isCell = true ∧ b.isCell = true ∧ (∀ r, okP p = some r → a = .int .i64 r.k ∧ Fld b r.fs) := by
  have hk : ∃ v σ', callFn env (ev env) 80 [y] ⟨L, ts⟩ = some (v, σ') ∧ Res80 L ts p v σ' := by
    have hlen := hy.lenT 5
    have z55 : zeroV env 55 = some (.agg [.int .i64 0, .nilsl]) := by kernel_rfl
    have hbd : buildO env 55 [] = some (.agg [.int .i64 0, .nilsl]) := by kernel_rfl
    have hbd1 : ∀ k, buildO env 55 [(0, .int .i64 k)] = some (.agg [.int .i64 k, .nilsl]) := fun k => by kernel_rfl
    have e1 : ∀ o : AObj, (L ++ [o])[L.length]? = some o := fun o => by simp
    have e2 : ∀ o o' : AObj, (L ++ [o]).set L.length o' = L ++ [o'] := fun o o' => by simp
    have l1 : ∀ o : AObj, (L ++ [o]).length = L.length + 1 := fun o => by simp
    have e3 : ∀ o o' : AObj, (L ++ [o] ++ [o'])[L.length + 1]? = some o' := fun o o' => by simp
    have e4 : ∀ o o' o'' : AObj, (L ++ [o] ++ [o']).set (L.length + 1) o'' = L ++ [o] ++ [o''] := fun o o' o'' => by simp
    refine callFn_any rfl rfl at80 rfl (by simp [Tryd.f80]) (by simp [Tryd.f80]) (G_start ?_)
    by_cases c0 : p.length < 2
    · have c1 : (p.length : Int) < 2 := by omega
      have ho : okP p = none := by unfold okP payR; rw [if_pos c0]
      simp -implicitDefEqProofs only [Tryd.f80,Wa,Wb,Wc,Wd,We,Wf,Wg,Wh,Wi,Wj,Wk,Wl,Wm,Wn,Zo,Zp,evalT,Nat.reduceLT,Nat.reduceEqDiff,if_true,if_false,reduceIte,Ys,ofVal,ofCell,argT,resT,setT,Y0,Int.reduceEq,Int.reduceLT,Int.reduceLE,Int.reduceNeg,mb,Nat.reduceBEq,tys,stb,Va,storeList,Nat.reduceAdd,Nat.reduceLeDiff,tyj,vBin_xor,vBin_or,vBin_shl,vBin_shr,hlen,c1,z55,hbd,e1,e2,Option.bind_some,Option.map_some]
      exact ⟨rfl, bad80 ho (Keep.app _ _) (TK.refl _) (e1 _)⟩
    · have c1 : ¬ (p.length : Int) < 2 := by omega
      obtain ⟨q0, x0, y0⟩ := idxD (hy.app [.cells [.int .i64 0, .nilsl] 55]) (i := 0) (by omega)
      have i0 : ((0 : Nat) : Int) = 0 := rfl
      rw [i0] at x0
      have hb0 := (p.getD 0 0).toNat_lt
      have hb1 := (p.getD 1 0).toNat_lt
      have w0 := i64w (n := (p.getD 0 0).toNat) (by omega)
      have z := L
      simp -implicitDefEqProofs only [Tryd.f80,Wa,Wb,Wc,Wd,We,Wf,Wg,Wh,Wi,Wj,Wk,Wl,Wm,Wn,Zo,Zp,evalT,Nat.reduceLT,Nat.reduceEqDiff,if_true,if_false,reduceIte,Ys,ofVal,ofCell,argT,resT,setT,Y0,Int.reduceEq,Int.reduceLT,Int.reduceLE,Int.reduceNeg,mb,Nat.reduceBEq,tys,stb,Va,storeList,Nat.reduceAdd,Nat.reduceLeDiff,tyj,vBin_xor,vBin_or,vBin_shl,vBin_shr,hlen,c1,z55,x0,y0,w0,hbd1,l1,e3,e4]
      refine ⟨rfl, ?_⟩
      refine loop_rule (fun m T D σ => D = [] ∧ ∃ i pos acc fv, Pay L ts p y (p.getD 1 0).toNat T σ.heap σ.toks i pos acc fv ∧ m = (p.getD 1 0).toNat - i) ?_ (p.getD 1 0).toNat _ _ _ (by
        exact ⟨rfl, 0, 2, [], .nilsl, ⟨rfl, rfl, rfl, rfl, rfl, rfl, Nat.zero_le _, by omega, rfl, by simp, TK.refl _, RowN.nil _ _ _, by rw [Nat.sub_zero]; cases fieldsR (p.getD 1 0).toNat (p.drop 2) <;> rfl⟩, rfl⟩)
      rintro m T D ⟨H, ts1⟩ ⟨rfl, i, pos, acc, fv, hP, rfl⟩
      refine G_start ?_
      have hp := hP.hp
      simp only at hp
      have hK : Keep L H := by rw [hp]; exact Keep.app _ _
      have hyH := hK.rd hy
      obtain ⟨q1, x1, y1⟩ := idxD hyH (i := 1) (by omega)
      have i1 : ((1 : Nat) : Int) = 1 := rfl
      rw [i1] at x1
      have w1 := i64w (n := (p.getD 1 0).toNat) (by omega)
      have hpl := hP.pl
      have ho := hP.ho
      have b0 : H[L.length]? = some (.cells [.int .i64 0, .nilsl] 55) := by rw [hp]; simp
      have b1 : H[L.length + 1]? = some (.cells [.int .i64 ((p.getD 0 0).toNat : Int), fv] 55) := by rw [hp]; simp
      by_cases hlt : i < (p.getD 1 0).toNat
      · have d1 : (i : Int) < ((p.getD 1 0).toNat : Int) := by omega
        have wp := i64w (n := pos + 2) (by omega)
        have wp' : IntKind.i64.wrap ((pos : Int) + 2) = ((pos + 2 : Nat) : Int) := by rw [← wp]; congr 1
        have hci : (p.getD 1 0).toNat - i = ((p.getD 1 0).toNat - (i + 1)) + 1 := by omega
        rw [hci] at ho
        by_cases c2 : p.length < pos + 2
        · have c2' : (p.length : Int) < ((pos + 2 : Nat) : Int) := by omega
          rw [fields_stop (by rw [List.length_drop]; omega)] at ho
          simp -implicitDefEqProofs only [Wa,Wb,Wc,Wd,We,Wf,Wg,Wh,Wi,Wj,Wk,Wl,Wm,Wn,Zo,Zp,evalT,Nat.reduceLT,Nat.reduceEqDiff,if_true,if_false,reduceIte,Ys,ofVal,ofCell,argT,resT,setT,Y0,Int.reduceEq,Int.reduceLT,Int.reduceLE,Int.reduceNeg,mb,Nat.reduceBEq,tys,stb,Va,storeList,Nat.reduceAdd,Nat.reduceLeDiff,tyj,vBin_xor,vBin_or,vBin_shl,vBin_shr,hP.t0,hP.t2,hP.t3,hP.t4,hP.t5,hP.t6,x1,y1,w1,d1,wp',hlen,c2',hbd,b0,set_same b0]
          exact ⟨rfl, bad80 (okP_none c0 ho) hK hP.tk b0⟩
        · have c2' : ¬ (p.length : Int) < ((pos + 2 : Nat) : Int) := by omega
          obtain ⟨qa, xa, ya⟩ := idxD hyH (i := pos) (by omega)
          obtain ⟨qb, xb, yb⟩ := idxD hyH (i := pos + 1) (by omega)
          have ha := (p.getD pos 0).toNat_lt
          have hb := (p.getD (pos + 1) 0).toNat_lt
          have wa := i64w (n := (p.getD pos 0).toNat) (by omega)
          have wb := i64w (n := (p.getD (pos + 1) 0).toNat) (by omega)
          have ws : IntKind.i64.wrap (((p.getD pos 0).toNat : Int) * 2 ^ 8) = (((p.getD pos 0).toNat * 256 : Nat) : Int) := by rw [← i64w (n := (p.getD pos 0).toNat * 256) (by omega)]; congr 1
          have w3 : IntKind.i64.wrap ((pos : Int) + 1) = ((pos + 1 : Nat) : Int) := by rw [← i64w (n := pos + 1) (by omega)]; congr 1
          have hn : numF ((p.drop pos).take 2) = (p.getD pos 0).toNat * 256 + (p.getD (pos + 1) 0).toNat := by
            rw [numF2 (by omega), List.getD, List.getD, List.getElem?_eq_getElem (by omega), List.getElem?_eq_getElem (by omega)]; rfl
          rw [fieldsR, if_neg (by rw [List.length_drop]; omega), hn] at ho
          have w4 : IntKind.i64.wrap ((((p.getD pos 0).toNat * 256 : Nat) : Int) + ((p.getD (pos + 1) 0).toNat : Int)) = (((p.getD pos 0).toNat * 256 + (p.getD (pos + 1) 0).toNat : Nat) : Int) := by rw [← i64w (n := (p.getD pos 0).toNat * 256 + (p.getD (pos + 1) 0).toNat) (by omega)]; congr 1
          have hnlt : (p.getD pos 0).toNat * 256 + (p.getD (pos + 1) 0).toNat < 65536 := by omega
          generalize (p.getD pos 0).toNat * 256 + (p.getD (pos + 1) 0).toNat = n at ho w4 hnlt
          have w5 : IntKind.i64.wrap (((pos + 2 : Nat) : Int) + (n : Int)) = ((pos + 2 + n : Nat) : Int) := by rw [← i64w (n := pos + 2 + n) (by omega)]; congr 1
          have ed : (p.drop pos).drop 2 = p.drop (pos + 2) := by rw [List.drop_drop]
          rw [ed] at ho
          by_cases c3 : p.length < pos + 2 + n
          · have c3' : (p.length : Int) < ((pos + 2 + n : Nat) : Int) := by omega
            rw [if_pos (by rw [List.length_drop]; omega)] at ho
            simp -implicitDefEqProofs only [Wa,Wb,Wc,Wd,We,Wf,Wg,Wh,Wi,Wj,Wk,Wl,Wm,Wn,Zo,Zp,evalT,Nat.reduceLT,Nat.reduceEqDiff,if_true,if_false,reduceIte,Ys,ofVal,ofCell,argT,resT,setT,Y0,Int.reduceEq,Int.reduceLT,Int.reduceLE,Int.reduceNeg,mb,Nat.reduceBEq,tys,stb,Va,storeList,Nat.reduceAdd,Nat.reduceLeDiff,tyj,vBin_xor,vBin_or,vBin_shl,vBin_shr,hP.t0,hP.t2,hP.t3,hP.t4,hP.t5,hP.t6,x1,y1,w1,d1,wp',hlen,c2',xa,ya,wa,ws,w3,xb,yb,wb,w4,w5,c3',c8,m8i,hbd,b0,set_same b0]
            exact ⟨by kernel_rfl, rfl, bad80 (okP_none c0 ho) hK hP.tk b0⟩
          · have c3' : ¬ (p.length : Int) < ((pos + 2 + n : Nat) : Int) := by omega
            rw [if_neg (by rw [List.length_drop]; omega)] at ho
            obtain ⟨u, hS, hru, _⟩ := hyH.cut (a := pos + 2) (b := pos + 2 + n) (lo := some (.int .i64 ((pos + 2 : Nat) : Int))) (hi := some (.int .i64 ((pos + 2 + n : Nat) : Int))) (by omega) (by omega) (.inl rfl) (.inl rfl)
            have etk : (p.take (pos + 2 + n)).drop (pos + 2) = (p.drop (pos + 2)).take n := by rw [List.drop_take]; congr 1; omega
            rw [etk] at hru
            have hcv := hru.str ts1
            obtain ⟨v', ts', hA, hrow', htk'⟩ := app_fld (L := H) hP.tk hP.row ((p.drop (pos + 2)).take n) (by rw [hP.len]; omega)
            have m80 : ∀ r, env.mutb 80 r = false := fun _ => rfl
            have hvc := (RowT.fld hrow'.1).cells
            have hvi := (RowT.fld hrow'.1).isCell
            simp -implicitDefEqProofs only [Wa,Wb,Wc,Wd,We,Wf,Wg,Wh,Wi,Wj,Wk,Wl,Wm,Wn,Zo,Zp,evalT,Nat.reduceLT,Nat.reduceEqDiff,if_true,if_false,reduceIte,Ys,ofVal,ofCell,argT,resT,setT,Y0,Int.reduceEq,Int.reduceLT,Int.reduceLE,Int.reduceNeg,mb,Nat.reduceBEq,tys,stb,Va,storeList,Nat.reduceAdd,Nat.reduceLeDiff,tyj,vBin_xor,vBin_or,vBin_shl,vBin_shr,hP.t0,hP.t2,hP.t3,hP.t4,hP.t5,hP.t6,x1,y1,w1,d1,wp',hlen,c2',xa,ya,wa,ws,w3,xb,yb,wb,w4,w5,c3',c8,m8i]
            refine ⟨by kernel_rfl, ?_⟩
            refine G_win rfl [(false, []), (false, []), (false, []), (false, []), (false, []), (false, []), (false, []), (false, []), (false, []), (false, []), (true, []), (false, []), (true, [])] (fun m s0 => True) trivial (by kernel_rfl) (by kernel_rfl) ?_
            have wi : IntKind.i64.wrap ((i : Int) + 1) = ((i + 1 : Nat) : Int) := by rw [← i64w (n := i + 1) (by omega)]; congr 1
            simp -implicitDefEqProofs only [Wa,Wb,Wc,Wd,We,Wf,Wg,Wh,Wi,Wj,Wk,Wl,Wm,Wn,Zo,Zp,evalT,Nat.reduceLT,Nat.reduceEqDiff,if_true,if_false,reduceIte,Ys,ofVal,ofCell,argT,resT,setT,Y0,Int.reduceEq,Int.reduceLT,Int.reduceLE,Int.reduceNeg,mb,Nat.reduceBEq,tys,stb,Va,storeList,Nat.reduceAdd,Nat.reduceLeDiff,tyj,vBin_xor,vBin_or,vBin_shl,vBin_shr,hP.t0,hP.t2,hP.t3,hP.t4,hP.t5,hP.t6,GW_nil,GW_op,GWS_0,GWS_0n,GWS_1,GWS_1n,GWS_m,GWS_ite,GWS_nite,AllM_nil,AllM_cons,b1,w5,opT_slice,optO_none,optO_some,hS,hcv,opT_rowB,row53,m80,hA,hvc,hvi,wi]
            refine ⟨(p.getD 1 0).toNat - (i + 1), by omega, i + 1, pos + 2 + n, acc ++ [(p.drop (pos + 2)).take n], v', ⟨hP.t0, hP.t2, hP.t3, hP.t4, rfl, rfl, by omega, by omega, by rw [List.length_append, hP.len]; rfl, ?_, htk', hrow', ?_⟩, rfl⟩
            · simp only [hp]
              rw [List.set_append_right _ _ (by omega)]
              simp
            · rw [ho, Option.map_map, List.drop_drop]
              congr 1
              funext x
              simp
      · have d1 : ¬ (i : Int) < ((p.getD 1 0).toNat : Int) := by omega
        have hle := hP.le
        have hic : i = (p.getD 1 0).toNat := by omega
        rw [← hic, Nat.sub_self, fieldsR] at ho
        simp only [Option.map_some, List.append_nil] at ho
        have hpos : okP p = if p.drop pos = [] ∧ chkR ⟨((p.getD 0 0).toNat : Int), acc⟩ = 0 then some ⟨((p.getD 0 0).toNat : Int), acc⟩ else none := by
          unfold okP payR
          rw [if_neg c0, ← hic, ho]
          cases hd : p.drop pos with
          | nil => simp
          | cons a l => simp
        have hld0 : loadCellsV H 2 (.ptr (L.length + 1) 0) = some [.int .i64 ((p.getD 0 0).toNat : Int), fv] := by simp [loadCellsV, b1]
        have hfl := RowT.fld hP.row.1
        have hCk := rcheck_call (L := H) (ts := ts1) (r := ⟨((p.getD 0 0).toNat : Int), acc⟩) hfl (by show acc.length ≤ _; rw [hP.len]; omega)
        have bA : ∀ o, (H ++ [o])[L.length]? = some (.cells [.int .i64 0, .nilsl] 55) := fun o => by rw [List.getElem?_append_left (B.lt_get b0)]; exact b0
        by_cases c2 : pos = p.length
        · have c2' : (pos : Int) = (p.length : Int) := by omega
          have c2'' := eq_true c2'
          simp -implicitDefEqProofs only [Wa,Wb,Wc,Wd,We,Wf,Wg,Wh,Wi,Wj,Wk,Wl,Wm,Wn,Zo,Zp,evalT,Nat.reduceLT,Nat.reduceEqDiff,if_true,if_false,reduceIte,Ys,ofVal,ofCell,argT,resT,setT,Y0,Int.reduceEq,Int.reduceLT,Int.reduceLE,Int.reduceNeg,mb,Nat.reduceBEq,tys,stb,Va,storeList,Nat.reduceAdd,Nat.reduceLeDiff,tyj,vBin_xor,vBin_or,vBin_shl,vBin_shr,hP.t0,hP.t2,hP.t3,hP.t4,hP.t5,hP.t6,x1,y1,w1,d1]
          refine G_win rfl [(false, [1]), (false, []), (false, []), (false, []), (false, []), (false, []), (false, []), (true, []), (false, []), (false, []), (true, []), (false, [])] (fun m s0 => m ≤ 1 → s0.heap[L.length + 1]? = some (.cells [.int .i64 ((p.getD 0 0).toNat : Int), fv] 55)) (fun _ => b1) (by kernel_rfl) (by kernel_rfl) ?_
          simp -implicitDefEqProofs only [Wa,Wb,Wc,Wd,We,Wf,Wg,Wh,Wi,Wj,Wk,Wl,Wm,Wn,Zo,Zp,evalT,Nat.reduceLT,Nat.reduceEqDiff,if_true,if_false,reduceIte,Ys,ofVal,ofCell,argT,resT,setT,Y0,Int.reduceEq,Int.reduceLT,Int.reduceLE,Int.reduceNeg,mb,Nat.reduceBEq,tys,stb,Va,storeList,Nat.reduceAdd,Nat.reduceLeDiff,tyj,vBin_xor,vBin_or,vBin_shl,vBin_shr,hP.t0,hP.t2,hP.t3,hP.t4,hP.t5,hP.t6,GW_nil,GW_op,GW_run,GW_pass,GW_none,guardV,GWS_0,GWS_0n,GWS_1,GWS_1n,GWS_m,GWS_ite,GWS_nite,AllM_nil,AllM_cons,b1,hlen,c2'',agg55,hld0,hCk,bA,hfl.cells,hfl.isCell]
          have hdr : p.drop pos = [] := List.drop_of_length_le (by omega)
          refine ⟨⟨fun s0 e => ?_, trivial⟩, by rw [List.getElem?_append_left (B.lt_get b1)]; exact b1, rfl, fin80 (b := decide (chkR ⟨((p.getD 0 0).toNat : Int), acc⟩ = 0)) (by rw [List.getElem?_set_self (by have := B.lt_get b0; simp; omega)]) ((hK.trans (Keep.app H _)).setge (Nat.le_refl _) _) hP.tk hfl (by rw [hpos, hdr]; simp)⟩
          rw [aread_load]
          show aload env s0.heap 55 (T 4) = _
          rw [show T 4 = .ptr (L.length + 1) 0 from hP.t4, l55 e]
        · have c2' : ¬ (pos : Int) = (p.length : Int) := by omega
          have c2'' := eq_false c2'
          simp -implicitDefEqProofs only [Wa,Wb,Wc,Wd,We,Wf,Wg,Wh,Wi,Wj,Wk,Wl,Wm,Wn,Zo,Zp,evalT,Nat.reduceLT,Nat.reduceEqDiff,if_true,if_false,reduceIte,Ys,ofVal,ofCell,argT,resT,setT,Y0,Int.reduceEq,Int.reduceLT,Int.reduceLE,Int.reduceNeg,mb,Nat.reduceBEq,tys,stb,Va,storeList,Nat.reduceAdd,Nat.reduceLeDiff,tyj,vBin_xor,vBin_or,vBin_shl,vBin_shr,hP.t0,hP.t2,hP.t3,hP.t4,hP.t5,hP.t6,x1,y1,w1,d1]
          refine G_win rfl [(false, [1]), (false, []), (false, []), (false, []), (false, []), (false, []), (false, []), (true, []), (false, []), (false, []), (true, []), (false, [])] (fun m s0 => m ≤ 1 → s0.heap[L.length + 1]? = some (.cells [.int .i64 ((p.getD 0 0).toNat : Int), fv] 55)) (fun _ => b1) (by kernel_rfl) (by kernel_rfl) ?_
          simp -implicitDefEqProofs only [Wa,Wb,Wc,Wd,We,Wf,Wg,Wh,Wi,Wj,Wk,Wl,Wm,Wn,Zo,Zp,evalT,Nat.reduceLT,Nat.reduceEqDiff,if_true,if_false,reduceIte,Ys,ofVal,ofCell,argT,resT,setT,Y0,Int.reduceEq,Int.reduceLT,Int.reduceLE,Int.reduceNeg,mb,Nat.reduceBEq,tys,stb,Va,storeList,Nat.reduceAdd,Nat.reduceLeDiff,tyj,vBin_xor,vBin_or,vBin_shl,vBin_shr,hP.t0,hP.t2,hP.t3,hP.t4,hP.t5,hP.t6,GW_nil,GW_op,GW_run,GW_pass,GW_none,guardV,GWS_0,GWS_0n,GWS_1,GWS_1n,GWS_m,GWS_ite,GWS_nite,AllM_nil,AllM_cons,b1,hlen,c2'',agg55,hld0,b0,hfl.cells,hfl.isCell,Bool.not_true,Bool.not_false]
          have hdr : p.drop pos ≠ [] := fun e => by
            have := congrArg List.length e
            rw [List.length_drop] at this
            simp at this; omega
          refine ⟨⟨fun s0 e => ?_, trivial⟩, rfl, fin80 (b := false) (List.getElem?_set_self (B.lt_get b0)) (hK.setge (Nat.le_refl _) _) hP.tk hfl (by rw [hpos, if_neg (fun e => hdr e.1)]; rfl)⟩
          rw [aread_load]
          show aload env s0.heap 55 (T 4) = _
          rw [show T 4 = .ptr (L.length + 1) 0 from hP.t4, l55 e]
  obtain ⟨v, ⟨L', ts'⟩, h1, a, b, rfl, h2, h3, h4⟩ := hk
  exact ⟨a, b, L', ts', h1, h2, h3, h4⟩
theorem oneR_ok {t : List UInt8} : oneR t = if t.length < 8 then none else if t.length - 8 < numF (t.take 4) then none else
    match okP ((t.drop 4).take (numF (t.take 4))) with
    | none => none
    | some r => if (numF (((t.drop 4).drop (numF (t.take 4))).take 4) : Int) = sumF ((t.drop 4).take (numF (t.take 4))) then some (r, numF (t.take 4) + 8) else none := by
  unfold oneR
  generalize numF (t.take 4) = n
  simp only [List.length_drop]
  by_cases h8 : t.length < 8
  · rw [if_pos h8]
    by_cases h1 : t.length < 4
    · rw [if_pos h1]
    · rw [if_neg h1]
      by_cases h2 : t.length - 4 < n
      · rw [if_pos h2]
      · rw [if_neg h2, if_pos (by omega)]
  · rw [if_neg h8, if_neg (by omega)]
    by_cases h2 : t.length - 8 < n
    · rw [if_pos h2]
      by_cases h3 : t.length - 4 < n
      · rw [if_pos h3]
      · rw [if_neg h3, if_pos (by omega)]
    · rw [if_neg h2, if_neg (by omega), if_neg (by omega)]
      unfold okP
      cases payR ((t.drop 4).take n) with
      | none => rfl
      | some r =>
        by_cases hc : chkR r = 0
        · simp [hc]
        · simp [hc]
theorem rread_call {L : List AObj} {ts : List Nat} {y : V} {t : List UInt8} (hy : Rd L y t) (hl : t.length ≤ 2 ^ 30) :
    ∃ lv L' ts', callFn env (ev env) 66 [y] ⟨L, ts⟩ = some (.tup [lv, .int .i64 (readR t).2], ⟨L', ts'⟩) ∧ Keep L L' ∧ TK ts ts' ∧ RowR ts.length ts' lv (readR t).1 := by
  have hk : ∃ v σ', callFn env (ev env) 66 [y] ⟨L, ts⟩ = some (v, σ') ∧ ∃ lv, v = .tup [lv, .int .i64 (readR t).2] ∧ Keep L σ'.heap ∧ TK ts σ'.toks ∧ RowR ts.length σ'.toks lv (readR t).1 := by
    have hlen := hy.lenT 5
    have m66 : ∀ r, env.mutb 66 r = false := fun _ => rfl
    refine callFn_any rfl rfl at66 rfl (by simp [Tryd.f66]) (by simp [Tryd.f66]) (G_start ?_)
    simp -implicitDefEqProofs only [Tryd.f66,Wa,Wb,Wc,Wd,We,Wf,Wg,Wh,Wi,Wj,Wk,Wl,Wm,Wn,Zo,Zp,evalT,Nat.reduceLT,Nat.reduceEqDiff,if_true,if_false,reduceIte,Ys,ofVal,ofCell,argT,resT,setT,Y0,Int.reduceEq,Int.reduceLT,Int.reduceLE,Int.reduceNeg,mb,Nat.reduceBEq,tys,stb,Va,storeList,Nat.reduceAdd,Nat.reduceLeDiff,tyj,vBin_xor,vBin_or,vBin_shl,vBin_shr]
    refine loop_rule (fun m T D σ => D = [] ∧ T 0 = y ∧ ∃ (rs : List Rec) (used : Nat) (lv : V), T 2 = lv ∧ T 3 = .int .i64 used ∧ Keep L σ.heap ∧ TK ts σ.toks ∧ RowR ts.length σ.toks lv rs ∧ used ≤ t.length ∧ (t.drop used).length ≤ m ∧ rs.length ≤ used ∧ (readR t).1 = rs ++ (readN m (t.drop used)).1 ∧ (readR t).2 = used + (readN m (t.drop used)).2) ?_ t.length _ _ _ (by
      exact ⟨rfl, rfl, [], 0, .nilsl, rfl, rfl, Keep.refl _, TK.refl _, RowR.nil _ _, Nat.zero_le _, by simp, Nat.le_refl _, rfl, by rw [Nat.zero_add]; rfl⟩)
    rintro m T D ⟨H, ts1⟩ ⟨rfl, t0, rs, used, lv, t2, t3, hK, hT, hrow, hu, hpm, hru, e1, e2⟩
    simp only at hK hT hrow
    refine G_start ?_
    have hdl : (t.drop used).length = t.length - used := List.length_drop
    have w1 : IntKind.i64.wrap ((t.length : Int) - (used : Int)) = ((t.length - used : Nat) : Int) := by rw [B.wrap64 (by omega)]; omega
    have ho := oneR_ok (t := t.drop used)
    have stop : oneR (t.drop used) = none → (readN m (t.drop used)) = ([], 0) := fun h => by
      cases m with
      | zero => rfl
      | succ m => simp only [readN, h]
    have fin : oneR (t.drop used) = none → (readR t).1 = rs ∧ (readR t).2 = used := fun h => by
      rw [e1, e2, stop h]; simp
    by_cases c8 : t.length - used < 8
    · have d8 : ¬ ((8 : Int) ≤ ((t.length - used : Nat) : Int)) := by omega
      rw [if_pos (by omega)] at ho
      obtain ⟨f1, f2⟩ := fin ho
      simp -implicitDefEqProofs only [Wa,Wb,Wc,Wd,We,Wf,Wg,Wh,Wi,Wj,Wk,Wl,Wm,Wn,Zo,Zp,evalT,Nat.reduceLT,Nat.reduceEqDiff,if_true,if_false,reduceIte,Ys,ofVal,ofCell,argT,resT,setT,Y0,Int.reduceEq,Int.reduceLT,Int.reduceLE,Int.reduceNeg,mb,Nat.reduceBEq,tys,stb,Va,storeList,Nat.reduceAdd,Nat.reduceLeDiff,tyj,vBin_xor,vBin_or,vBin_shl,vBin_shr,t0,t2,t3,hlen,w1,d8]
      exact ⟨lv, by rw [f2]; rfl, hK, hT, by rw [f1]; exact hrow⟩
    · have d8 : ((8 : Int) ≤ ((t.length - used : Nat) : Int)) := by omega
      rw [if_neg (by omega)] at ho
      have hyH := hK.rd hy
      obtain ⟨y1, hS1, r1, _⟩ := hyH.cut (a := used) (b := t.length) (lo := some (.int .i64 used)) (hi := none) hu (Nat.le_refl _) (.inl rfl) (.inr ⟨rfl, rfl⟩)
      rw [List.take_length] at r1
      have hN := rnumber_call (ts := ts1) r1 (by omega)
      have hlt := numF_lt ((t.drop used).take 4)
      have hle4 : ((t.drop used).take 4).length = 4 := by rw [List.length_take]; omega
      rw [hle4] at hlt
      have w2 : IntKind.i64.wrap (((t.length - used : Nat) : Int) - 8) = ((t.length - used - 8 : Nat) : Int) := by rw [B.wrap64 (by omega)]; omega
      rw [hdl] at ho
      generalize hn : numF ((t.drop used).take 4) = n at ho hN hlt
      by_cases cn : t.length - used - 8 < n
      · have dn : ((t.length - used - 8 : Nat) : Int) < (n : Int) := by omega
        rw [if_pos cn] at ho
        obtain ⟨f1, f2⟩ := fin ho
        simp -implicitDefEqProofs only [Wa,Wb,Wc,Wd,We,Wf,Wg,Wh,Wi,Wj,Wk,Wl,Wm,Wn,Zo,Zp,evalT,Nat.reduceLT,Nat.reduceEqDiff,if_true,if_false,reduceIte,Ys,ofVal,ofCell,argT,resT,setT,Y0,Int.reduceEq,Int.reduceLT,Int.reduceLE,Int.reduceNeg,mb,Nat.reduceBEq,tys,stb,Va,storeList,Nat.reduceAdd,Nat.reduceLeDiff,tyj,vBin_xor,vBin_or,vBin_shl,vBin_shr,t0,t2,t3,hlen,w1,d8,opT_slice,optO_none,optO_some,hS1,hN,w2,dn]
        exact ⟨lv, by rw [f2]; rfl, hK, hT, by rw [f1]; exact hrow⟩
      · have dn : ¬ ((t.length - used - 8 : Nat) : Int) < (n : Int) := by omega
        rw [if_neg cn] at ho
        have w3 : IntKind.i64.wrap ((used : Int) + 4) = ((used + 4 : Nat) : Int) := by rw [B.wrap64 (by omega)]; omega
        have w4 : IntKind.i64.wrap (((used + 4 : Nat) : Int) + (n : Int)) = ((used + 4 + n : Nat) : Int) := by rw [B.wrap64 (by omega)]; omega
        obtain ⟨y2, hS2, r2, _⟩ := hyH.cut (a := used + 4) (b := used + 4 + n) (lo := some (.int .i64 ((used + 4 : Nat) : Int))) (hi := some (.int .i64 ((used + 4 + n : Nat) : Int))) (by omega) (by omega) (.inl rfl) (.inl rfl)
        have ebody : (t.take (used + 4 + n)).drop (used + 4) = ((t.drop used).drop 4).take n := by rw [List.drop_drop, List.drop_take]; congr 1; omega
        rw [ebody] at r2
        obtain ⟨a, b, H1, ts2, hP, hK1, hT1, ac, bc, ai, bi, hok⟩ := pay_call (ts := ts1) r2 (by rw [List.length_take, List.length_drop, List.length_drop]; omega)
        have hK2 := hK.trans hK1
        have z55 : zeroV env 55 = some (.agg [.int .i64 0, .nilsl]) := by kernel_rfl
        have qe : ∀ o : AObj, (H1 ++ [o])[H1.length]? = some o := fun o => by simp
        have qs : ∀ o o' : AObj, (H1 ++ [o]).set H1.length o' = H1 ++ [o'] := fun o o' => by simp
        have hab : (V.agg [a, b]).cells = [a, b] := rfl
        have hrow1 := hrow.tk hT1
        cases hO : okP (((t.drop used).drop 4).take n) with
        | none =>
          rw [hO] at ho hP
          simp only [Option.isSome_none] at ho hP
          obtain ⟨f1, f2⟩ := fin ho
          simp -implicitDefEqProofs only [Wa,Wb,Wc,Wd,We,Wf,Wg,Wh,Wi,Wj,Wk,Wl,Wm,Wn,Zo,Zp,evalT,Nat.reduceLT,Nat.reduceEqDiff,if_true,if_false,reduceIte,Ys,ofVal,ofCell,argT,resT,setT,Y0,Int.reduceEq,Int.reduceLT,Int.reduceLE,Int.reduceNeg,mb,Nat.reduceBEq,tys,stb,Va,storeList,Nat.reduceAdd,Nat.reduceLeDiff,tyj,vBin_xor,vBin_or,vBin_shl,vBin_shr,t0,t2,t3,hlen,w1,d8,opT_slice,optO_none,optO_some,hS1,hN,w2,dn,w3,w4,hS2,hP,z55,qe,qs,ai,bi]
          exact ⟨lv, by rw [f2]; rfl, hK2.trans (Keep.app _ _), hT.trans hT1, by rw [f1]; exact hrow1⟩
        | some r =>
          rw [hO] at ho hP
          simp only [Option.isSome_some] at ho hP
          obtain ⟨rfl, hf⟩ := hok r hO
          have hK3 := hK2.trans (Keep.app H1 [.cells [.int .i64 r.k, b] 55])
          obtain ⟨y3, hS3, r3, _⟩ := hyH.cut (a := used + 4 + n) (b := t.length) (lo := some (.int .i64 ((used + 4 + n : Nat) : Int))) (hi := none) (by omega) (Nat.le_refl _) (.inl rfl) (.inr ⟨rfl, rfl⟩)
          rw [List.take_length] at r3
          have er : t.drop (used + 4 + n) = ((t.drop used).drop 4).drop n := by rw [List.drop_drop, List.drop_drop]; congr 1; omega
          rw [er] at r3
          have hKH := hK1.trans (Keep.app H1 [.cells [.int .i64 r.k, b] 55])
          have hN3 := rnumber_call (ts := ts2) (hKH.rd r3) (by rw [List.length_drop, List.length_drop, List.length_drop]; omega)
          have hS4 := rsum_call (ts := ts2) (hKH.rd r2) (by rw [List.length_take, List.length_drop, List.length_drop]; omega)
          have hlt3 := numF_lt ((((t.drop used).drop 4).drop n).take 4)
          have hle43 : ((((t.drop used).drop 4).drop n).take 4).length = 4 := by rw [List.length_take, List.length_drop, List.length_drop, List.length_drop]; omega
          rw [hle43] at hlt3
          generalize numF ((((t.drop used).drop 4).drop n).take 4) = sm at ho hN3 hlt3
          have w5 : IntKind.u32.wrap (sm : Int) = (sm : Int) := wrap_u32 (by omega)
          by_cases ceq : (sm : Int) = sumF (((t.drop used).drop 4).take n)
          · rw [if_pos ceq] at ho
            rw [ceq] at w5 hN3
            obtain ⟨m, rfl⟩ : ∃ m', m = m' + 1 := ⟨m - 1, by omega⟩
            have hz : readN (m + 1) (t.drop used) = (r :: (readN m ((t.drop used).drop (n + 8))).1, n + 8 + (readN m ((t.drop used).drop (n + 8))).2) := by simp only [readN, ho]
            rw [hz] at e1 e2
            have ed : (t.drop used).drop (n + 8) = t.drop (used + 8 + n) := by rw [List.drop_drop]; congr 1; omega
            rw [ed] at e1 e2
            have q55 : aload env (H1 ++ [AObj.cells [.int .i64 r.k, b] 55]) 55 (.ptr H1.length 0) = some (.agg [.int .i64 r.k, b]) := l55 (by simp)
            have hr58 := row58 (.int .i64 r.k) b rfl hf.cells
            obtain ⟨v', ts3, happ, hrow3, a3, a4⟩ := app_rec (H := H1 ++ [AObj.cells [.int .i64 r.k, b] 55]) hrow1 (hT.trans hT1).1 hf (by omega)
            have w6 : IntKind.i64.wrap ((used : Int) + 8) = ((used + 8 : Nat) : Int) := by rw [B.wrap64 (by omega)]; omega
            have w7 : IntKind.i64.wrap (((used + 8 : Nat) : Int) + (n : Int)) = ((used + 8 + n : Nat) : Int) := by rw [B.wrap64 (by omega)]; omega
            simp -implicitDefEqProofs only [Wa,Wb,Wc,Wd,We,Wf,Wg,Wh,Wi,Wj,Wk,Wl,Wm,Wn,Zo,Zp,evalT,Nat.reduceLT,Nat.reduceEqDiff,if_true,if_false,reduceIte,Ys,ofVal,ofCell,argT,resT,setT,Y0,Int.reduceEq,Int.reduceLT,Int.reduceLE,Int.reduceNeg,mb,Nat.reduceBEq,tys,stb,Va,storeList,Nat.reduceAdd,Nat.reduceLeDiff,tyj,vBin_xor,vBin_or,vBin_shl,vBin_shr,t0,t2,t3,hlen,w1,d8,opT_slice,optO_none,optO_some,hS1,hN,w2,dn,w3,w4,hS2,hP,z55,qe,qs,ai,bi,hS3,hN3,w5,hS4,q55,opT_rowB,hr58,m66,happ,w6,w7]
            refine ⟨m, by omega, rs ++ [r], used + 8 + n, v', rfl, rfl, hK3, ⟨Nat.le_trans (hT.trans hT1).1 a3, fun k hk => by rw [a4 k hk, (hT.trans hT1).2 k hk]⟩, hrow3, by omega, by rw [List.length_drop]; omega, by rw [List.length_append, List.length_singleton]; omega, by rw [e1]; simp, by rw [e2]; simp only; omega⟩
          · rw [if_neg ceq] at ho
            obtain ⟨f1, f2⟩ := fin ho
            simp -implicitDefEqProofs only [Wa,Wb,Wc,Wd,We,Wf,Wg,Wh,Wi,Wj,Wk,Wl,Wm,Wn,Zo,Zp,evalT,Nat.reduceLT,Nat.reduceEqDiff,if_true,if_false,reduceIte,Ys,ofVal,ofCell,argT,resT,setT,Y0,Int.reduceEq,Int.reduceLT,Int.reduceLE,Int.reduceNeg,mb,Nat.reduceBEq,tys,stb,Va,storeList,Nat.reduceAdd,Nat.reduceLeDiff,tyj,vBin_xor,vBin_or,vBin_shl,vBin_shr,t0,t2,t3,hlen,w1,d8,opT_slice,optO_none,optO_some,hS1,hN,w2,dn,w3,w4,hS2,hP,z55,qe,qs,ai,bi,hS3,hN3,w5,hS4,ceq]
            exact ⟨lv, by rw [f2]; rfl, hK3, hT.trans hT1, by rw [f1]; exact hrow1⟩
  obtain ⟨v, ⟨L', ts'⟩, h1, lv, rfl, h2, h3, h4⟩ := hk
  exact ⟨lv, L', ts', h1, h2, h3, h4⟩
end Go.Proofs.YtncohjljeoknkaaDoor.D
namespace Go.Proofs.YtncohjljeoknkaaDoor.D
open Go.Ab
set_option maxHeartbeats 8000000
set_option maxRecDepth 100000
set_option linter.unusedSimpArgs false
set_option linter.unusedVariables false
theorem at64 : env.P.funcs[64]? = some Tryd.f64 := by kernel_rfl
theorem at65 : env.P.funcs[65]? = some Tryd.f65 := by kernel_rfl
theorem at77 : env.P.funcs[77]? = some Tryd.f77 := by kernel_rfl
theorem at78 : env.P.funcs[78]? = some Tryd.f78 := by kernel_rfl
theorem nil53 (c : Bool) : binO env 53 c .eql (some .nilsl) (some .nilsl) = some (.bool true) := by cases c <;> kernel_rfl
theorem row53n (c : Bool) (cs : List V) (n : Nat) (cap : RCap) : binO env 53 c .eql (some (.row cs n cap)) (some .nilsl) = some (.bool false) := by cases c <;> kernel_rfl
theorem nil58 (c : Bool) : binO env 58 c .eql (some .nilsl) (some .nilsl) = some (.bool true) := by cases c <;> kernel_rfl
theorem row58n (c : Bool) (cs : List V) (n : Nat) (cap : RCap) : binO env 58 c .eql (some (.row cs n cap)) (some .nilsl) = some (.bool false) := by cases c <;> kernel_rfl
theorem row53_0 : rowO env 53 0 [] = some (.row [] 0 .full) := by kernel_rfl
theorem row58_0 : rowO env 58 0 [] = some (.row [] 0 .full) := by kernel_rfl
theorem strs_cell : ∀ fs : List (List UInt8), (fs.map V.str).all V.isCell = true
  | [] => rfl
  | f :: fs => by simp only [List.map_cons, List.all_cons, strs_cell fs]; rfl
theorem cstr_call {L : List AObj} {ts : List Nat} {fv : V} {fs : List (List UInt8)} (h : Fld fv fs) (hl : fs.length ≤ 2 ^ 30) : ∃ fv' ts', callFn env (ev env) 78 [fv] ⟨L, ts⟩ = some (fv', ⟨L, ts'⟩) ∧ Fld fv' fs ∧ TK ts ts' := by
  have m78 : ∀ r, env.mutb 78 r = false := fun _ => rfl
  rcases h with ⟨rfl, rfl⟩ | ⟨cap, rfl⟩
  · refine ⟨.nilsl, ts, ?_, .inl ⟨rfl, rfl⟩, TK.refl _⟩
    refine callFn_eq rfl rfl at78 rfl (by simp [Tryd.f78]) (by simp [Tryd.f78]) (G_start ?_)
    simp -implicitDefEqProofs only [Tryd.f78,Wa,Wb,Wc,Wd,We,Wf,Wg,Wh,Wi,Wj,Wk,Wl,Wm,Wn,Zo,Zp,evalT,Nat.reduceLT,Nat.reduceEqDiff,if_true,if_false,reduceIte,Ys,ofVal,ofCell,argT,resT,setT,Y0,Int.reduceEq,Int.reduceLT,Int.reduceLE,Int.reduceNeg,mb,Nat.reduceBEq,tys,stb,Va,storeList,Nat.reduceAdd,Nat.reduceLeDiff,tyj,vBin_xor,vBin_or,vBin_shl,vBin_shr,nil53]
    exact ⟨rfl, trivial⟩
  · have hlim : (0 + fs.length) * 16 ≤ lim ∧ 0 + fs.length ≤ lim := by unfold lim; omega
    obtain ⟨v', ts', h1, h2, h3, h4, _⟩ := (RowN.full ts.length ts 1 0 [] rfl).append (E := env) (L := L) (y := .row (fs.map .str) fs.length cap) (m := fs.length) (new := fs.map .str) (nb := 16) (Nat.le_refl _) e53 s9 (by kernel_rfl) (by kernel_rfl) ⟨9, u53⟩ hlim rfl (by
      have : (fs.map V.str).take (fs.length * 1) = fs.map V.str := List.take_of_length_le (by simp)
      simp only [vCells, List.length_map, Nat.mul_one, Nat.le_refl, and_self, if_true] at this ⊢
      rw [this]) (by simp) (strs_cell fs)
    rw [Nat.zero_add, List.nil_append] at h2
    refine ⟨v', ts', ?_, ?_, h3, h4⟩
    · refine callFn_eq rfl rfl at78 rfl (by simp [Tryd.f78]) (by simp [Tryd.f78]) (G_start ?_)
      simp -implicitDefEqProofs only [Tryd.f78,Wa,Wb,Wc,Wd,We,Wf,Wg,Wh,Wi,Wj,Wk,Wl,Wm,Wn,Zo,Zp,evalT,Nat.reduceLT,Nat.reduceEqDiff,if_true,if_false,reduceIte,Ys,ofVal,ofCell,argT,resT,setT,Y0,Int.reduceEq,Int.reduceLT,Int.reduceLE,Int.reduceNeg,mb,Nat.reduceBEq,tys,stb,Va,storeList,Nat.reduceAdd,Nat.reduceLeDiff,tyj,vBin_xor,vBin_or,vBin_shl,vBin_shr,row53n,opT_rowB,row53_0,m78,h1]
      exact ⟨rfl, trivial⟩
    · rcases h2.1.or with ⟨rfl, h0, _⟩ | ⟨cap, rfl⟩
      · exact .inl ⟨rfl, List.eq_nil_of_length_eq_zero h0⟩
      · exact .inr ⟨cap, rfl⟩
def RowX (v : V) (rs : List Rec) : Prop := ∃ cs, RecC rs cs ∧ ((v = .nilsl ∧ rs = []) ∨ ∃ cap, v = .row cs rs.length cap)
theorem RowR.x {n0 : Nat} {ts : List Nat} {lv : V} {rs : List Rec} (h : RowR n0 ts lv rs) : RowX lv rs := by
  obtain ⟨cs, h1, h2⟩ := h
  refine ⟨cs, h2, ?_⟩
  rcases h1.1.or with ⟨rfl, h0, _⟩ | ⟨cap, rfl⟩
  · exact .inl ⟨rfl, List.eq_nil_of_length_eq_zero h0⟩
  · exact .inr ⟨cap, rfl⟩
def OutR (n0 : Nat) (L : List AObj) (u : V) (rs : List Rec) : Prop := (u = .nilsl ∧ rs = []) ∨ (u = .row [] 0 .full ∧ rs = []) ∨ ∃ b cs, u = .hsl b 0 rs.length rs.length (.grow 2) ∧ L[b]? = some (.cells cs 55) ∧ RecC rs cs ∧ n0 ≤ b
theorem OutR.rd {n0 : Nat} {L : List AObj} {u : V} {rs : List Rec} (h : OutR n0 L u rs) : RdR L u rs := by
  rcases h with ⟨rfl, rfl⟩ | ⟨rfl, rfl⟩ | ⟨b, cs, rfl, h1, h2, _⟩
  · exact ⟨[], RdS.nil L 2, rfl⟩
  · exact ⟨[], RdS.row L 2 [] 0 .full rfl, rfl⟩
  · have hl := h2.cell.2
    have := RdS.hsl (w := 2) (off := 0) (n := rs.length) (cap := rs.length) (ex := .grow 2) h1 (by omega)
    rw [List.drop_zero, List.take_of_length_le (by omega)] at this
    exact ⟨cs, this, h2⟩
theorem clrec_call {L : List AObj} {ts : List Nat} {v : V} {rs : List Rec} (h : RowX v rs) (hl : rs.length ≤ 2 ^ 30) : ∃ u L', callFn env (ev env) 77 [v] ⟨L, ts⟩ = some (u, ⟨L', ts⟩) ∧ Keep L L' ∧ OutR L.length L' u rs := by
  have m77 : ∀ r, env.mutb 77 r = true := fun _ => rfl
  obtain ⟨cs, hr, ⟨rfl, rfl⟩ | ⟨cap, rfl⟩⟩ := h
  · refine ⟨.nilsl, L, ?_, Keep.refl _, .inl ⟨rfl, rfl⟩⟩
    refine callFn_eq rfl rfl at77 rfl (by simp [Tryd.f77]) (by simp [Tryd.f77]) (G_start ?_)
    simp -implicitDefEqProofs only [Tryd.f77,Wa,Wb,Wc,Wd,We,Wf,Wg,Wh,Wi,Wj,Wk,Wl,Wm,Wn,Zo,Zp,evalT,Nat.reduceLT,Nat.reduceEqDiff,if_true,if_false,reduceIte,Ys,ofVal,ofCell,argT,resT,setT,Y0,Int.reduceEq,Int.reduceLT,Int.reduceLE,Int.reduceNeg,mb,Nat.reduceBEq,tys,stb,Va,storeList,Nat.reduceAdd,Nat.reduceLeDiff,tyj,vBin_xor,vBin_or,vBin_shl,vBin_shr,nil58]
    exact ⟨rfl, trivial⟩
  · have hcl := hr.cell
    have key : ∃ u L', appO env true ⟨L, ts⟩ 58 58 (.row [] 0 .full) (.row cs rs.length cap) = some (u, ⟨L', ts⟩) ∧ Keep L L' ∧ OutR L.length L' u rs := by
      have hlim : (0 + rs.length) * 32 ≤ lim ∧ 0 + rs.length ≤ lim := by unfold lim; omega
      have hb : bys env 55 = some 32 := by kernel_rfl
      have hz : zeroN env 55 = some 2 := by kernel_rfl
      have hvc : vCells L 2 rs.length (.row cs rs.length cap) = some cs := by
        simp only [vCells, hcl.2, Nat.le_refl, and_self, if_true]
        rw [List.take_of_length_le (Nat.le_of_eq hcl.2)]
      simp only [appO, e58, s55, hb, hz, u58, Option.bind_some, vLen, hvc, if_true]
      by_cases h0 : rs.length = 0
      · have : rs = [] := List.eq_nil_of_length_eq_zero h0
        subst this
        exact ⟨.row [] 0 .full, L, by simp [aappend], Keep.refl _, .inr (.inl ⟨rfl, rfl⟩)⟩
      · refine ⟨.hsl L.length 0 rs.length rs.length (.grow 2), L ++ [.cells cs 55], ?_, Keep.app _ _, .inr (.inr ⟨L.length, cs, rfl, by simp, hr, Nat.le_refl _⟩)⟩
        rw [Nat.zero_add] at hlim
        simp [aappend, h0, hlim, hcl.1, S.push]
    obtain ⟨u, L', h1, h2, h3⟩ := key
    refine ⟨u, L', ?_, h2, h3⟩
    refine callFn_eq rfl rfl at77 rfl (by simp [Tryd.f77]) (by simp [Tryd.f77]) (G_start ?_)
    simp -implicitDefEqProofs only [Tryd.f77,Wa,Wb,Wc,Wd,We,Wf,Wg,Wh,Wi,Wj,Wk,Wl,Wm,Wn,Zo,Zp,evalT,Nat.reduceLT,Nat.reduceEqDiff,if_true,if_false,reduceIte,Ys,ofVal,ofCell,argT,resT,setT,Y0,Int.reduceEq,Int.reduceLT,Int.reduceLE,Int.reduceNeg,mb,Nat.reduceBEq,tys,stb,Va,storeList,Nat.reduceAdd,Nat.reduceLeDiff,tyj,vBin_xor,vBin_or,vBin_shl,vBin_shr,row58n,opT_rowB,row58_0,m77,h1]
    exact ⟨rfl, trivial⟩
theorem RecC.put {rs : List Rec} {cs : List V} (h : RecC rs cs) {i : Nat} (hi : i < rs.length) {fv : V} (hf : Fld fv rs[i].fs) : RecC rs (storeList cs (i * 2 + 1) [fv]) := by
  induction rs generalizing cs i with
  | nil => simp at hi
  | cons a rs ih =>
    obtain ⟨gv, cs', rfl, h1, h2⟩ := h
    cases i with
    | zero => exact ⟨fv, cs', rfl, hf, h2⟩
    | succ i =>
      have := ih h2 (i := i) (by simpa using hi) hf
      refine ⟨gv, storeList cs' (i * 2 + 1) [fv], ?_, h1, this⟩
      rw [show (i + 1) * 2 + 1 = (i * 2 + 1) + 2 by omega]
      simp [storeList, List.take_succ_cons, Nat.add_right_comm]
theorem copied_call {L : List AObj} {ts : List Nat} {v : V} {rs : List Rec} (h : RowX v rs) (hl : rs.length ≤ 2 ^ 30) (hf : ∀ r ∈ rs, r.fs.length ≤ 2 ^ 30) :
    ∃ u L' ts', callFn env (ev env) 64 [v] ⟨L, ts⟩ = some (u, ⟨L', ts'⟩) ∧ Keep L L' ∧ TK ts ts' ∧ OutR L.length L' u rs := by
  obtain ⟨u, L1, hC, hK1, hO⟩ := clrec_call (L := L) (ts := ts) h hl
  have hk : ∃ w σ', callFn env (ev env) 64 [v] ⟨L, ts⟩ = some (w, σ') ∧ w = u ∧ Keep L σ'.heap ∧ TK ts σ'.toks ∧ OutR L.length σ'.heap u rs := by
    have lu := hO.rd.len 55
    refine callFn_any rfl rfl at64 rfl (by simp [Tryd.f64]) (by simp [Tryd.f64]) (G_start ?_)
    simp -implicitDefEqProofs only [Tryd.f64,Wa,Wb,Wc,Wd,We,Wf,Wg,Wh,Wi,Wj,Wk,Wl,Wm,Wn,Zo,Zp,evalT,Nat.reduceLT,Nat.reduceEqDiff,if_true,if_false,reduceIte,Ys,ofVal,ofCell,argT,resT,setT,Y0,Int.reduceEq,Int.reduceLT,Int.reduceLE,Int.reduceNeg,mb,Nat.reduceBEq,tys,stb,Va,storeList,Nat.reduceAdd,Nat.reduceLeDiff,tyj,vBin_xor,vBin_or,vBin_shl,vBin_shr,hC,lu]
    refine loop_rule (fun m T D σ => D = [] ∧ T 3 = u ∧ T 8 = u ∧ T 9 = .int .i64 rs.length ∧ ∃ i : Nat, T 10 = .int .i64 i ∧ i ≤ rs.length ∧ m = rs.length - i ∧ Keep L σ.heap ∧ TK ts σ.toks ∧ OutR L.length σ.heap u rs) ?_ rs.length _ _ _ ⟨rfl, rfl, rfl, rfl, 0, rfl, Nat.zero_le _, rfl, hK1, TK.refl _, hO⟩
    rintro m T D ⟨H, ts1⟩ ⟨rfl, t3, t8, t9, i, t10, hi, rfl, hK, hT, hH⟩
    simp only at hK hT hH
    refine G_start ?_
    by_cases hlt : i < rs.length
    · have c1 : (i : Int) < (rs.length : Int) := by omega
      have w1 : IntKind.wrap .i64 ((i : Int) + 1) = ((i + 1 : Nat) : Int) := by rw [B.wrap64 (by omega)]; omega
      rcases hH with ⟨rfl, rfl⟩ | ⟨rfl, rfl⟩ | ⟨b, cs, rfl, hb, hr, hnb⟩
      · simp at hlt
      · simp at hlt
      · obtain ⟨fv, e1, hfv⟩ := hr.get hlt
        have hcl := hr.cell.2
        have hbl := B.lt_get hb
        have hx : vIndexAddr 2 (.hsl b 0 rs.length rs.length (.grow 2)) (.int .i64 (i : Int)) = some (.ptr b (i * 2)) := by simp [vIndexAddr, hlt]
        have hld : loadCellsV H 2 (.ptr b (i * 2)) = some [.int .i64 rs[i].k, fv] := by simp [loadCellsV, hb, e1]; omega
        have z55 : zeroV env 55 = some (.agg [.int .i64 0, .nilsl]) := by kernel_rfl
        have qe : ∀ o : AObj, (H ++ [o])[H.length]? = some o := fun o => by simp
        have qs : ∀ o o' : AObj, (H ++ [o]).set H.length o' = H ++ [o'] := fun o o' => by simp
        obtain ⟨fv2, ts2, hS, hf2, hT2⟩ := cstr_call (L := H ++ [.cells [.int .i64 rs[i].k, fv] 55]) (ts := ts1) hfv (hf _ (List.getElem_mem hlt))
        have qb : ∀ o : AObj, (H ++ [o])[b]? = some (.cells cs 55) := fun o => by rw [List.getElem?_append_left hbl]; exact hb
        have hin : i * 2 + 1 + 1 ≤ cs.length := by omega
        simp -implicitDefEqProofs only [Wa,Wb,Wc,Wd,We,Wf,Wg,Wh,Wi,Wj,Wk,Wl,Wm,Wn,Zo,Zp,evalT,Nat.reduceLT,Nat.reduceEqDiff,if_true,if_false,reduceIte,Ys,ofVal,ofCell,argT,resT,setT,Y0,Int.reduceEq,Int.reduceLT,Int.reduceLE,Int.reduceNeg,mb,Nat.reduceBEq,tys,stb,Va,storeList,Nat.reduceAdd,Nat.reduceLeDiff,tyj,vBin_xor,vBin_or,vBin_shl,vBin_shr,t3,t8,t9,t10,c1,hx,agg55,hld,z55,qe,qs,hfv.cells,hfv.isCell,hS,qb,hf2.cells,hf2.isCell,hin,w1]
        exact ⟨rfl, rs.length - (i + 1), by omega, i + 1, rfl, by omega, rfl, (hK.trans (Keep.app H _)).setge hnb _, hT.trans hT2, .inr (.inr ⟨b, _, rfl, List.getElem?_set_self (by simp; omega), hr.put hlt hf2, hnb⟩)⟩
    · have c1 : ¬ (i : Int) < (rs.length : Int) := by omega
      simp -implicitDefEqProofs only [Wa,Wb,Wc,Wd,We,Wf,Wg,Wh,Wi,Wj,Wk,Wl,Wm,Wn,Zo,Zp,evalT,Nat.reduceLT,Nat.reduceEqDiff,if_true,if_false,reduceIte,Ys,ofVal,ofCell,argT,resT,setT,Y0,Int.reduceEq,Int.reduceLT,Int.reduceLE,Int.reduceNeg,mb,Nat.reduceBEq,tys,stb,Va,storeList,Nat.reduceAdd,Nat.reduceLeDiff,tyj,vBin_xor,vBin_or,vBin_shl,vBin_shr,t3,t8,t9,t10,c1]
      exact ⟨rfl, hK, hT, hH⟩
  obtain ⟨w, ⟨L', ts'⟩, h1, rfl, h2, h3, h4⟩ := hk
  exact ⟨_, L', ts', h1, h2, h3, h4⟩
end Go.Proofs.YtncohjljeoknkaaDoor.D
namespace Go.Proofs.YtncohjljeoknkaaDoor.D
open Go.Ab
set_option maxHeartbeats 4000000
set_option maxRecDepth 100000
set_option linter.unusedSimpArgs false
set_option linter.unusedVariables false
def RowAn (n0 : Nat) (ts : List Nat) (v : V) (s : List UInt8) : Prop := ∃ cap, v = .row (byteCells s) s.length cap ∧ ((cap = .full ∧ s = []) ∨ ∃ k e, cap = .tok k e 1 ∧ ts[k]? = some e ∧ n0 ≤ k)
theorem RowAn.b {n0 : Nat} {ts : List Nat} {v : V} {s : List UInt8} (h : RowAn n0 ts v s) : RowB v s := by
  obtain ⟨cap, rfl, _⟩ := h
  exact .inr ⟨cap, rfl⟩
theorem rowA0T (n0 : Nat) (ts : List Nat) : RowAn n0 ts (.row [] 0 .full) [] := ⟨.full, rfl, .inl ⟨rfl, rfl⟩⟩
theorem app_rowT {L : List AObj} {n0 : Nat} {ts : List Nat} {x y : V} {s t : List UInt8} (hx : RowAn n0 ts x s) (hn0 : n0 ≤ ts.length) (hy : Rd L y t) (hl : s.length + t.length ≤ 2 ^ 38) :
    ∃ x' ts', appO env false ⟨L, ts⟩ 26 26 x y = some (x', ⟨L, ts'⟩) ∧ RowAn n0 ts' x' (s ++ t) ∧ (n0 ≤ ts'.length ∧ ts.length ≤ ts'.length ∧ ∀ k, k < n0 → ts'[k]? = ts[k]?) := by
  have hc := hy.vcells
  have hlim : (s.length + t.length) * 1 ≤ lim ∧ s.length + t.length ≤ lim := by unfold lim; omega
  simp only [appO, e26, s5, b5, z5, u26, Option.bind_some, hy.len, hc, if_true]
  obtain ⟨cap, rfl, hcap⟩ := hx
  by_cases h0 : t.length = 0
  · have : t = [] := List.eq_nil_of_length_eq_zero h0
    subst this
    exact ⟨.row (byteCells s) s.length cap, ts, by simp [aappend], ⟨cap, by simp, by simpa using hcap⟩, hn0, Nat.le_refl _, fun _ _ => rfl⟩
  · have hcell := byteCells_cell s
    have hcell2 := byteCells_cell t
    rcases hcap with ⟨rfl, rfl⟩ | ⟨k, e, rfl, hk, hkn⟩
    · refine ⟨.row (byteCells t) t.length (.tok ts.length 0 1), ts ++ [0], ?_, ⟨_, rfl, .inr ⟨ts.length, 0, rfl, by simp, hn0⟩⟩, by simp; omega, by simp, fun k hk => by rw [List.getElem?_append_left (by omega)]⟩
      simp only [List.length_nil, Nat.zero_add] at hlim
      simp [aappend, h0, hlim, byteCells_len, hcell2, byteCells]
      exact fun x _ => rfl
    · refine ⟨.row (byteCells (s ++ t)) (s ++ t).length (.tok k (e + 1) 1), ts.set k (e + 1), ?_, ⟨_, rfl, .inr ⟨k, e + 1, rfl, by rw [List.getElem?_set_self (List.getElem?_eq_some_iff.1 hk).1], hkn⟩⟩, by simpa using hn0, by simp, fun k' hk' => by rw [List.getElem?_set_ne (by omega)]⟩
      simp [aappend, h0, hlim, byteCells_len, hcell2, hk, byteCells_app]
theorem tk1 {ts ts1 : List Nat} (q1 : ts.length ≤ ts1.length ∧ ts.length ≤ ts1.length ∧ ∀ k, k < ts.length → ts1[k]? = ts[k]?) : TK ts ts1 := ⟨q1.1, q1.2.2⟩
theorem tk2 {ts ts1 ts2 : List Nat} (q1 : ts.length ≤ ts1.length ∧ ts.length ≤ ts1.length ∧ ∀ k, k < ts.length → ts1[k]? = ts[k]?) (q2 : ts.length ≤ ts2.length ∧ ts1.length ≤ ts2.length ∧ ∀ k, k < ts.length → ts2[k]? = ts1[k]?) : TK ts ts2 := ⟨q2.1, fun k hk => by rw [q2.2.2 k hk, q1.2.2 k hk]⟩
section
variable {L : List AObj} {ts : List Nat} {o : Nat} {s : DS}
theorem rwr_callT {y : V} {t : List UInt8} (h : RefAt L o s) (hok : OkS s) (hy : Rd L y t) (hl : s.D.length + s.P.length + t.length ≤ 2 ^ 38) :
    ∃ L' ts', callFn env (ev env) 27 [.ptr o 0, y] ⟨L, ts⟩ = some (.int .i64 (wrS s t).2, ⟨L', ts'⟩) ∧ RefAt L' o (wrS s t).1 ∧ But o L L' ∧ TK ts ts' := by
  obtain ⟨dr, pr, hcell, hD, hP⟩ := h
  obtain ⟨ok1, ok2⟩ := hok
  have hol := B.lt_get hcell
  have hg : ∀ x, (L.set o x)[o]? = some x := fun x => List.getElem?_set_self hol
  obtain ⟨p1, ts1, hA1, r1, q1⟩ := app_rowT (rowA0T ts.length ts) (Nat.le_refl _) (hP.rd L) (by simp; omega)
  rw [List.nil_append] at r1
  unfold wrS
  cases hs : s.stop with
  | true =>
    rw [if_pos rfl]
    rw [hs] at hcell
    refine ⟨L, ts, ?_, ⟨dr, pr, by rw [hs]; exact hcell, hD, hP⟩, But.refl _ _, TK.refl _⟩
    refine callFn_eq rfl rfl at27 rfl (by simp [Tryd.f27]) (by simp [Tryd.f27]) (G_start ?_)
    simp -implicitDefEqProofs only [Tryd.f27,Wa,Wb,Wc,Wd,We,Wf,Wg,Wh,Wi,Wj,Wk,Wl,Wm,Wn,Zo,Zp,evalT,Nat.reduceLT,Nat.reduceEqDiff,if_true,if_false,reduceIte,Ys,ofVal,ofCell,argT,resT,setT,Y0,Int.reduceEq,Int.reduceLT,Int.reduceLE,Int.reduceNeg,mb,Nat.reduceBEq,tys,stb,Va,storeList,Nat.reduceAdd,Nat.reduceLeDiff,opT_nilCheck,nilO_ptr,hcell]
    exact ⟨rfl, trivial⟩
  | false =>
    rw [if_neg (by simp)]
    rw [hs] at hcell
    by_cases c1 : s.left = -1
    · rw [if_pos c1]
      obtain ⟨p2, ts2, hA2, r2, q2⟩ := app_rowT r1 q1.1 hy (by omega)
      have hcell' := hcell
      rw [c1] at hcell'
      refine ⟨L.set o (.cells [dr, p2, .int .i64 (-1), .bool false] 43), ts2, ?_, ⟨dr, p2, hg _, hD, r2.b⟩, But.set _ _ _, tk2 q1 q2⟩
      refine callFn_eq rfl rfl at27 rfl (by simp [Tryd.f27]) (by simp [Tryd.f27]) (G_start ?_)
      simp -implicitDefEqProofs only [Tryd.f27,Wa,Wb,Wc,Wd,We,Wf,Wg,Wh,Wi,Wj,Wk,Wl,Wm,Wn,Zo,Zp,evalT,Nat.reduceLT,Nat.reduceEqDiff,if_true,if_false,reduceIte,Ys,ofVal,ofCell,argT,resT,setT,Y0,Int.reduceEq,Int.reduceLT,Int.reduceLE,Int.reduceNeg,mb,Nat.reduceBEq,tys,stb,Va,storeList,Nat.reduceAdd,Nat.reduceLeDiff,opT_nilCheck,nilO_ptr,hcell',hg,opT_rowB,row0,hA1,hA2,(r2.b.rd L).cells,(r2.b.rd L).isCell]
      exact ⟨rfl, trivial⟩
    · rw [if_neg c1]
      have c0 : (0 : Int) ≤ s.left := by omega
      by_cases c2 : s.left < (t.length : Int)
      · rw [if_pos c2]
        have hk : ((s.left.toNat : Nat) : Int) = s.left := by omega
        obtain ⟨y', hsl, hy', hyb⟩ := hy.take (n := s.left.toNat) (by omega) (.inl rfl)
        rw [hk] at hsl
        obtain ⟨p2, ts2, hA2, r2, q2⟩ := app_rowT r1 q1.1 hy' (by rw [List.length_take]; omega)
        refine ⟨L.set o (.cells [dr, p2, .int .i64 0, .bool true] 43), ts2, ?_, ⟨dr, p2, hg _, hD, r2.b⟩, But.set _ _ _, tk2 q1 q2⟩
        refine callFn_eq rfl rfl at27 rfl (by simp [Tryd.f27]) (by simp [Tryd.f27]) (G_start ?_)
        simp -implicitDefEqProofs only [Tryd.f27,Wa,Wb,Wc,Wd,We,Wf,Wg,Wh,Wi,Wj,Wk,Wl,Wm,Wn,Zo,Zp,evalT,Nat.reduceLT,Nat.reduceEqDiff,if_true,if_false,reduceIte,Ys,ofVal,ofCell,argT,resT,setT,Y0,Int.reduceEq,Int.reduceLT,Int.reduceLE,Int.reduceNeg,mb,Nat.reduceBEq,tys,stb,opT_nilCheck,nilO_ptr,hcell,c0,c2,hy.lenT]
        refine G_late rfl (fun s0 => s0.heap[o]? = some (.cells [dr, pr, .int .i64 s.left, .bool false] 43)) 2 (fun _ => hcell) (by kernel_rfl) (by kernel_rfl) ?_
        simp -implicitDefEqProofs only [Wa,Wb,Wc,Wd,We,Wf,Wg,Wh,Wi,Wj,Wk,Wl,Wm,Wn,Zo,Zp,evalT,Nat.reduceLT,Nat.reduceEqDiff,if_true,if_false,reduceIte,Ys,ofVal,ofCell,argT,resT,setT,Y0,Int.reduceEq,Int.reduceLT,Int.reduceLE,Int.reduceNeg,mb,Nat.reduceBEq,tys,stb,Va,storeList,Nat.reduceAdd,Nat.reduceLeDiff,GM_nil,GM_op,GMS_some,GMS_none,GMS_ite,GMS_nite,opT_nilCheck,nilO_ptr,hcell,hg,opT_rowB,row0,hA1,hA2,opT_slice,optO_none,optO_some,hsl,(r2.b.rd L).cells,(r2.b.rd L).isCell,sc_app,sc_len,sc_min,sc_box,rd_box,sc_build,rd_build,sc_bs,rd_bs,sc_slice,rd_slice,sc_nil,rd_nil,sc_load,sc_move,sc_fieldAddr,rd_fieldAddr,sc_store,rd_store,rd_load,rd_move,rd_call,aread_load,rd_assign,sc_assign,List.set_set,cbool,ibool]
        exact ⟨fun s0 e => by rw [e]; rfl, fun s0 e => by rw [e]; rfl, rfl, rfl, trivial⟩
      · rw [if_neg c2]
        obtain ⟨p2, ts2, hA2, r2, q2⟩ := app_rowT r1 q1.1 hy (by omega)
        have hw : IntKind.wrap .i64 (s.left - (t.length : Int)) = s.left - t.length := B.wrap64 (by omega)
        refine ⟨L.set o (.cells [dr, p2, .int .i64 (s.left - t.length), .bool false] 43), ts2, ?_, ⟨dr, p2, hg _, hD, r2.b⟩, But.set _ _ _, tk2 q1 q2⟩
        refine callFn_eq rfl rfl at27 rfl (by simp [Tryd.f27]) (by simp [Tryd.f27]) (G_start ?_)
        simp -implicitDefEqProofs only [Tryd.f27,Wa,Wb,Wc,Wd,We,Wf,Wg,Wh,Wi,Wj,Wk,Wl,Wm,Wn,Zo,Zp,evalT,Nat.reduceLT,Nat.reduceEqDiff,if_true,if_false,reduceIte,Ys,ofVal,ofCell,argT,resT,setT,Y0,Int.reduceEq,Int.reduceLT,Int.reduceLE,Int.reduceNeg,mb,Nat.reduceBEq,tys,stb,Va,storeList,Nat.reduceAdd,Nat.reduceLeDiff,opT_nilCheck,nilO_ptr,hcell,c0,c2,hy.lenT,hg,opT_rowB,row0,hA1,hA2,(r2.b.rd L).cells,(r2.b.rd L).isCell,hw,List.set_set,cbool,ibool]
        exact ⟨rfl, rfl, trivial⟩
theorem rsync_callT (h : RefAt L o s) (hl : s.D.length + s.P.length ≤ 2 ^ 38) :
    ∃ L' ts', callFn env (ev env) 28 [.ptr o 0] ⟨L, ts⟩ = some (.int .i64 (syncS s).2, ⟨L', ts'⟩) ∧ RefAt L' o (syncS s).1 ∧ But o L L' ∧ TK ts ts' := by
  obtain ⟨dr, pr, hcell, hD, hP⟩ := h
  have hol := B.lt_get hcell
  have hg : ∀ x, (L.set o x)[o]? = some x := fun x => List.getElem?_set_self hol
  obtain ⟨p1, ts1, hA1, r1, q1⟩ := app_rowT (rowA0T ts.length ts) (Nat.le_refl _) (hD.rd L) (by simp; omega)
  rw [List.nil_append] at r1
  obtain ⟨p2, ts2, hA2, r2, q2⟩ := app_rowT r1 q1.1 (hP.rd L) (by omega)
  unfold syncS
  cases hs : s.stop with
  | true =>
    rw [if_pos rfl]
    rw [hs] at hcell
    refine ⟨L.set o (.cells [dr, pr, .int .i64 s.left, .bool true] 43), ts, ?_, ⟨dr, pr, by rw [hs]; exact hg _, hD, hP⟩, But.set _ _ _, TK.refl _⟩
    refine callFn_eq rfl rfl at28 rfl (by simp [Tryd.f28]) (by simp [Tryd.f28]) (G_start ?_)
    simp -implicitDefEqProofs only [Tryd.f28,Wa,Wb,Wc,Wd,We,Wf,Wg,Wh,Wi,Wj,Wk,Wl,Wm,Wn,Zo,Zp,evalT,Nat.reduceLT,Nat.reduceEqDiff,if_true,if_false,reduceIte,Ys,ofVal,ofCell,argT,resT,setT,Y0,Int.reduceEq,Int.reduceLT,Int.reduceLE,Int.reduceNeg,mb,Nat.reduceBEq,tys,stb,Va,storeList,Nat.reduceAdd,Nat.reduceLeDiff,opT_nilCheck,nilO_ptr,hcell,cbool,ibool]
    exact ⟨rfl, trivial⟩
  | false =>
    rw [if_neg (by simp)]
    rw [hs] at hcell
    by_cases c1 : s.left = 0
    · rw [if_pos c1]
      rw [c1] at hcell
      refine ⟨L.set o (.cells [dr, pr, .int .i64 0, .bool true] 43), ts, ?_, ⟨dr, pr, hg _, hD, hP⟩, But.set _ _ _, TK.refl _⟩
      refine callFn_eq rfl rfl at28 rfl (by simp [Tryd.f28]) (by simp [Tryd.f28]) (G_start ?_)
      simp -implicitDefEqProofs only [Tryd.f28,Wa,Wb,Wc,Wd,We,Wf,Wg,Wh,Wi,Wj,Wk,Wl,Wm,Wn,Zo,Zp,evalT,Nat.reduceLT,Nat.reduceEqDiff,if_true,if_false,reduceIte,Ys,ofVal,ofCell,argT,resT,setT,Y0,Int.reduceEq,Int.reduceLT,Int.reduceLE,Int.reduceNeg,mb,Nat.reduceBEq,tys,stb,Va,storeList,Nat.reduceAdd,Nat.reduceLeDiff,opT_nilCheck,nilO_ptr,hcell,cbool,ibool]
      exact ⟨rfl, trivial⟩
    · rw [if_neg c1]
      have c1' := eq_false c1
      refine ⟨L.set o (.cells [p2, .nilsl, .int .i64 s.left, .bool false] 43), ts2, ?_, ⟨p2, .nilsl, hg _, r2.b, .inl ⟨rfl, rfl⟩⟩, But.set _ _ _, tk2 q1 q2⟩
      refine callFn_eq rfl rfl at28 rfl (by simp [Tryd.f28]) (by simp [Tryd.f28]) (G_start ?_)
      simp -implicitDefEqProofs only [Tryd.f28,Wa,Wb,Wc,Wd,We,Wf,Wg,Wh,Wi,Wj,Wk,Wl,Wm,Wn,Zo,Zp,evalT,Nat.reduceLT,Nat.reduceEqDiff,if_true,if_false,reduceIte,Ys,ofVal,ofCell,argT,resT,setT,Y0,Int.reduceEq,Int.reduceLT,Int.reduceLE,Int.reduceNeg,mb,Nat.reduceBEq,tys,stb,opT_nilCheck,nilO_ptr,hcell,c1']
      refine G_late rfl (fun s0 => s0.heap[o]? = some (.cells [dr, pr, .int .i64 s.left, .bool false] 43)) 2 (fun _ => hcell) (by kernel_rfl) (by kernel_rfl) ?_
      simp -implicitDefEqProofs only [Wa,Wb,Wc,Wd,We,Wf,Wg,Wh,Wi,Wj,Wk,Wl,Wm,Wn,Zo,Zp,evalT,Nat.reduceLT,Nat.reduceEqDiff,if_true,if_false,reduceIte,Ys,ofVal,ofCell,argT,resT,setT,Y0,Int.reduceEq,Int.reduceLT,Int.reduceLE,Int.reduceNeg,mb,Nat.reduceBEq,tys,stb,Va,storeList,Nat.reduceAdd,Nat.reduceLeDiff,GM_nil,GM_op,GMS_some,GMS_none,GMS_ite,GMS_nite,sc_app,sc_len,sc_min,sc_box,rd_box,sc_build,rd_build,sc_bs,rd_bs,sc_slice,rd_slice,sc_nil,rd_nil,sc_load,sc_move,sc_fieldAddr,rd_fieldAddr,sc_store,rd_store,rd_load,rd_move,rd_call,aread_load,rd_assign,sc_assign,List.set_set,cbool,ibool,opT_nilCheck,nilO_ptr,opT_slice,optO_none,optO_some,opT_rowB,row0,hcell,hg,hA1,hA2,(r2.b.rd L).cells,(r2.b.rd L).isCell]
      exact ⟨fun s0 e => by rw [e]; rfl, fun s0 e => by rw [e]; rfl, rfl, rfl, trivial⟩
theorem rfuse_callT (n : Int) (h : RefAt L o s) :
    ∃ L' ts', callFn env (ev env) 29 [.ptr o 0, .int .i64 n] ⟨L, ts⟩ = some (.int .i64 (fuseS s n).2, ⟨L', ts'⟩) ∧ RefAt L' o (fuseS s n).1 ∧ But o L L' ∧ TK ts ts' := by
  obtain ⟨dr, pr, hcell, hD, hP⟩ := h
  have hol := B.lt_get hcell
  have hg : ∀ x, (L.set o x)[o]? = some x := fun x => List.getElem?_set_self hol
  unfold fuseS
  by_cases c0 : n < -1
  · rw [if_pos c0]
    refine ⟨L, ts, ?_, ⟨dr, pr, hcell, hD, hP⟩, But.refl _ _, TK.refl _⟩
    refine callFn_eq rfl rfl at29 rfl (by simp [Tryd.f29]) (by simp [Tryd.f29]) (G_start ?_)
    simp -implicitDefEqProofs only [Tryd.f29,Wa,Wb,Wc,Wd,We,Wf,Wg,Wh,Wi,Wj,Wk,Wl,Wm,Wn,Zo,Zp,evalT,Nat.reduceLT,Nat.reduceEqDiff,if_true,if_false,reduceIte,Ys,ofVal,ofCell,argT,resT,setT,Y0,Int.reduceEq,Int.reduceLT,Int.reduceLE,Int.reduceNeg,mb,Nat.reduceBEq,tys,stb,Va,storeList,Nat.reduceAdd,Nat.reduceLeDiff,c0]
    exact ⟨rfl, trivial⟩
  · rw [if_neg c0]
    cases hs : s.stop with
    | true =>
      rw [if_pos rfl]
      rw [hs] at hcell
      refine ⟨L, ts, ?_, ⟨dr, pr, by rw [hs]; exact hcell, hD, hP⟩, But.refl _ _, TK.refl _⟩
      refine callFn_eq rfl rfl at29 rfl (by simp [Tryd.f29]) (by simp [Tryd.f29]) (G_start ?_)
      simp -implicitDefEqProofs only [Tryd.f29,Wa,Wb,Wc,Wd,We,Wf,Wg,Wh,Wi,Wj,Wk,Wl,Wm,Wn,Zo,Zp,evalT,Nat.reduceLT,Nat.reduceEqDiff,if_true,if_false,reduceIte,Ys,ofVal,ofCell,argT,resT,setT,Y0,Int.reduceEq,Int.reduceLT,Int.reduceLE,Int.reduceNeg,mb,Nat.reduceBEq,tys,stb,Va,storeList,Nat.reduceAdd,Nat.reduceLeDiff,c0,opT_nilCheck,nilO_ptr,hcell]
      exact ⟨rfl, trivial⟩
    | false =>
      rw [if_neg (by simp)]
      rw [hs] at hcell
      refine ⟨L.set o (.cells [dr, pr, .int .i64 n, .bool false] 43), ts, ?_, ⟨dr, pr, hg _, hD, hP⟩, But.set _ _ _, TK.refl _⟩
      refine callFn_eq rfl rfl at29 rfl (by simp [Tryd.f29]) (by simp [Tryd.f29]) (G_start ?_)
      simp -implicitDefEqProofs only [Tryd.f29,Wa,Wb,Wc,Wd,We,Wf,Wg,Wh,Wi,Wj,Wk,Wl,Wm,Wn,Zo,Zp,evalT,Nat.reduceLT,Nat.reduceEqDiff,if_true,if_false,reduceIte,Ys,ofVal,ofCell,argT,resT,setT,Y0,Int.reduceEq,Int.reduceLT,Int.reduceLE,Int.reduceNeg,mb,Nat.reduceBEq,tys,stb,Va,storeList,Nat.reduceAdd,Nat.reduceLeDiff,c0,opT_nilCheck,nilO_ptr,hcell]
      exact ⟨rfl, rfl, trivial⟩
theorem rcrash_callT (k : Int) (h : RefAt L o s) (hl : s.D.length + s.P.length ≤ 2 ^ 38) :
    ∃ L' ts', callFn env (ev env) 30 [.ptr o 0, .int .i64 k] ⟨L, ts⟩ = some (.int .i64 (crashS s k).2, ⟨L', ts'⟩) ∧ RefAt L' o (crashS s k).1 ∧ But o L L' ∧ TK ts ts' := by
  obtain ⟨dr, pr, hcell, hD, hP⟩ := h
  have hol := B.lt_get hcell
  have hg : ∀ x, (L.set o x)[o]? = some x := fun x => List.getElem?_set_self hol
  unfold crashS
  by_cases c0 : k < 0
  · rw [if_pos c0]
    refine ⟨L, ts, ?_, ⟨dr, pr, hcell, hD, hP⟩, But.refl _ _, TK.refl _⟩
    refine callFn_eq rfl rfl at30 rfl (by simp [Tryd.f30]) (by simp [Tryd.f30]) (G_start ?_)
    simp -implicitDefEqProofs only [Tryd.f30,Wa,Wb,Wc,Wd,We,Wf,Wg,Wh,Wi,Wj,Wk,Wl,Wm,Wn,Zo,Zp,evalT,Nat.reduceLT,Nat.reduceEqDiff,if_true,if_false,reduceIte,Ys,ofVal,ofCell,argT,resT,setT,Y0,Int.reduceEq,Int.reduceLT,Int.reduceLE,Int.reduceNeg,mb,Nat.reduceBEq,tys,stb,Va,storeList,Nat.reduceAdd,Nat.reduceLeDiff,c0]
    exact ⟨rfl, trivial⟩
  · rw [if_neg c0]
    obtain ⟨p1, ts1, hA1, r1, q1⟩ := app_rowT (rowA0T ts.length ts) (Nat.le_refl _) (hD.rd L) (by simp; omega)
    rw [List.nil_append] at r1
    have hmin : ((min k.toNat s.P.length : Nat) : Int) = if (s.P.length : Int) < k then (s.P.length : Int) else k := by split <;> omega
    obtain ⟨y, hsl, hy, hyb⟩ := (hP.rd L).take (n := min k.toNat s.P.length) (by omega) (lo := none) (.inl rfl)
    rw [hmin] at hsl
    have et : s.P.take (min k.toNat s.P.length) = s.P.take k.toNat := by rw [List.take_eq_take_iff]; omega
    rw [et] at hy
    obtain ⟨p2, ts2, hA2, r2, q2⟩ := app_rowT r1 q1.1 hy (by rw [List.length_take]; omega)
    have lP := (hP.rd L).lenT 5
    refine ⟨L.set o (.cells [p2, .nilsl, .int .i64 (-1), .bool false] 43), ts2, ?_, ⟨p2, .nilsl, hg _, r2.b, .inl ⟨rfl, rfl⟩⟩, But.set _ _ _, tk2 q1 q2⟩
    refine callFn_eq rfl rfl at30 rfl (by simp [Tryd.f30]) (by simp [Tryd.f30]) (G_start ?_)
    simp -implicitDefEqProofs only [Tryd.f30,Wa,Wb,Wc,Wd,We,Wf,Wg,Wh,Wi,Wj,Wk,Wl,Wm,Wn,Zo,Zp,evalT,Nat.reduceLT,Nat.reduceEqDiff,if_true,if_false,reduceIte,Ys,ofVal,ofCell,argT,resT,setT,Y0,Int.reduceEq,Int.reduceLT,Int.reduceLE,Int.reduceNeg,mb,Nat.reduceBEq,tys,stb,c0]
    refine G_late rfl (fun s0 => s0.heap[o]? = some (.cells [dr, pr, .int .i64 s.left, .bool s.stop] 43)) 2 (fun _ => hcell) (by kernel_rfl) (by kernel_rfl) ?_
    simp -implicitDefEqProofs only [Wa,Wb,Wc,Wd,We,Wf,Wg,Wh,Wi,Wj,Wk,Wl,Wm,Wn,Zo,Zp,evalT,Nat.reduceLT,Nat.reduceEqDiff,if_true,if_false,reduceIte,Ys,ofVal,ofCell,argT,resT,setT,Y0,Int.reduceEq,Int.reduceLT,Int.reduceLE,Int.reduceNeg,mb,Nat.reduceBEq,tys,stb,Va,storeList,Nat.reduceAdd,Nat.reduceLeDiff,GM_nil,GM_op,GMS_some,GMS_none,GMS_ite,GMS_nite,sc_app,sc_len,sc_min,sc_box,rd_box,sc_build,rd_build,sc_bs,rd_bs,sc_slice,rd_slice,sc_nil,rd_nil,sc_load,sc_move,sc_fieldAddr,rd_fieldAddr,sc_store,rd_store,rd_load,rd_move,rd_call,aread_load,rd_assign,sc_assign,List.set_set,cbool,ibool,opT_nilCheck,nilO_ptr,opT_slice,optO_none,optO_some,opT_rowB,row0,hcell,hg,lP,hsl,hA1,hA2,(r2.b.rd L).cells,(r2.b.rd L).isCell]
    exact ⟨fun s0 e => by rw [e]; rfl, fun s0 e => by rw [e]; rfl, fun s0 e => by rw [e]; rfl, rfl, rfl, rfl, trivial⟩
theorem rcut_callT (n : Int) (h : RefAt L o s) (hl : s.D.length + s.P.length ≤ 2 ^ 38) :
    ∃ L' ts', callFn env (ev env) 31 [.ptr o 0, .int .i64 n] ⟨L, ts⟩ = some (.int .i64 (cutS s n).2, ⟨L', ts'⟩) ∧ RefAt L' o (cutS s n).1 ∧ But o L L' ∧ TK ts ts' := by
  obtain ⟨dr, pr, hcell, hD, hP⟩ := h
  have hol := B.lt_get hcell
  have hg : ∀ x, (L.set o x)[o]? = some x := fun x => List.getElem?_set_self hol
  have lP := (hP.rd L).lenT 5
  have lD := (hD.rd L).lenT 5
  unfold cutS
  cases hs : s.stop with
  | true =>
    rw [if_pos rfl]
    rw [hs] at hcell
    refine ⟨L, ts, ?_, ⟨dr, pr, by rw [hs]; exact hcell, hD, hP⟩, But.refl _ _, TK.refl _⟩
    refine callFn_eq rfl rfl at31 rfl (by simp [Tryd.f31]) (by simp [Tryd.f31]) (G_start ?_)
    simp -implicitDefEqProofs only [Tryd.f31,Wa,Wb,Wc,Wd,We,Wf,Wg,Wh,Wi,Wj,Wk,Wl,Wm,Wn,Zo,Zp,evalT,Nat.reduceLT,Nat.reduceEqDiff,if_true,if_false,reduceIte,Ys,ofVal,ofCell,argT,resT,setT,Y0,Int.reduceEq,Int.reduceLT,Int.reduceLE,Int.reduceNeg,mb,Nat.reduceBEq,tys,stb,Va,storeList,Nat.reduceAdd,Nat.reduceLeDiff,opT_nilCheck,nilO_ptr,hcell]
    exact ⟨rfl, trivial⟩
  | false =>
    rw [if_neg (by simp)]
    rw [hs] at hcell
    by_cases c1 : 0 < s.P.length
    · rw [if_pos c1]
      have c1' : (0 : Int) < (s.P.length : Int) := by omega
      refine ⟨L, ts, ?_, ⟨dr, pr, by rw [hs]; exact hcell, hD, hP⟩, But.refl _ _, TK.refl _⟩
      refine callFn_eq rfl rfl at31 rfl (by simp [Tryd.f31]) (by simp [Tryd.f31]) (G_start ?_)
      simp -implicitDefEqProofs only [Tryd.f31,Wa,Wb,Wc,Wd,We,Wf,Wg,Wh,Wi,Wj,Wk,Wl,Wm,Wn,Zo,Zp,evalT,Nat.reduceLT,Nat.reduceEqDiff,if_true,if_false,reduceIte,Ys,ofVal,ofCell,argT,resT,setT,Y0,Int.reduceEq,Int.reduceLT,Int.reduceLE,Int.reduceNeg,mb,Nat.reduceBEq,tys,stb,Va,storeList,Nat.reduceAdd,Nat.reduceLeDiff,opT_nilCheck,nilO_ptr,hcell,lP,c1']
      exact ⟨rfl, trivial⟩
    · rw [if_neg c1]
      have c1' : ¬ (0 : Int) < (s.P.length : Int) := by omega
      by_cases c2 : n < 0
      · rw [if_pos (.inl c2)]
        refine ⟨L, ts, ?_, ⟨dr, pr, by rw [hs]; exact hcell, hD, hP⟩, But.refl _ _, TK.refl _⟩
        refine callFn_eq rfl rfl at31 rfl (by simp [Tryd.f31]) (by simp [Tryd.f31]) (G_start ?_)
        simp -implicitDefEqProofs only [Tryd.f31,Wa,Wb,Wc,Wd,We,Wf,Wg,Wh,Wi,Wj,Wk,Wl,Wm,Wn,Zo,Zp,evalT,Nat.reduceLT,Nat.reduceEqDiff,if_true,if_false,reduceIte,Ys,ofVal,ofCell,argT,resT,setT,Y0,Int.reduceEq,Int.reduceLT,Int.reduceLE,Int.reduceNeg,mb,Nat.reduceBEq,tys,stb,Va,storeList,Nat.reduceAdd,Nat.reduceLeDiff,opT_nilCheck,nilO_ptr,hcell,lP,c1',c2]
        exact ⟨rfl, trivial⟩
      · by_cases c3 : (s.D.length : Int) < n
        · rw [if_pos (.inr c3)]
          refine ⟨L, ts, ?_, ⟨dr, pr, by rw [hs]; exact hcell, hD, hP⟩, But.refl _ _, TK.refl _⟩
          refine callFn_eq rfl rfl at31 rfl (by simp [Tryd.f31]) (by simp [Tryd.f31]) (G_start ?_)
          simp -implicitDefEqProofs only [Tryd.f31,Wa,Wb,Wc,Wd,We,Wf,Wg,Wh,Wi,Wj,Wk,Wl,Wm,Wn,Zo,Zp,evalT,Nat.reduceLT,Nat.reduceEqDiff,if_true,if_false,reduceIte,Ys,ofVal,ofCell,argT,resT,setT,Y0,Int.reduceEq,Int.reduceLT,Int.reduceLE,Int.reduceNeg,mb,Nat.reduceBEq,tys,stb,Va,storeList,Nat.reduceAdd,Nat.reduceLeDiff,opT_nilCheck,nilO_ptr,hcell,lP,lD,c1',c2,c3]
          exact ⟨rfl, trivial⟩
        · rw [if_neg (by omega)]
          have hk : ((n.toNat : Nat) : Int) = n := by omega
          obtain ⟨y, hsl, hy, hyb⟩ := (hD.rd L).take (n := n.toNat) (by omega) (lo := none) (.inl rfl)
          rw [hk] at hsl
          obtain ⟨p1, ts1, hA1, r1, q1⟩ := app_rowT (rowA0T ts.length ts) (Nat.le_refl _) hy (by rw [List.length_take]; simp; omega)
          rw [List.nil_append] at r1
          refine ⟨L.set o (.cells [p1, pr, .int .i64 s.left, .bool false] 43), ts1, ?_, ⟨p1, pr, hg _, r1.b, hP⟩, But.set _ _ _, tk1 q1⟩
          refine callFn_eq rfl rfl at31 rfl (by simp [Tryd.f31]) (by simp [Tryd.f31]) (G_start ?_)
          simp -implicitDefEqProofs only [Tryd.f31,Wa,Wb,Wc,Wd,We,Wf,Wg,Wh,Wi,Wj,Wk,Wl,Wm,Wn,Zo,Zp,evalT,Nat.reduceLT,Nat.reduceEqDiff,if_true,if_false,reduceIte,Ys,ofVal,ofCell,argT,resT,setT,Y0,Int.reduceEq,Int.reduceLT,Int.reduceLE,Int.reduceNeg,mb,Nat.reduceBEq,tys,stb,Va,storeList,Nat.reduceAdd,Nat.reduceLeDiff,opT_nilCheck,nilO_ptr,hcell,lP,lD,c1',c2,c3,opT_slice,optO_none,optO_some,hsl,opT_rowB,row0,hA1,(r1.b.rd L).cells,(r1.b.rd L).isCell]
          exact ⟨rfl, trivial⟩
theorem rall_callT (h : RefAt L o s) (hl : s.D.length + s.P.length ≤ 2 ^ 38) :
    ∃ v ts', callFn env (ev env) 34 [.ptr o 0] ⟨L, ts⟩ = some (v, ⟨L, ts'⟩) ∧ RowB v (s.D ++ s.P) ∧ TK ts ts' := by
  obtain ⟨dr, pr, hcell, hD, hP⟩ := h
  obtain ⟨p1, ts1, hA1, r1, q1⟩ := app_rowT (rowA0T ts.length ts) (Nat.le_refl _) (hD.rd L) (by simp; omega)
  rw [List.nil_append] at r1
  obtain ⟨p2, ts2, hA2, r2, q2⟩ := app_rowT r1 q1.1 (hP.rd L) (by omega)
  refine ⟨p2, ts2, ?_, r2.b, tk2 q1 q2⟩
  refine callFn_eq rfl rfl at34 rfl (by simp [Tryd.f34]) (by simp [Tryd.f34]) (G_start ?_)
  simp -implicitDefEqProofs only [Tryd.f34,Wa,Wb,Wc,Wd,We,Wf,Wg,Wh,Wi,Wj,Wk,Wl,Wm,Wn,Zo,Zp,evalT,Nat.reduceLT,Nat.reduceEqDiff,if_true,if_false,reduceIte,Ys,ofVal,ofCell,argT,resT,setT,Y0,Int.reduceEq,Int.reduceLT,Int.reduceLE,Int.reduceNeg,mb,Nat.reduceBEq,tys,stb]
  refine G_late rfl (fun s0 => s0.heap[o]? = some (.cells [dr, pr, .int .i64 s.left, .bool s.stop] 43)) 3 (fun _ => hcell) (by kernel_rfl) (by kernel_rfl) ?_
  simp -implicitDefEqProofs only [Wa,Wb,Wc,Wd,We,Wf,Wg,Wh,Wi,Wj,Wk,Wl,Wm,Wn,Zo,Zp,evalT,Nat.reduceLT,Nat.reduceEqDiff,if_true,if_false,reduceIte,Ys,ofVal,ofCell,argT,resT,setT,Y0,Int.reduceEq,Int.reduceLT,Int.reduceLE,Int.reduceNeg,mb,Nat.reduceBEq,tys,stb,Va,storeList,Nat.reduceAdd,Nat.reduceLeDiff,GM_nil,GM_op,GMS_some,GMS_none,GMS_ite,GMS_nite,sc_app,sc_len,sc_min,sc_box,rd_box,sc_build,rd_build,sc_bs,rd_bs,sc_slice,rd_slice,sc_nil,rd_nil,sc_load,sc_move,sc_fieldAddr,rd_fieldAddr,sc_store,rd_store,rd_load,rd_move,rd_call,aread_load,rd_assign,sc_assign,List.set_set,cbool,ibool,opT_nilCheck,nilO_ptr,opT_slice,optO_none,optO_some,opT_rowB,row0,hcell,hA1,hA2]
  exact ⟨fun s0 e => by rw [e]; rfl, fun s0 e => by rw [e]; rfl, rfl, trivial⟩
end
end Go.Proofs.YtncohjljeoknkaaDoor.D
namespace Go.Proofs.YtncohjljeoknkaaDoor.D
open Go.Ab
set_option linter.unusedVariables false
set_option linter.unusedSimpArgs false
theorem numF_four (n : Nat) (h : n < 2 ^ 32) : numF (fourB n) = n := by
  simp only [numF, fourB, List.foldl_cons, List.foldl_nil, UInt8.toNat_ofNat']
  omega
theorem one_cut {r : Rec} (h : chkR r = 0) {c : Nat} (hc : c < (bytR r).length) : oneR ((bytR r).take c) = none := by
  obtain ⟨h1, h2, h3, h4, h5⟩ := chk0 h
  have hbl := bytR_len r
  have hl : ((bytR r).take c).length = c := by rw [List.length_take]; omega
  unfold oneR
  by_cases c4 : c < 4
  · rw [if_pos (by omega)]
  · rw [if_neg (by omega)]
    have e1 : ((bytR r).take c).take 4 = fourB (payN r.fs) := by
      rw [List.take_take, Nat.min_eq_left (by omega)]
      exact List.take_left' rfl
    rw [e1, numF_four _ (by omega)]
    by_cases c5 : c - 4 < payN r.fs
    · rw [if_pos (by rw [List.length_drop, hl]; exact c5)]
    · rw [if_neg (by rw [List.length_drop, hl]; exact c5), if_pos (by rw [List.length_drop, List.length_drop, hl]; omega)]
theorem one_nil : oneR [] = none := rfl
end Go.Proofs.YtncohjljeoknkaaDoor.D
namespace Go.Proofs.YtncohjljeoknkaaDoor.D
open Go.Ab
set_option maxHeartbeats 8000000
set_option maxRecDepth 100000
set_option linter.unusedSimpArgs false
set_option linter.unusedVariables false
theorem jawake_call (σ : S) : callFn env (ev env) 36 [] σ = some (.bool true, σ) := rfl
def tokOf : V → Option Nat
  | .row _ _ (.tok k _ _) => some k
  | _ => none
theorem RowT.appendF {E : Env} {L : List AObj} {ts : List Nat} {t ty ty2 : TypeId} {w n m nb : Nat} {v y : V} {cs new : List V} (h : RowT ts w v n cs) (he : elemS E ty = some t) (hs : sz E t = some w) (hz : zeroN E t = some w) (hb : bys E t = some nb) (hu : ∃ e2, E.P.underlying ty2 = some (.slice e2))
    (hlim : (n + m) * nb ≤ lim ∧ n + m ≤ lim) (hy : vLen y = some m) (hc : vCells L w m y = some new) (hnl : new.length = m * w) (hcell : new.all V.isCell = true) :
    ∃ v' ts', appO E false ⟨L, ts⟩ ty ty2 v y = some (v', ⟨L, ts'⟩) ∧ RowT ts' w v' (n + m) (cs ++ new) ∧ ts.length ≤ ts'.length ∧ (∀ k, tokOf v ≠ some k → k < ts.length → ts'[k]? = ts[k]?) ∧ (∀ k, tokOf v' = some k → tokOf v = some k ∨ ts.length ≤ k) := by
  obtain ⟨e2, hu⟩ := hu
  have hlen : (cs ++ new).length = (n + m) * w := by rw [List.length_append, h.1, hnl, Nat.add_mul]
  obtain ⟨hl, hcase⟩ := id h
  unfold appO
  simp only [he, hs, hb, hu, hz, hy, hc, Option.bind_some, if_true]
  by_cases h0 : m = 0
  · subst h0
    have hn : new = [] := List.eq_nil_of_length_eq_zero (by simpa using hnl)
    subst hn
    refine ⟨v, ts, ?_, by simpa using h, Nat.le_refl _, fun _ _ _ => rfl, fun _ h => .inl h⟩
    rcases hcase with ⟨rfl, rfl⟩ | ⟨cap, rfl, _⟩ <;> simp [aappend]
  · have new_tok : ∀ cells, cells.length = (n + m) * w → RowT (ts ++ [0]) w (.row cells (n + m) (.tok ts.length 0 w)) (n + m) cells ∧ ts.length ≤ (ts ++ [0]).length ∧ (∀ k, tokOf v ≠ some k → k < ts.length → (ts ++ [0])[k]? = ts[k]?) ∧ (∀ k, tokOf (.row cells (n + m) (.tok ts.length 0 w)) = some k → tokOf v = some k ∨ ts.length ≤ k) := fun cells hc =>
      ⟨⟨hc, .inr ⟨_, rfl, .inr ⟨ts.length, 0, rfl, by simp⟩⟩⟩, by simp, fun k _ hk => by rw [List.getElem?_append_left hk], fun k h => .inr (by simp only [tokOf, Option.some.injEq] at h; omega)⟩
    rcases hcase with ⟨rfl, rfl⟩ | ⟨cap, rfl, hcap⟩
    · have hx : cs = [] := List.eq_nil_of_length_eq_zero (by simpa using hl)
      subst hx
      obtain ⟨a1, a2, a3, a4⟩ := new_tok new (by simpa using hlen)
      simp only [Nat.zero_add] at hlim a1 a4
      refine ⟨.row new m (.tok ts.length 0 w), ts ++ [0], ?_, by simpa using a1, a2, a3, a4⟩
      simp [aappend, h0, hlim]
    · rcases hcap with rfl | ⟨k, e, rfl, hk⟩
      · obtain ⟨a1, a2, a3, a4⟩ := new_tok (cs ++ new) hlen
        refine ⟨.row (cs ++ new) (n + m) (.tok ts.length 0 w), ts ++ [0], ?_, a1, a2, a3, a4⟩
        simp only [aappend, h0, hlim, hl, hcell, and_self, if_true, if_false, Bool.false_eq_true]
      · refine ⟨.row (cs ++ new) (n + m) (.tok k (e + 1) w), ts.set k (e + 1), ?_, ⟨hlen, .inr ⟨_, rfl, .inr ⟨k, e + 1, rfl, by rw [List.getElem?_set_self (List.getElem?_eq_some_iff.1 hk).1]⟩⟩⟩, by simp, fun k' hk' _ => ?_, fun k' h => .inl h⟩
        · simp only [aappend, h0, hlim, hl, hcell, hk, and_self, if_true, if_false]
        · rw [List.getElem?_set_ne (fun e => hk' (by simp [tokOf, e]))]
theorem RowT.other {ts ts' : List Nat} {w n : Nat} {u : V} {cs : List V} (r : RowT ts w u n cs) (h : ∀ k, tokOf u = some k → k < ts.length → ts'[k]? = ts[k]?) : RowT ts' w u n cs := by
  obtain ⟨hl, h1 | ⟨cap, rfl, h2 | ⟨k, e, rfl, h3⟩⟩⟩ := r
  · exact ⟨hl, .inl h1⟩
  · exact ⟨hl, .inr ⟨cap, rfl, .inl h2⟩⟩
  · exact ⟨hl, .inr ⟨_, rfl, .inr ⟨k, e, rfl, by rw [h k rfl (List.getElem?_eq_some_iff.1 h3).1]; exact h3⟩⟩⟩
theorem RowT.tlt {ts : List Nat} {w n : Nat} {u : V} {cs : List V} (r : RowT ts w u n cs) {k : Nat} (h : tokOf u = some k) : k < ts.length := by
  obtain ⟨hl, ⟨rfl, _⟩ | ⟨cap, rfl, rfl | ⟨k', e, rfl, h3⟩⟩⟩ := r
  · cases h
  · cases h
  · simp only [tokOf, Option.some.injEq] at h
    subst h
    exact (List.getElem?_eq_some_iff.1 h3).1
structure Two (ts : List Nat) (a : V) (s : List UInt8) (b : V) (rs : List Rec) : Prop where
  ra : RowT ts 1 a s.length (byteCells s)
  rb : ∃ cs, RowT ts 2 b rs.length cs ∧ RecC rs cs
  ne : ∀ k, tokOf a = some k → tokOf b ≠ some k
theorem fts55 : fieldTs env.P 55 = some [3, 53] := by kernel_rfl
theorem flatS1 : ∀ s : List (List UInt8), (s.map fun x => [V.str x]).flatten = s.map V.str
  | [] => rfl
  | x :: s => by simp only [List.map_cons, List.flatten_cons, flatS1 s]; rfl
structure ARec where
  r : Rec
  fv : V
  ok : (fv = .nilsl ∧ r.fs = []) ∨ fv = .row (r.fs.map .str) r.fs.length .unk
  b : IntKind.i64.min ≤ r.k ∧ r.k ≤ IntKind.i64.max ∧ r.fs.length ≤ maxLen ∧ ∀ f ∈ r.fs, f.length ≤ maxLen
def ARec.cs (a : ARec) : List V := [.int .i64 a.r.k, a.fv]
theorem ARec.fld (a : ARec) : Fld a.fv a.r.fs := a.ok.imp id fun h => ⟨_, h⟩
theorem tyd_R {x : List V} {k : Nat} (h : Tyd env.P (k + 3) 55 x) : ∃ a : ARec, x = a.cs := by
  obtain ⟨a, r, rfl, ha, c, r3, rfl, hc, rfl⟩ := tyd_struct h fts55
  obtain ⟨n, rfl, hn1, hn2⟩ := tyd_int ha u3
  rcases tyd_slice hc u53 with h | ⟨vss, h, hl, _, ht⟩
  · subst h
    exact ⟨⟨⟨n, []⟩, .nilsl, .inl ⟨rfl, rfl⟩, hn1, hn2, by simp, by simp⟩, rfl⟩
  · obtain ⟨ss, rfl⟩ := tyd_map (f := fun s : {s : List UInt8 // s.length ≤ maxLen} => [V.str s.1]) (fun x hx => by
      obtain ⟨s, rfl, hs⟩ := tyd_str hx u9
      exact ⟨⟨s, hs⟩, rfl⟩) ht
    subst h
    have e : (ss.map fun s => [V.str s.1]).flatten = (ss.map (·.1)).map V.str := by rw [← flatS1, List.map_map]; rfl
    exact ⟨⟨⟨n, ss.map (·.1)⟩, _, .inr rfl, hn1, hn2, by simpa using hl, fun f hf => by obtain ⟨x, _, rfl⟩ := List.mem_map.1 hf; exact x.2⟩, by simp only [ARec.cs, e, List.length_map]; rfl⟩
end Go.Proofs.YtncohjljeoknkaaDoor.D
namespace Go.Proofs.YtncohjljeoknkaaDoor.D
open Go.Ab
set_option maxHeartbeats 8000000
set_option maxRecDepth 100000
set_option linter.unusedSimpArgs false
set_option linter.unusedVariables false
theorem at41 : env.P.funcs[41]? = some Tryd.f41 := by kernel_rfl
theorem at42 : env.P.funcs[42]? = some Tryd.f42 := by kernel_rfl
theorem at43 : env.P.funcs[43]? = some Tryd.f43 := by kernel_rfl
theorem at45 : env.P.funcs[45]? = some Tryd.f45 := by kernel_rfl
theorem ty70 : fldOff env 70 0 = some 0 ∧ fldOff env 70 1 = some 1 ∧ fldOff env 70 2 = some 2 ∧ (∀ h p, aload env h 22 p = (loadCellsV h 1 p).bind (·[0]?)) ∧ (∀ h p, aload env h 58 p = (loadCellsV h 1 p).bind (·[0]?)) :=
  ⟨by kernel_rfl, by kernel_rfl, by kernel_rfl, fun _ _ => aload_one (by kernel_rfl), fun _ _ => aload_one (by kernel_rfl)⟩
theorem neq63 (b o : Nat) (cc : Bool) : binO env 63 cc .eql (some (.ptr b o)) (some .nilptr) = some (.bool false) := by cases cc <;> kernel_rfl
theorem neq22 (b o : Nat) (cc : Bool) : binO env 22 cc .eql (some (.ptr b o)) (some .nilptr) = some (.bool false) := by cases cc <;> kernel_rfl
theorem none_call {L : List AObj} {ts : List Nat} {j d : Nat} {a b : V} (h : L[j]? = some (.cells [.ptr d 0, a, b] 70)) : callFn env (ev env) 65 [.ptr j 0] ⟨L, ts⟩ = some (.bool false, ⟨L, ts⟩) := by
  refine callFn_eq rfl rfl at65 rfl (by simp [Tryd.f65]) (by simp [Tryd.f65]) (G_start ?_)
  simp -implicitDefEqProofs only [Tryd.f65,Wa,Wb,Wc,Wd,We,Wf,Wg,Wh,Wi,Wj,Wk,Wl,Wm,Wn,Zo,Zp,evalT,Nat.reduceLT,Nat.reduceEqDiff,if_true,if_false,reduceIte,Ys,ofVal,ofCell,argT,resT,setT,Y0,Int.reduceEq,Int.reduceLT,Int.reduceLE,Int.reduceNeg,mb,Nat.reduceBEq,tys,stb,Va,storeList,Nat.reduceAdd,Nat.reduceLeDiff,tyj,vBin_xor,vBin_or,vBin_shl,vBin_shr,ty70,neq63,neq22,opT_nilCheck,nilO_ptr,h]
  exact ⟨rfl, trivial⟩
def TB (v v' : V) (ts ts' : List Nat) : Prop := ts.length ≤ ts'.length ∧ (∀ k, tokOf v ≠ some k → k < ts.length → ts'[k]? = ts[k]?) ∧ ∀ k, tokOf v' = some k → tokOf v = some k ∨ ts.length ≤ k
theorem TB.of {v : V} {ts ts' : List Nat} (h : TK ts ts') : TB v v ts ts' := ⟨h.1, fun k _ hk => h.2 k hk, fun k hk => .inl hk⟩
structure JS (L : List AObj) (ts : List Nat) (j d : Nat) (s : DS) (rs : List Rec) (n : Nat) (bv dv : V) (lr : Int) (lv : V) : Prop where
  dk : Dk L d s bv dv lr
  cell : L[j]? = some (.cells [.ptr d 0, lv, .int .i64 n] 70)
  sep : ¬ fp d bv dv j
  row : ∃ cs, RowT ts 2 lv rs.length cs ∧ RecC rs cs
theorem synced_call {L : List AObj} {ts : List Nat} {j d n : Nat} {s : DS} {rs : List Rec} {bv dv lv : V} {lr : Int} (h : JS L ts j d s rs n bv dv lr lv) : callFn env (ev env) 43 [.ptr j 0] ⟨L, ts⟩ = some (.int .i64 n, ⟨L, ts⟩) := by
  have hc := h.cell
  have hN := none_call (ts := ts) hc
  refine callFn_eq rfl rfl at43 rfl (by simp [Tryd.f43]) (by simp [Tryd.f43]) (G_start ?_)
  simp -implicitDefEqProofs only [Tryd.f43,Wa,Wb,Wc,Wd,We,Wf,Wg,Wh,Wi,Wj,Wk,Wl,Wm,Wn,Zo,Zp,evalT,Nat.reduceLT,Nat.reduceEqDiff,if_true,if_false,reduceIte,Ys,ofVal,ofCell,argT,resT,setT,Y0,Int.reduceEq,Int.reduceLT,Int.reduceLE,Int.reduceNeg,mb,Nat.reduceBEq,tys,stb,Va,storeList,Nat.reduceAdd,Nat.reduceLeDiff,tyj,vBin_xor,vBin_or,vBin_shl,vBin_shr,ty70,hN,opT_nilCheck,nilO_ptr,hc]
  exact ⟨rfl, trivial⟩
theorem rowX_of {ts : List Nat} {lv : V} {rs : List Rec} (h : ∃ cs, RowT ts 2 lv rs.length cs ∧ RecC rs cs) : RowX lv rs := by
  obtain ⟨cs, h1, h2⟩ := h
  refine ⟨cs, h2, ?_⟩
  rcases h1.or with ⟨rfl, h0, _⟩ | ⟨cap, rfl⟩
  · exact .inl ⟨rfl, List.eq_nil_of_length_eq_zero h0⟩
  · exact .inr ⟨cap, rfl⟩
theorem records_call2 {L : List AObj} {ts : List Nat} {j d n : Nat} {s : DS} {rs : List Rec} {bv dv lv : V} {lr : Int} (h : JS L ts j d s rs n bv dv lr lv) (hl : rs.length ≤ 2 ^ 30) (hf : ∀ r ∈ rs, r.fs.length ≤ 2 ^ 30) :
    ∃ u L' ts', callFn env (ev env) 45 [.ptr j 0] ⟨L, ts⟩ = some (u, ⟨L', ts'⟩) ∧ Keep L L' ∧ TK ts ts' ∧ OutR L.length L' u rs := by
  have hc := h.cell
  have hN := none_call (ts := ts) hc
  obtain ⟨u, L', ts', h1, h2, h3, h4⟩ := copied_call (L := L) (ts := ts) (rowX_of h.row) hl hf
  refine ⟨u, L', ts', ?_, h2, h3, h4⟩
  refine callFn_eq rfl rfl at45 rfl (by simp [Tryd.f45]) (by simp [Tryd.f45]) (G_start ?_)
  simp -implicitDefEqProofs only [Tryd.f45,Wa,Wb,Wc,Wd,We,Wf,Wg,Wh,Wi,Wj,Wk,Wl,Wm,Wn,Zo,Zp,evalT,Nat.reduceLT,Nat.reduceEqDiff,if_true,if_false,reduceIte,Ys,ofVal,ofCell,argT,resT,setT,Y0,Int.reduceEq,Int.reduceLT,Int.reduceLE,Int.reduceNeg,mb,Nat.reduceBEq,tys,stb,Va,storeList,Nat.reduceAdd,Nat.reduceLeDiff,tyj,vBin_xor,vBin_or,vBin_shl,vBin_shr,ty70,hN,opT_nilCheck,nilO_ptr,hc,h1]
  exact ⟨rfl, trivial⟩
theorem Dk.mv {L L' : List AObj} {d : Nat} {s : DS} {bv dv : V} {lr : Int} (h : Dk L d s bv dv lr) (k : ∀ q, fp d bv dv q → L'[q]? = L[q]?) : Dk L' d s bv dv lr :=
  ⟨by rw [k d (.inl rfl)]; exact h.cell, h.buf.move fun q hq => k q (.inr (.inl hq)), h.dur.move fun q hq => k q (.inr (.inr hq)), h.bd, h.dd, h.bdv⟩
theorem Dk.flt {L : List AObj} {d : Nat} {s : DS} {bv dv : V} {lr : Int} (h : Dk L d s bv dv lr) {q : Nat} (hq : fp d bv dv q) : q < L.length := by
  rcases hq with rfl | hq | hq
  · exact B.lt_get h.cell
  · exact h.buf.rd.lt hq
  · exact h.dur.rd.lt hq
theorem jsync_call {L : List AObj} {ts : List Nat} {j d n : Nat} {s : DS} {rs : List Rec} {bv dv lv : V} {lr : Int} (h : JS L ts j d s rs n bv dv lr lv) (hl : s.D.length + s.P.length ≤ 2 ^ 38) :
    ∃ L' bv' dv' lr', callFn env (ev env) 42 [.ptr j 0] ⟨L, ts⟩ = some (.int .i64 (syncS s).2, ⟨L', ts⟩) ∧ JS L' ts j d (syncS s).1 rs (if (syncS s).2 = 0 then rs.length else n) bv' dv' lr' lv ∧ (∀ q, q < L.length → q ≠ j → ¬ fp d bv dv q → L'[q]? = L[q]?) ∧ L.length ≤ L'.length ∧ (∀ q, fp d bv' dv' q → fp d bv dv q ∨ L.length ≤ q) := by
  have hc := h.cell
  have hN := none_call (ts := ts) hc
  have hjl := B.lt_get hc
  obtain ⟨L1, bv', dv', lr', hS, hD, hSt⟩ := sync_call (ts := ts) h.dk hl
  have hc1 : L1[j]? = some (.cells [.ptr d 0, lv, .int .i64 n] 70) := by rw [hSt.2.1 j hjl h.sep]; exact hc
  have hsep : ¬ fp d bv' dv' j := fun hf => by
    rcases hSt.2.2 j hf with h' | h'
    · exact h.sep h'
    · omega
  have lrow : ∀ e, vLenT (some (.slice e)) lv = some (.int .i64 rs.length) := fun e => by
    obtain ⟨cs, h1, _⟩ := h.row
    exact h1.len e
  by_cases h0 : (syncS s).2 = 0
  · rw [if_pos h0]
    have hg : ∀ o, (L1.set j o)[j]? = some o := fun o => List.getElem?_set_self (by have := hSt.1; omega)
    refine ⟨L1.set j (.cells [.ptr d 0, lv, .int .i64 rs.length] 70), bv', dv', lr', ?_, ⟨?_, hg _, hsep, h.row⟩, fun q hq hqj hn => ?_, by rw [List.length_set]; exact hSt.1, hSt.2.2⟩
    · rw [h0] at hS ⊢
      refine callFn_eq rfl rfl at42 rfl (by simp [Tryd.f42]) (by simp [Tryd.f42]) (G_start ?_)
      simp -implicitDefEqProofs only [Tryd.f42,Wa,Wb,Wc,Wd,We,Wf,Wg,Wh,Wi,Wj,Wk,Wl,Wm,Wn,Zo,Zp,evalT,Nat.reduceLT,Nat.reduceEqDiff,if_true,if_false,reduceIte,Ys,ofVal,ofCell,argT,resT,setT,Y0,Int.reduceEq,Int.reduceLT,Int.reduceLE,Int.reduceNeg,mb,Nat.reduceBEq,tys,stb,Va,storeList,Nat.reduceAdd,Nat.reduceLeDiff,tyj,vBin_xor,vBin_or,vBin_shl,vBin_shr,ty70,hN,opT_nilCheck,nilO_ptr,hc,hS,hc1,lrow]
      exact ⟨rfl, rfl, trivial⟩
    · exact hD.mv fun q hq => by rw [List.getElem?_set_ne (fun e => hsep (by rw [e]; exact hq))]
    · rw [List.getElem?_set_ne (by omega)]; exact hSt.2.1 q hq hn
  · rw [if_neg h0]
    have h0' := eq_false h0
    refine ⟨L1, bv', dv', lr', ?_, ⟨hD, hc1, hsep, h.row⟩, fun q hq hqj hn => hSt.2.1 q hq hn, hSt.1, hSt.2.2⟩
    refine callFn_eq rfl rfl at42 rfl (by simp [Tryd.f42]) (by simp [Tryd.f42]) (G_start ?_)
    simp -implicitDefEqProofs only [Tryd.f42,Wa,Wb,Wc,Wd,We,Wf,Wg,Wh,Wi,Wj,Wk,Wl,Wm,Wn,Zo,Zp,evalT,Nat.reduceLT,Nat.reduceEqDiff,if_true,if_false,reduceIte,Ys,ofVal,ofCell,argT,resT,setT,Y0,Int.reduceEq,Int.reduceLT,Int.reduceLE,Int.reduceNeg,mb,Nat.reduceBEq,tys,stb,Va,storeList,Nat.reduceAdd,Nat.reduceLeDiff,tyj,vBin_xor,vBin_or,vBin_shl,vBin_shr,ty70,hN,opT_nilCheck,nilO_ptr,hc,hS,h0']
    exact ⟨rfl, trivial⟩
def appS (s : DS) (rs : List Rec) (r : Rec) : DS × Int × List Rec :=
  if chkR r = 0 then (if (wrS s (bytR r)).2 = 0 then ((wrS s (bytR r)).1, 0, rs ++ [r]) else ((wrS s (bytR r)).1, (wrS s (bytR r)).2, rs)) else (s, chkR r, rs)
theorem OutR.vc {n0 : Nat} {L : List AObj} {u : V} {rs : List Rec} (h : OutR n0 L u rs) : ∃ cs, RecC rs cs ∧ vLen u = some rs.length ∧ vCells L 2 rs.length u = some cs := by
  rcases h with ⟨rfl, rfl⟩ | ⟨rfl, rfl⟩ | ⟨b, cs, rfl, h1, h2, _⟩
  · exact ⟨[], rfl, rfl, rfl⟩
  · exact ⟨[], rfl, rfl, rfl⟩
  · have hl := h2.cell.2
    refine ⟨cs, h2, rfl, ?_⟩
    have ht : cs.take (rs.length * 2) = cs := List.take_of_length_le (by omega)
    simp [vCells, h1, hl, ht]
theorem RecC.app {rs qs : List Rec} {cs ds : List V} (h : RecC rs cs) (k : RecC qs ds) : RecC (rs ++ qs) (cs ++ ds) := by
  induction rs generalizing cs with
  | nil => simp only [RecC] at h; subst h; exact k
  | cons a rs ih =>
    obtain ⟨gv, cs', rfl, h1, h2⟩ := h
    exact ⟨gv, cs' ++ ds, rfl, h1, ih h2⟩
theorem jappend_call {L : List AObj} {ts : List Nat} {j d n : Nat} {s : DS} {rs : List Rec} {bv dv lv : V} {lr : Int} (h : JS L ts j d s rs n bv dv lr lv) (hok : OkS s) {r : Rec} {fv : V} (hf : Fld fv r.fs) (hfl : r.fs.length ≤ 2 ^ 30) (hrl : rs.length ≤ 2 ^ 29) (hl : s.D.length + s.P.length ≤ 2 ^ 37) :
    ∃ L' ts' bv' dv' lr' lv', callFn env (ev env) 41 [.ptr j 0, .agg [.int .i64 r.k, fv]] ⟨L, ts⟩ = some (.int .i64 (appS s rs r).2.1, ⟨L', ts'⟩) ∧ JS L' ts' j d (appS s rs r).1 (appS s rs r).2.2 n bv' dv' lr' lv' ∧ TB lv lv' ts ts' ∧ (∀ q, q < L.length → q ≠ j → ¬ fp d bv dv q → L'[q]? = L[q]?) ∧ L.length ≤ L'.length ∧ (∀ q, fp d bv' dv' q → fp d bv dv q ∨ L.length ≤ q) := by
  have hjl := B.lt_get h.cell
  have k0 := Keep.app L [.cells [.int .i64 r.k, fv] 55]
  have hc0 := k0.get h.cell
  have hN := none_call (ts := ts) hc0
  obtain ⟨x, L1, hB, hK1, hX⟩ := bytes_rec (L := L ++ [.cells [.int .i64 r.k, fv] 55]) (ts := ts) hf (by omega)
  have qe : loadCellsV (L ++ [AObj.cells [.int .i64 r.k, fv] 55]) 2 (.ptr L.length 0) = some [.int .i64 r.k, fv] := by simp [loadCellsV]
  have k1 := k0.trans hK1
  have hc1 := k1.get h.cell
  have hD1 := h.dk.keep k1
  have low : ∀ q, q < L.length → q ≠ j → ¬ fp d bv dv q → L1[q]? = L[q]? := fun q hq _ _ => k1.2 q hq
  unfold appS
  by_cases h0 : chkR r = 0
  · rw [if_pos h0] at hX
    simp only [h0, if_true]
    rw [h0] at hB
    have hbl := bytR_len r
    obtain ⟨_, _, _, _, h5⟩ := chk0 h0
    have hxd : blkOf x ≠ some d := fun e => by have e1 := hX.2 d e; have e2 := B.lt_get h.dk.cell; rw [List.length_append] at e1; omega
    obtain ⟨L2, bv2, dv2, lr2, hW, hD2, hS2⟩ := wr_call (ts := ts) hD1 hok hX.1.rd hxd (by omega)
    have hj2 : L2[j]? = some (.cells [.ptr d 0, lv, .int .i64 n] 70) := by rw [hS2.2.1 j (by have := k1.1; omega) h.sep]; exact hc1
    have hsep2 : ¬ fp d bv2 dv2 j := fun hf => by
      rcases hS2.2.2 j hf with h' | h'
      · exact h.sep h'
      · have := k1.1; omega
    have low2 : ∀ q, q < L.length → q ≠ j → ¬ fp d bv dv q → L2[q]? = L[q]? := fun q hq hj hn => by rw [hS2.2.1 q (by have := k1.1; omega) hn, k1.2 q hq]
    have len2 : L.length ≤ L2.length := Nat.le_trans k1.1 hS2.1
    have fp2 : ∀ q, fp d bv2 dv2 q → fp d bv dv q ∨ L.length ≤ q := fun q hq => (hS2.2.2 q hq).imp id fun h' => Nat.le_trans k1.1 h'
    by_cases hw : (wrS s (bytR r)).2 = 0
    · simp only [hw, if_true]
      rw [hw] at hW
      have hbox1 : L1[L.length]? = some (.cells [.int .i64 r.k, fv] 55) := hK1.get (by simp)
      have hbox2 : L2[L.length]? = some (.cells [.int .i64 r.k, fv] 55) := by rw [hS2.2.1 L.length (B.lt_get hbox1) (fun hfp => by have := h.dk.flt hfp; omega)]; exact hbox1
      have hr58 := row58 (.int .i64 r.k) fv rfl hf.cells
      obtain ⟨u, L3, ts3, hC, hK3, hT3, hO⟩ := copied_call (L := L2) (ts := ts) (v := .row [.int .i64 r.k, fv] 1 .full) (rs := [r]) ⟨[.int .i64 r.k, fv], ⟨fv, [], rfl, hf, rfl⟩, .inr ⟨.full, rfl⟩⟩ (by simp) (fun q hq => by rw [List.mem_singleton.1 hq]; exact hfl)
      obtain ⟨cs, hr1, hr2⟩ := h.row
      obtain ⟨ds, hu1, hu2, hu3⟩ := hO.vc
      have hlim : (rs.length + [r].length) * 32 ≤ lim ∧ rs.length + [r].length ≤ lim := by unfold lim; simp; omega
      obtain ⟨lv', ts4, hA, hrow4, a3, a4, a5⟩ := RowT.appendF (E := env) (L := L3) (hT3.row hr1) (y := u) (m := [r].length) (new := ds) (nb := 32) e58 s55 (by kernel_rfl) (by kernel_rfl) ⟨55, u58⟩ hlim hu2 hu3 hu1.cell.2 hu1.cell.1
      have hj3 := hK3.get hj2
      have hj3l := B.lt_get hj3
      have hg : ∀ o, (L3.set j o)[j]? = some o := fun o => List.getElem?_set_self hj3l
      have hld2 : loadCellsV L2 2 (.ptr L.length 0) = some [.int .i64 r.k, fv] := by simp [loadCellsV, hbox2]
      have lvc := hrow4.cells
      have m41 : ∀ r, env.mutb 41 r = false := fun _ => rfl
      refine ⟨L3.set j (.cells [.ptr d 0, lv', .int .i64 n] 70), ts4, bv2, dv2, lr2, lv', ?_, ⟨?_, hg _, hsep2, ⟨cs ++ ds, by rw [List.length_append]; exact hrow4, hr2.app hu1⟩⟩, ⟨Nat.le_trans hT3.1 a3, fun k hk hlt => ?_, fun k hk => ?_⟩, fun q hq hqj hn => ?_, by rw [List.length_set]; exact Nat.le_trans len2 hK3.1, fp2⟩
      · refine callFn_eq rfl rfl at41 rfl (by simp [Tryd.f41]) (by simp [Tryd.f41]) (G_start ?_)
        simp -implicitDefEqProofs only [Tryd.f41,Wa,Wb,Wc,Wd,We,Wf,Wg,Wh,Wi,Wj,Wk,Wl,Wm,Wn,Zo,Zp,evalT,Nat.reduceLT,Nat.reduceEqDiff,if_true,if_false,reduceIte,Ys,ofVal,ofCell,argT,resT,setT,Y0,Int.reduceEq,Int.reduceLT,Int.reduceLE,Int.reduceNeg,mb,Nat.reduceBEq,tys,stb,Va,storeList,Nat.reduceAdd,Nat.reduceLeDiff,tyj,vBin_xor,vBin_or,vBin_shl,vBin_shr,ty70,hN,opT_nilCheck,nilO_ptr,hf.cells,hf.isCell,agg55,qe,hB,hc1,hW]
        refine G_win rfl [(false, []), (false, []), (false, []), (false, []), (false, [1]), (false, []), (false, []), (true, []), (true, []), (false, []), (false, []), (true, [])] (fun m s0 => m ≤ 1 → s0.heap[j]? = some (.cells [.ptr d 0, lv, .int .i64 n] 70)) (fun _ => hj2) (by kernel_rfl) (by kernel_rfl) ?_
        simp -implicitDefEqProofs only [Wa,Wb,Wc,Wd,We,Wf,Wg,Wh,Wi,Wj,Wk,Wl,Wm,Wn,Zo,Zp,evalT,Nat.reduceLT,Nat.reduceEqDiff,if_true,if_false,reduceIte,Ys,ofVal,ofCell,argT,resT,setT,Y0,Int.reduceEq,Int.reduceLT,Int.reduceLE,Int.reduceNeg,mb,Nat.reduceBEq,tys,stb,Va,storeList,Nat.reduceAdd,Nat.reduceLeDiff,tyj,vBin_xor,vBin_or,vBin_shl,vBin_shr,ty70,GW_nil,GW_op,GWS_0,GWS_0n,GWS_1,GWS_1n,GWS_m,GWS_ite,GWS_nite,AllM_nil,AllM_cons,aread_load,opT_nilCheck,nilO_ptr,agg55,hj2,hld2,opT_rowB,hr58,hC,m41,hA,hj3,lvc]
        exact ⟨⟨fun s0 e => by rw [e]; rfl, trivial⟩, rfl, trivial⟩
      · exact (hD2.keep hK3).mv fun q hq => by rw [List.getElem?_set_ne (fun e => hsep2 (by rw [e]; exact hq))]
      · rw [a4 k hk (Nat.lt_of_lt_of_le hlt hT3.1), hT3.2 k hlt]
      · rcases a5 k hk with e | e
        · exact .inl e
        · exact .inr (Nat.le_trans hT3.1 e)
      · rw [List.getElem?_set_ne (by omega), hK3.2 q (Nat.lt_of_lt_of_le hq len2)]; exact low2 q hq hqj hn
    · simp only [hw, if_false]
      have hw' := eq_false hw
      refine ⟨L2, ts, bv2, dv2, lr2, lv, ?_, ⟨hD2, hj2, hsep2, h.row⟩, TB.of (TK.refl _), low2, len2, fp2⟩
      refine callFn_eq rfl rfl at41 rfl (by simp [Tryd.f41]) (by simp [Tryd.f41]) (G_start ?_)
      simp -implicitDefEqProofs only [Tryd.f41,Wa,Wb,Wc,Wd,We,Wf,Wg,Wh,Wi,Wj,Wk,Wl,Wm,Wn,Zo,Zp,evalT,Nat.reduceLT,Nat.reduceEqDiff,if_true,if_false,reduceIte,Ys,ofVal,ofCell,argT,resT,setT,Y0,Int.reduceEq,Int.reduceLT,Int.reduceLE,Int.reduceNeg,mb,Nat.reduceBEq,tys,stb,Va,storeList,Nat.reduceAdd,Nat.reduceLeDiff,tyj,vBin_xor,vBin_or,vBin_shl,vBin_shr,ty70,hN,opT_nilCheck,nilO_ptr,hf.cells,hf.isCell,agg55,qe,hB,hc1,hW,hw']
      exact ⟨rfl, trivial⟩
  · simp only [h0, if_false]
    have h0' := eq_false h0
    refine ⟨L1, ts, bv, dv, lr, lv, ?_, ⟨hD1, hc1, h.sep, h.row⟩, TB.of (TK.refl _), low, k1.1, fun q hq => .inl hq⟩
    refine callFn_eq rfl rfl at41 rfl (by simp [Tryd.f41]) (by simp [Tryd.f41]) (G_start ?_)
    simp -implicitDefEqProofs only [Tryd.f41,Wa,Wb,Wc,Wd,We,Wf,Wg,Wh,Wi,Wj,Wk,Wl,Wm,Wn,Zo,Zp,evalT,Nat.reduceLT,Nat.reduceEqDiff,if_true,if_false,reduceIte,Ys,ofVal,ofCell,argT,resT,setT,Y0,Int.reduceEq,Int.reduceLT,Int.reduceLE,Int.reduceNeg,mb,Nat.reduceBEq,tys,stb,Va,storeList,Nat.reduceAdd,Nat.reduceLeDiff,tyj,vBin_xor,vBin_or,vBin_shl,vBin_shr,ty70,hN,opT_nilCheck,nilO_ptr,hf.cells,hf.isCell,agg55,qe,hB,h0']
    exact ⟨rfl, trivial⟩
end Go.Proofs.YtncohjljeoknkaaDoor.D
namespace Go.Proofs.YtncohjljeoknkaaDoor.D
open Go.Ab
set_option maxHeartbeats 8000000
set_option maxRecDepth 100000
set_option linter.unusedSimpArgs false
set_option linter.unusedVariables false
theorem at40 : env.P.funcs[40]? = some Tryd.f40 := by kernel_rfl
theorem bd70 (d : Nat) (lv : V) (n : Int) (hv : lv.cells = [lv]) : buildO env 70 [(0, .ptr d 0), (1, lv), (2, .int .i64 n)] = some (.agg [.ptr d 0, lv, .int .i64 n]) := by
  have z : zeroV env 70 = some (.agg [.nilptr, .nilsl, .int .i64 0]) := by kernel_rfl
  obtain ⟨pl, hp, h0, h1, h2⟩ : ∃ pl, placesOf env 70 = some pl ∧ pl 0 = some (0, 1) ∧ pl 1 = some (1, 1) ∧ pl 2 = some (2, 1) := ⟨_, rfl, by kernel_rfl, by kernel_rfl, by kernel_rfl⟩
  have hpc : (V.ptr d 0).cells = [.ptr d 0] := rfl
  unfold buildO
  simp [z, hp, vFill, h0, h1, h2, hv, YW, Y6, hpc]
theorem readN_len : ∀ (f : Nat) (t : List UInt8), t.length ≤ f → (readN f t).1.length ≤ t.length ∧ (readN f t).2 ≤ t.length
  | 0, t, _ => by simp [readN]
  | f + 1, t, hf => by
    unfold readN
    cases ho : oneR t with
    | none => simp
    | some x =>
      obtain ⟨r, n⟩ := x
      obtain ⟨h1, h2, _⟩ := oneR_le ho
      have ih := readN_len f (t.drop n) (by rw [List.length_drop]; omega)
      rw [List.length_drop] at ih
      simp only [List.length_cons]
      omega
theorem readN_ok : ∀ (f : Nat) (t : List UInt8), ∀ r ∈ (readN f t).1, chkR r = 0
  | 0, t, r, h => by simp [readN] at h
  | f + 1, t, r, h => by
    unfold readN at h
    cases ho : oneR t with
    | none => rw [ho] at h; simp at h
    | some x =>
      obtain ⟨r', n⟩ := x
      rw [ho] at h
      simp only [List.mem_cons] at h
      rcases h with rfl | h
      · exact (oneR_le ho).2.2
      · exact readN_ok f _ r h
theorem open_ok {L : List AObj} {ts : List Nat} {d : Nat} {s : DS} {bv dv : V} {lr : Int} (h : Dk L d s bv dv lr) (hst : s.stop = false) (hP : s.P = []) (hl : s.D.length ≤ 2 ^ 28) :
    ∃ L' ts' bv' dv' lr' j lv u, callFn env (ev env) 40 [.ptr d 0] ⟨L, ts⟩ = some (.tup [.ptr j 0, u, .int .i64 0], ⟨L', ts'⟩) ∧ JS L' ts' j d ⟨s.D.take (readR s.D).2, [], s.left, false⟩ (readR s.D).1 (readR s.D).1.length bv' dv' lr' lv ∧ OutR L.length L' u (readR s.D).1 ∧ TK ts ts' ∧ (∀ k, tokOf lv = some k → ts.length ≤ k) ∧
      (∀ q, q < L.length → ¬ fp d bv dv q → L'[q]? = L[q]?) ∧ L.length ≤ L'.length ∧ (∀ q, fp d bv' dv' q → fp d bv dv q ∨ L.length ≤ q) ∧ L.length ≤ j := by
  obtain ⟨D, P, left, stop⟩ := s
  simp only at hst hP hl
  subst hst hP
  have hcut1 : cutS ⟨D, [], left, false⟩ (D.length : Int) = (⟨D, [], left, false⟩, 0) := by
    unfold cutS; simp
  obtain ⟨hn1, hn2⟩ := readN_len D.length D (Nat.le_refl _)
  have hcut2 : cutS ⟨D, [], left, false⟩ ((readR D).2 : Int) = (⟨D.take (readR D).2, [], left, false⟩, 0) := by
    have h1 : (readR D).2 ≤ D.length := hn2
    unfold cutS
    simp; omega
  have hok : ∀ r ∈ (readR D).1, r.fs.length ≤ 2 ^ 30 := fun r hr => by have := (chk0 (readN_ok _ _ r hr)).2.2.1; omega
  obtain ⟨v1, L1, hD1, hO1, hK1, _⟩ := durable_call (ts := ts) h (by show D.length ≤ _; omega)
  have len1 := hO1.rd.lenT 5
  obtain ⟨L2, bv2, dv2, lr2, hC2, hDk2, hS2⟩ := cut_call (ts := ts) (D.length : Int) (h.keep hK1) (by show D.length + 0 ≤ _; omega)
  rw [hcut1] at hC2 hDk2
  obtain ⟨v3, L3, hD3, hO3, hK3, _⟩ := durable_call (ts := ts) hDk2 (by show D.length ≤ _; omega)
  obtain ⟨lv, L4, ts4, hR4, hK4, hT4, hrow4⟩ := read_call (ts := ts) hO3.rd (by show D.length ≤ _; omega)
  have hDk4 := (hDk2.keep hK3).keep hK4
  obtain ⟨L5, bv5, dv5, lr5, hC5, hDk5, hS5⟩ := cut_call (ts := ts4) ((readR D).2 : Int) hDk4 (by show D.length + 0 ≤ _; omega)
  rw [hcut2] at hC5 hDk5
  have hrowc := hrow4.cells
  have lenlv : ∀ e, vLenT (some (.slice e)) lv = some (.int .i64 (readR D).1.length) := fun e => by
    obtain ⟨cs, h1, _⟩ := hrow4
    exact h1.1.len e
  obtain ⟨u, L7, ts7, hC7, hK7, hT7, hO7⟩ := copied_call (L := L5 ++ [.cells [.ptr d 0, lv, .int .i64 (readR D).1.length] 70]) (ts := ts4) hrow4.x (by show (readN D.length D).1.length ≤ _; omega) hok
  have len12 : L.length ≤ L2.length := Nat.le_trans hK1.1 hS2.1
  have len24 : L2.length ≤ L4.length := Nat.le_trans hK3.1 hK4.1
  have len45 : L4.length ≤ L5.length := hS5.1
  have low : ∀ q, q < L.length → ¬ fp d bv dv q → L5[q]? = L[q]? := fun q hq hn => by
    have n2 : ¬ fp d bv2 dv2 q := fun hf => by
      rcases hS2.2.2 q hf with h' | h'
      · exact hn h'
      · have := hK1.1; omega
    rw [hS5.2.1 q (by omega) n2, hK4.2 q (by have := hK3.1; omega), hK3.2 q (by omega), hS2.2.1 q (by have := hK1.1; omega) hn, hK1.2 q hq]
  have fpn : ∀ q, fp d bv5 dv5 q → fp d bv dv q ∨ L.length ≤ q := fun q hq => by
    rcases hS5.2.2 q hq with h' | h'
    · rcases hS2.2.2 q h' with h'' | h''
      · exact .inl h''
      · exact .inr (by have := hK1.1; omega)
    · exact .inr (by omega)
  have kb := Keep.app L5 [.cells [.ptr d 0, lv, .int .i64 (readR D).1.length] 70]
  have hj : L7[L5.length]? = some (.cells [.ptr d 0, lv, .int .i64 (readR D).1.length] 70) := hK7.get (by simp)
  have hsep : ¬ fp d bv5 dv5 L5.length := fun hf => by have := hDk5.flt hf; omega
  refine ⟨L7, ts7, bv5, dv5, lr5, L5.length, lv, u, ?_, ⟨(hDk5.keep kb).keep hK7, hj, hsep, ?_⟩, ?_, hT4.trans hT7, ?_, ?_, ?_, fpn, by omega⟩
  · have hb70 := bd70 d lv (readR D).1.length hrowc.1
    refine callFn_eq rfl rfl at40 rfl (by simp [Tryd.f40]) (by simp [Tryd.f40]) (G_start ?_)
    simp -implicitDefEqProofs only [Tryd.f40,Wa,Wb,Wc,Wd,We,Wf,Wg,Wh,Wi,Wj,Wk,Wl,Wm,Wn,Zo,Zp,evalT,Nat.reduceLT,Nat.reduceEqDiff,if_true,if_false,reduceIte,Ys,ofVal,ofCell,argT,resT,setT,Y0,Int.reduceEq,Int.reduceLT,Int.reduceLE,Int.reduceNeg,mb,Nat.reduceBEq,tys,stb,Va,storeList,Nat.reduceAdd,Nat.reduceLeDiff,tyj,vBin_xor,vBin_or,vBin_shl,vBin_shr,ty70,hD1,len1,hC2,hD3,hR4,hC5,lenlv,hb70,hrowc,hC7]
    exact ⟨rfl, trivial⟩
  · obtain ⟨cs, h1, h2⟩ := hrow4
    exact ⟨cs, hT7.row h1.1, h2⟩
  · rcases hO7 with h' | h' | ⟨b, cs, e1, e2, e3, e4⟩
    · exact .inl h'
    · exact .inr (.inl h')
    · exact .inr (.inr ⟨b, cs, e1, e2, e3, by simp at e4; omega⟩)
  · intro k hk
    obtain ⟨cs, ⟨h1, h2⟩, _⟩ := hrow4
    rcases h1.or with ⟨rfl, _, _⟩ | ⟨cap, rfl⟩
    · cases hk
    · cases cap with
      | tok k' e w => simp only [tokOf, Option.some.injEq] at hk; subst hk; exact h2 _ _ _ _ _ rfl
      | _ => cases hk
  · intro q hq hn
    rw [hK7.2 q (by simp; omega), kb.2 q (by omega)]
    exact low q hq hn
  · have := hK7.1; simp at this; omega
end Go.Proofs.YtncohjljeoknkaaDoor.D
namespace Go.Proofs.YtncohjljeoknkaaDoor.D
open Go.Ab
set_option maxHeartbeats 8000000
set_option maxRecDepth 100000
set_option linter.unusedSimpArgs false
set_option linter.unusedVariables false
theorem app_bytesN {L : List AObj} {tz ts : List Nat} {v y : V} {s t : List UInt8} (htk : TK tz ts) (h : RowN tz.length ts 1 v s.length (byteCells s)) (hy : Rd L y t) (hl : s.length + t.length ≤ 2 ^ 38) :
    ∃ v' ts', appO env false ⟨L, ts⟩ 26 26 v y = some (v', ⟨L, ts'⟩) ∧ RowN tz.length ts' 1 v' (s ++ t).length (byteCells (s ++ t)) ∧ TK tz ts' := by
  have hlim : (s.length + t.length) * 1 ≤ lim ∧ s.length + t.length ≤ lim := by unfold lim; omega
  obtain ⟨v', ts', h1, h2, h3, h4, _⟩ := h.append (E := env) (L := L) htk.1 e26 s5 z5 b5 ⟨5, u26⟩ hlim hy.vlen hy.vcells (by rw [byteCells_len]; omega) (byteCells_cell t)
  rw [← byteCells_app] at h2
  exact ⟨v', ts', h1, by rw [List.length_append]; exact h2, Nat.le_trans htk.1 h3, fun k hk => by rw [h4 k hk, htk.2 k hk]⟩
theorem bytes_refT {L : List AObj} {ts : List Nat} {r : Rec} {fv : V} (hf : Fld fv r.fs) (hl : r.fs.length ≤ 2 ^ 38) :
    ∃ v L' ts', callFn env (ev env) 68 [.agg [.int .i64 r.k, fv]] ⟨L, ts⟩ = some (.tup [v, .int .i64 (chkR r)], ⟨L', ts'⟩) ∧ Keep L L' ∧ TK ts ts' ∧ (if chkR r = 0 then RowT ts' 1 v (bytR r).length (byteCells (bytR r)) else v = .nilsl) := by
  have hlast : ∀ o, (L ++ [o])[L.length]? = some o := fun o => by simp
  have hld : ∀ (A : List AObj) (a b : V), A[L.length]? = some (.cells [a, b] 55) → loadCellsV A 2 (.ptr L.length 0) = some [a, b] := fun A a b h => by simp [loadCellsV, h]
  have hld0 := hld _ _ _ (hlast (.cells [.int .i64 r.k, fv] 55))
  have hC := rcheck_call (L := L ++ [.cells [.int .i64 r.k, fv] 55]) (ts := ts) hf hl
  have hK0 : Keep L (L ++ [.cells [.int .i64 r.k, fv] 55] ++ [.cells [.int .i64 r.k, fv] 55]) := (Keep.app L _).trans (Keep.app _ _)
  by_cases h0 : chkR r = 0
  · obtain ⟨k0, k1, k2, k3, k4⟩ := chk0 h0
    simp only [h0, if_true]
    rw [h0] at hC
    have hlen := hf.len 9
    have hbox : (L ++ [AObj.cells [.int .i64 r.k, fv] 55] ++ [.cells [.int .i64 r.k, fv] 55])[L.length]? = some (.cells [.int .i64 r.k, fv] 55) := by rw [List.append_assoc]; simp
    generalize (L ++ [AObj.cells [.int .i64 r.k, fv] 55] ++ [.cells [.int .i64 r.k, fv] 55]) = L1 at hC hK0 hbox
    have hkn : ((r.k.toNat : Nat) : Int) = r.k := by omega
    have hb0 : V.row [.int .u8 (IntKind.u8.wrap r.k), .int .u8 (IntKind.u8.wrap (r.fs.length : Int))] 2 .full = .row (byteCells [UInt8.ofNat r.k.toNat, UInt8.ofNat r.fs.length]) 2 .full := by
      rw [← hkn, byteV, byteV]; rfl
    have hpl := payB_len r
    have hpl2 : (payB r).length = 2 + (r.fs.flatMap fldB).length := by unfold payB; rw [List.length_append]; rfl
    obtain ⟨n1, n2⟩ := sumF_nat (payB r)
    have w94 : IntKind.u32.wrap (payN r.fs : Int) = (payN r.fs : Int) := wrap_u32 (by omega)
    have hk : ∃ v σ', callFn env (ev env) 68 [.agg [.int .i64 r.k, fv]] ⟨L, ts⟩ = some (v, σ') ∧ ∃ x ts', v = .tup [x, .int .i64 0] ∧ σ' = ⟨L1, ts'⟩ ∧ TK ts ts' ∧ RowT ts' 1 x (bytR r).length (byteCells (bytR r)) := by
      refine callFn_any rfl rfl at68 rfl (by simp [Tryd.f68]) (by simp [Tryd.f68]) (G_start ?_)
      simp -implicitDefEqProofs only [Tryd.f68,Wa,Wb,Wc,Wd,We,Wf,Wg,Wh,Wi,Wj,Wk,Wl,Wm,Wn,Zo,Zp,evalT,Nat.reduceLT,Nat.reduceEqDiff,if_true,if_false,reduceIte,Ys,ofVal,ofCell,argT,resT,setT,Y0,Int.reduceEq,Int.reduceLT,Int.reduceLE,Int.reduceNeg,mb,Nat.reduceBEq,tys,stb,Va,storeList,Nat.reduceAdd,Nat.reduceLeDiff,tyj,vBin_xor,vBin_or,vBin_shl,vBin_shr,agg55,hld0,hC,hbox,hlen,opT_rowB,row26_2,hb0]
      refine loop_rule (fun m T D σ => D = [] ∧ T 1 = .ptr L.length 0 ∧ ∃ (i : Nat) (x : V) (ts' : List Nat), i ≤ r.fs.length ∧ m = r.fs.length - i ∧ T 6 = .int .i64 i ∧ T 5 = x ∧ σ = ⟨L1, ts'⟩ ∧ TK ts ts' ∧ RowN ts.length ts' 1 x ([UInt8.ofNat r.k.toNat, UInt8.ofNat r.fs.length] ++ (r.fs.take i).flatMap fldB).length (byteCells ([UInt8.ofNat r.k.toNat, UInt8.ofNat r.fs.length] ++ (r.fs.take i).flatMap fldB))) ?_ r.fs.length _ _ _ ⟨rfl, rfl, 0, _, ts, by omega, rfl, rfl, rfl, rfl, TK.refl _, RowN.full ts.length ts 1 2 _ rfl⟩
      rintro m T D σ ⟨rfl, t1, i, x, ts1, hi, rfl, t6, t5, rfl, hT, hx⟩
      refine G_start ?_
      by_cases hlt : i < r.fs.length
      · have c1 : (i : Int) < (r.fs.length : Int) := by omega
        have w1 : IntKind.wrap .i64 ((i : Int) + 1) = ((i + 1 : Nat) : Int) := by rw [B.wrap64 (by omega)]; omega
        obtain ⟨pp, hp, hldf⟩ := hf.idx hlt L1
        have htk := take_fld r.fs i hlt
        have htl := flat_len r.fs (i + 1)
        rw [htk] at htl
        simp only [List.length_append] at htl
        obtain ⟨x2, ts2, hA1, hx2, hT2⟩ := app_bytesN hT hx (Rd.row L1 (twoB r.fs[i].length) .full) (by simp only [List.length_append, List.length_cons, List.length_nil]; omega)
        obtain ⟨x3, ts3, hA2, hx3, hT3⟩ := app_bytesN hT2 hx2 (Rd.row L1 r.fs[i] .unk) (by simp only [List.length_append, List.length_cons, List.length_nil]; omega)
        have htw := twoV r.fs[i].length
        have htwl : (twoB r.fs[i].length).length = 2 := rfl
        rw [htwl] at hA1
        simp -implicitDefEqProofs only [Wa,Wb,Wc,Wd,We,Wf,Wg,Wh,Wi,Wj,Wk,Wl,Wm,Wn,Zo,Zp,evalT,Nat.reduceLT,Nat.reduceEqDiff,if_true,if_false,reduceIte,Ys,ofVal,ofCell,argT,resT,setT,Y0,Int.reduceEq,Int.reduceLT,Int.reduceLE,Int.reduceNeg,mb,Nat.reduceBEq,tys,stb,Va,storeList,Nat.reduceAdd,Nat.reduceLeDiff,tyj,vBin_xor,vBin_or,vBin_shl,vBin_shr,t1,t6,t5,hbox,hlen,c1,hp,hldf,lenS]
        refine G_win rfl [(false, []), (false, []), (false, []), (false, []), (false, []), (false, []), (false, []), (true, []), (false, []), (false, [0]), (false, []), (false, []), (false, [0]), (false, []), (true, []), (false, [])] (fun m s0 => s0.heap = L1) rfl (by kernel_rfl) (by kernel_rfl) ?_
        simp -implicitDefEqProofs only [Wa,Wb,Wc,Wd,We,Wf,Wg,Wh,Wi,Wj,Wk,Wl,Wm,Wn,Zo,Zp,evalT,Nat.reduceLT,Nat.reduceEqDiff,if_true,if_false,reduceIte,Ys,ofVal,ofCell,argT,resT,setT,Y0,Int.reduceEq,Int.reduceLT,Int.reduceLE,Int.reduceNeg,mb,Nat.reduceBEq,tys,stb,Va,storeList,Nat.reduceAdd,Nat.reduceLeDiff,tyj,vBin_xor,vBin_or,vBin_shl,vBin_shr,t1,t6,t5,GW_nil,GW_op,GWS_0,GWS_0n,GWS_1,GWS_1n,GWS_m,GWS_ite,GWS_nite,AllM_nil,AllM_cons,hbox,hlen,c1,hp,hldf,lenS,w1,c8,m8i,mb68,opT_rowB,row26_2,htw,hA1,hA2,convB,aread_load]
        refine ⟨⟨fun s0 e => by rw [e, hbox]; rfl, trivial⟩, ⟨fun s0 e => by rw [e, hldf], trivial⟩, r.fs.length - (i + 1), by omega, i + 1, x3, ts3, by omega, rfl, rfl, rfl, rfl, hT3, ?_⟩
        rw [htk]
        simpa [List.append_assoc] using hx3
      · have c1 : ¬ (i : Int) < (r.fs.length : Int) := by omega
        have hi2 : i = r.fs.length := by omega
        subst hi2
        rw [List.take_length] at hx
        have hpb : [UInt8.ofNat r.k.toNat, UInt8.ofNat r.fs.length] ++ r.fs.flatMap fldB = payB r := rfl
        rw [hpb] at hx
        have hF1 := rfour_call (payN r.fs) ⟨L1, ts1⟩
        have hlx := (hx.1.bytes L1).lenT 5
        rw [hpl] at hlx
        obtain ⟨y1, ts2, hA1, hy1, hT2⟩ := app_bytesN (L := L1) (tz := ts) (ts := ts1) hT (RowN.full ts.length ts1 1 4 (byteCells (fourB (payN r.fs))) rfl) (hx.1.bytes L1) (by simp [fourB]; omega)
        have hSm := rsum_call (ts := ts2) (hx.1.bytes L1) (by omega)
        have hF2 := rfour_call (sumF (payB r)).toNat ⟨L1, ts2⟩
        rw [n1] at hF2
        obtain ⟨y2, ts3, hA2, hy2, hT3⟩ := app_bytesN hT2 hy1 (Rd.row L1 (fourB (sumF (payB r)).toNat) .full) (by simp [fourB]; omega)
        have hbb : fourB (payN r.fs) ++ payB r ++ fourB (sumF (payB r)).toNat = bytR r := by simp [bytR]
        rw [hbb] at hy2
        have hl4 : (fourB (sumF (payB r)).toNat).length = 4 := rfl
        rw [hl4] at hA2
        simp -implicitDefEqProofs only [Wa,Wb,Wc,Wd,We,Wf,Wg,Wh,Wi,Wj,Wk,Wl,Wm,Wn,Zo,Zp,evalT,Nat.reduceLT,Nat.reduceEqDiff,if_true,if_false,reduceIte,Ys,ofVal,ofCell,argT,resT,setT,Y0,Int.reduceEq,Int.reduceLT,Int.reduceLE,Int.reduceNeg,mb,Nat.reduceBEq,tys,stb,Va,storeList,Nat.reduceAdd,Nat.reduceLeDiff,tyj,vBin_xor,vBin_or,vBin_shl,vBin_shr,t1,t6,t5,hbox,hlen,c1,hlx,w94,hF1,mb68,hA1,hSm,hF2,hA2]
        exact ⟨y2, ts3, rfl, rfl, hT3, hy2.1⟩
    obtain ⟨v, σ', h1, x, ts', rfl, rfl, hT, h2⟩ := hk
    exact ⟨x, L1, ts', h1, hK0, hT, h2⟩
  · simp only [h0, if_false]
    have h0' := eq_false h0
    refine ⟨.nilsl, _, ts, ?_, hK0, TK.refl _, rfl⟩
    refine callFn_eq rfl rfl at68 rfl (by simp [Tryd.f68]) (by simp [Tryd.f68]) (G_start ?_)
    simp -implicitDefEqProofs only [Tryd.f68,Wa,Wb,Wc,Wd,We,Wf,Wg,Wh,Wi,Wj,Wk,Wl,Wm,Wn,Zo,Zp,evalT,Nat.reduceLT,Nat.reduceEqDiff,if_true,if_false,reduceIte,Ys,ofVal,ofCell,argT,resT,setT,Y0,Int.reduceEq,Int.reduceLT,Int.reduceLE,Int.reduceNeg,mb,Nat.reduceBEq,tys,stb,Va,storeList,Nat.reduceAdd,Nat.reduceLeDiff,tyj,vBin_xor,vBin_or,vBin_shl,vBin_shr,agg55,hld0,hC,h0']
    exact ⟨rfl, trivial⟩
end Go.Proofs.YtncohjljeoknkaaDoor.D
namespace Go.Proofs.YtncohjljeoknkaaDoor.D
open Go.Ab
set_option maxHeartbeats 8000000
set_option maxRecDepth 100000
set_option linter.unusedSimpArgs false
set_option linter.unusedVariables false
theorem at46 : env.P.funcs[46]? = some Tryd.f46 := by kernel_rfl
theorem at47 : env.P.funcs[47]? = some Tryd.f47 := by kernel_rfl
theorem at48 : env.P.funcs[48]? = some Tryd.f48 := by kernel_rfl
theorem at67 : env.P.funcs[67]? = some Tryd.f67 := by kernel_rfl
theorem ty80 : fldOff env 80 0 = some 0 ∧ fldOff env 80 1 = some 1 ∧ fldOff env 80 2 = some 2 ∧ (∀ h p, aload env h 40 p = (loadCellsV h 1 p).bind (·[0]?)) ∧ (∀ h p, aload env h 58 p = (loadCellsV h 1 p).bind (·[0]?)) ∧ (∀ h p, aload env h 53 p = (loadCellsV h 1 p).bind (·[0]?)) :=
  ⟨by kernel_rfl, by kernel_rfl, by kernel_rfl, fun _ _ => aload_one (by kernel_rfl), fun _ _ => aload_one (by kernel_rfl), fun _ _ => aload_one (by kernel_rfl)⟩
theorem bd55 (a fv : V) (ha : a.cells = [a]) (hf : fv.cells = [fv]) : buildO env 55 [(0, a), (1, fv)] = some (.agg [a, fv]) := by
  have z : zeroV env 55 = some (.agg [.int .i64 0, .nilsl]) := by kernel_rfl
  obtain ⟨pl, hp, h0, h1⟩ : ∃ pl, placesOf env 55 = some pl ∧ pl 0 = some (0, 1) ∧ pl 1 = some (1, 1) := ⟨_, rfl, by kernel_rfl, by kernel_rfl⟩
  unfold buildO
  simp [z, hp, vFill, h0, h1, ha, hf, YW]
theorem fld_vc {fv : V} {fs : List (List UInt8)} (h : Fld fv fs) (L : List AObj) : vLen fv = some fs.length ∧ vCells L 1 fs.length fv = some (fs.map .str) := by
  rcases h with ⟨rfl, rfl⟩ | ⟨cap, rfl⟩
  · exact ⟨rfl, rfl⟩
  · have : (fs.map V.str).take fs.length = fs.map V.str := List.take_of_length_le (by simp)
    exact ⟨rfl, by simp [vCells, this]⟩
theorem rcopied_call {L : List AObj} {ts : List Nat} {v : V} {rs : List Rec} (h : RowX v rs) (hl : rs.length ≤ 2 ^ 29) (hf : ∀ r ∈ rs, r.fs.length ≤ 2 ^ 30) :
    ∃ u ts', callFn env (ev env) 67 [v] ⟨L, ts⟩ = some (u, ⟨L, ts'⟩) ∧ TK ts ts' ∧ RowR ts.length ts' u rs := by
  have hk : ∃ w σ', callFn env (ev env) 67 [v] ⟨L, ts⟩ = some (w, σ') ∧ σ'.heap = L ∧ TK ts σ'.toks ∧ RowR ts.length σ'.toks w rs := by
    obtain ⟨cs, hr, hv⟩ := h
    have lv : ∀ e, vLenT (some (.slice e)) v = some (.int .i64 rs.length) := fun e => by
      rcases hv with ⟨rfl, rfl⟩ | ⟨cap, rfl⟩ <;> rfl
    refine callFn_any rfl rfl at67 rfl (by simp [Tryd.f67]) (by simp [Tryd.f67]) (G_start ?_)
    simp -implicitDefEqProofs only [Tryd.f67,Wa,Wb,Wc,Wd,We,Wf,Wg,Wh,Wi,Wj,Wk,Wl,Wm,Wn,Zo,Zp,evalT,Nat.reduceLT,Nat.reduceEqDiff,if_true,if_false,reduceIte,Ys,ofVal,ofCell,argT,resT,setT,Y0,Int.reduceEq,Int.reduceLT,Int.reduceLE,Int.reduceNeg,mb,Nat.reduceBEq,tys,stb,Va,storeList,Nat.reduceAdd,Nat.reduceLeDiff,tyj,vBin_xor,vBin_or,vBin_shl,vBin_shr]
    refine loop_rule (fun m T D σ => D = [] ∧ T 0 = v ∧ ∃ (i : Nat) (u : V), T 3 = u ∧ T 4 = .int .i64 i ∧ i ≤ rs.length ∧ m = rs.length - i ∧ σ.heap = L ∧ TK ts σ.toks ∧ RowR ts.length σ.toks u (rs.take i)) ?_ rs.length _ _ _ (by
      exact ⟨rfl, rfl, 0, .nilsl, rfl, rfl, Nat.zero_le _, rfl, rfl, TK.refl _, RowR.nil _ _⟩)
    rintro m T D ⟨H, ts1⟩ ⟨rfl, t0, i, u, t3, t4, hi, rfl, hH, hT, hu⟩
    simp only at hH hT hu
    subst hH
    refine G_start ?_
    by_cases hlt : i < rs.length
    · have c1 : (i : Int) < (rs.length : Int) := by omega
      have w1 : IntKind.wrap .i64 ((i : Int) + 1) = ((i + 1 : Nat) : Int) := by rw [B.wrap64 (by omega)]; omega
      rcases hv with ⟨rfl, rfl⟩ | ⟨cap, rfl⟩
      · simp at hlt
      · obtain ⟨fv, e1, hfv⟩ := hr.get hlt
        have hcl := hr.cell.2
        have hx : vIndexAddr 2 (.row cs rs.length cap) (.int .i64 (i : Int)) = some (.rptr (cs.drop (i * 2))) := by rw [Ys, if_pos (by omega), Int.toNat_natCast]
        have g0 : (cs.drop (i * 2))[0]? = some (.int .i64 rs[i].k) := by
          have := congrArg (·[0]?) e1
          simpa [List.getElem?_take_of_lt] using this
        have g1 : ((cs.drop (i * 2)).drop 1)[0]? = some fv := by
          have := congrArg (·[1]?) e1
          simp only [List.getElem?_take_of_lt (show 1 < 2 by omega)] at this
          simpa [List.getElem?_drop] using this
        have g0' : cs[i * 2]? = some (.int .i64 rs[i].k) := by simpa [List.getElem?_drop] using g0
        have g1' : cs[i * 2 + 1]? = some fv := by simpa [List.getElem?_drop] using g1
        have g1'' : (cs.drop (i * 2))[1]? = some fv := by simpa [List.getElem?_drop] using g1
        obtain ⟨hfl, hfc⟩ := fld_vc hfv H
        have hlim : (0 + rs[i].fs.length) * 16 ≤ lim ∧ 0 + rs[i].fs.length ≤ lim := by have := hf _ (List.getElem_mem hlt); unfold lim; omega
        obtain ⟨fv2, ts2, hA1, h2, h3, h4, _⟩ := (RowN.full ts1.length ts1 1 0 [] rfl).append (E := env) (L := H) (y := fv) (m := rs[i].fs.length) (new := rs[i].fs.map .str) (nb := 16) (Nat.le_refl _) e53 s9 (by kernel_rfl) (by kernel_rfl) ⟨9, u53⟩ hlim hfl hfc (by simp) (strs_cell _)
        rw [Nat.zero_add, List.nil_append] at h2
        have hf2 : Fld fv2 rs[i].fs := by
          rcases h2.1.or with ⟨rfl, h0, _⟩ | ⟨cap, rfl⟩
          · exact .inl ⟨rfl, List.eq_nil_of_length_eq_zero h0⟩
          · exact .inr ⟨cap, rfl⟩
        have hT2 : TK ts1 ts2 := ⟨h3, h4⟩
        have hT12 := hT.trans hT2
        obtain ⟨u2, ts3, hA2, hrow3, a3, a4⟩ := app_rec (H := H) (hu.tk hT2) hT12.1 (r := rs[i]) hf2 (by rw [List.length_take]; omega)
        have htk : rs.take i ++ [rs[i]] = rs.take (i + 1) := (List.take_succ_eq_append_getElem hlt).symm
        rw [htk] at hrow3
        have hbd := bd55 (.int .i64 rs[i].k) fv2 rfl hf2.cells
        have hr58 := row58 (.int .i64 rs[i].k) fv2 rfl hf2.cells
        have m67 : ∀ r, env.mutb 67 r = false := fun _ => rfl
        simp -implicitDefEqProofs only [Wa,Wb,Wc,Wd,We,Wf,Wg,Wh,Wi,Wj,Wk,Wl,Wm,Wn,Zo,Zp,evalT,Nat.reduceLT,Nat.reduceEqDiff,if_true,if_false,reduceIte,Ys,ofVal,ofCell,argT,resT,setT,Y0,Int.reduceEq,Int.reduceLT,Int.reduceLE,Int.reduceNeg,mb,Nat.reduceBEq,tys,stb,Va,storeList,Nat.reduceAdd,Nat.reduceLeDiff,tyj,vBin_xor,vBin_or,vBin_shl,vBin_shr,t0,t3,t4,lv,c1]
        refine G_win rfl [(false, []), (false, []), (false, []), (false, []), (false, []), (false, [1]), (false, []), (false, []), (false, []), (false, []), (false, []), (false, []), (true, []), (false, []), (false, []), (true, []), (false, [])] (fun m s0 => True) trivial (by kernel_rfl) (by kernel_rfl) ?_
        simp -implicitDefEqProofs only [Wa,Wb,Wc,Wd,We,Wf,Wg,Wh,Wi,Wj,Wk,Wl,Wm,Wn,Zo,Zp,evalT,Nat.reduceLT,Nat.reduceEqDiff,if_true,if_false,reduceIte,Ys,ofVal,ofCell,argT,resT,setT,Y0,Int.reduceEq,Int.reduceLT,Int.reduceLE,Int.reduceNeg,mb,Nat.reduceBEq,tys,stb,Va,storeList,Nat.reduceAdd,Nat.reduceLeDiff,tyj,vBin_xor,vBin_or,vBin_shl,vBin_shr,ty80,-Ys,t0,t3,t4,GW_nil,GW_op,GWS_0,GWS_0n,GWS_1,GWS_1n,GWS_m,GWS_ite,GWS_nite,AllM_nil,AllM_cons,aread_load,hx,g0,g1,g0',g1',g1'',opT_rowB,row53_0,m67,hA1,hbd,hr58,hA2,w1]
        exact ⟨⟨fun _ => trivial, trivial⟩, rs.length - (i + 1), by omega, i + 1, u2, rfl, rfl, by omega, rfl, ⟨Nat.le_trans hT12.1 a3, fun k hk => by rw [a4 k hk, hT12.2 k hk]⟩, hrow3⟩
    · have c1 : ¬ (i : Int) < (rs.length : Int) := by omega
      have hi2 : i = rs.length := by omega
      subst hi2
      rw [List.take_length] at hu
      simp -implicitDefEqProofs only [Wa,Wb,Wc,Wd,We,Wf,Wg,Wh,Wi,Wj,Wk,Wl,Wm,Wn,Zo,Zp,evalT,Nat.reduceLT,Nat.reduceEqDiff,if_true,if_false,reduceIte,Ys,ofVal,ofCell,argT,resT,setT,Y0,Int.reduceEq,Int.reduceLT,Int.reduceLE,Int.reduceNeg,mb,Nat.reduceBEq,tys,stb,Va,storeList,Nat.reduceAdd,Nat.reduceLeDiff,tyj,vBin_xor,vBin_or,vBin_shl,vBin_shr,t0,t3,t4,lv,c1]
      exact ⟨hT, hu⟩
  obtain ⟨w, ⟨L', ts'⟩, h1, rfl, h2, h3⟩ := hk
  exact ⟨w, ts', h1, h2, h3⟩
structure RJ (L : List AObj) (ts : List Nat) (k o : Nat) (rs : List Rec) (n : Nat) (lv : V) : Prop where
  cell : L[k]? = some (.cells [.ptr o 0, lv, .int .i64 n] 80)
  row : ∃ cs, RowT ts 2 lv rs.length cs ∧ RecC rs cs
theorem rsyncJ_call {L : List AObj} {ts : List Nat} {k o n : Nat} {s : DS} {rs : List Rec} {lv : V} (h : RJ L ts k o rs n lv) (hr : RefAt L o s) (hko : k ≠ o) (hl : s.D.length + s.P.length ≤ 2 ^ 38) :
    ∃ L' ts', callFn env (ev env) 48 [.ptr k 0] ⟨L, ts⟩ = some (.int .i64 (syncS s).2, ⟨L', ts'⟩) ∧ RJ L' ts' k o rs (if (syncS s).2 = 0 then rs.length else n) lv ∧ RefAt L' o (syncS s).1 ∧ TK ts ts' ∧ L'.length = L.length ∧ (∀ q, q ≠ k → q ≠ o → L'[q]? = L[q]?) := by
  obtain ⟨L1, ts1, hS, hR, hB, hT⟩ := rsync_callT (ts := ts) hr hl
  have hc := h.cell
  have hc1 : L1[k]? = some (.cells [.ptr o 0, lv, .int .i64 n] 80) := by rw [hB.2 k hko]; exact hc
  have lrow : ∀ e, vLenT (some (.slice e)) lv = some (.int .i64 rs.length) := fun e => by
    obtain ⟨cs, h1, _⟩ := h.row
    exact h1.len e
  have hrow : ∃ cs, RowT ts1 2 lv rs.length cs ∧ RecC rs cs := by
    obtain ⟨cs, h1, h2⟩ := h.row
    exact ⟨cs, hT.row h1, h2⟩
  by_cases h0 : (syncS s).2 = 0
  · rw [if_pos h0]
    refine ⟨L1.set k (.cells [.ptr o 0, lv, .int .i64 rs.length] 80), ts1, ?_, ⟨List.getElem?_set_self (B.lt_get hc1), hrow⟩, ?_, hT, by rw [List.length_set]; exact hB.1, fun q hqk hqo => by rw [List.getElem?_set_ne (Ne.symm hqk)]; exact hB.2 q hqo⟩
    · rw [h0] at hS ⊢
      refine callFn_eq rfl rfl at48 rfl (by simp [Tryd.f48]) (by simp [Tryd.f48]) (G_start ?_)
      simp -implicitDefEqProofs only [Tryd.f48,Wa,Wb,Wc,Wd,We,Wf,Wg,Wh,Wi,Wj,Wk,Wl,Wm,Wn,Zo,Zp,evalT,Nat.reduceLT,Nat.reduceEqDiff,if_true,if_false,reduceIte,Ys,ofVal,ofCell,argT,resT,setT,Y0,Int.reduceEq,Int.reduceLT,Int.reduceLE,Int.reduceNeg,mb,Nat.reduceBEq,tys,stb,Va,storeList,Nat.reduceAdd,Nat.reduceLeDiff,tyj,vBin_xor,vBin_or,vBin_shl,vBin_shr,ty80,opT_nilCheck,nilO_ptr,hc,hS,hc1,lrow]
      exact ⟨rfl, rfl, trivial⟩
    · exact hR.move (by rw [List.getElem?_set_ne hko])
  · rw [if_neg h0]
    have h0' := eq_false h0
    refine ⟨L1, ts1, ?_, ⟨hc1, hrow⟩, hR, hT, hB.1, fun q hqk hqo => hB.2 q hqo⟩
    refine callFn_eq rfl rfl at48 rfl (by simp [Tryd.f48]) (by simp [Tryd.f48]) (G_start ?_)
    simp -implicitDefEqProofs only [Tryd.f48,Wa,Wb,Wc,Wd,We,Wf,Wg,Wh,Wi,Wj,Wk,Wl,Wm,Wn,Zo,Zp,evalT,Nat.reduceLT,Nat.reduceEqDiff,if_true,if_false,reduceIte,Ys,ofVal,ofCell,argT,resT,setT,Y0,Int.reduceEq,Int.reduceLT,Int.reduceLE,Int.reduceNeg,mb,Nat.reduceBEq,tys,stb,Va,storeList,Nat.reduceAdd,Nat.reduceLeDiff,tyj,vBin_xor,vBin_or,vBin_shl,vBin_shr,ty80,opT_nilCheck,nilO_ptr,hc,hS,h0']
    exact ⟨rfl, trivial⟩
theorem rappendJ_call {L : List AObj} {ts : List Nat} {k o n : Nat} {s : DS} {rs : List Rec} {lv : V} (h : RJ L ts k o rs n lv) (hR : RefAt L o s) (hok : OkS s) (hko : k ≠ o) {r : Rec} {fv : V} (hf : Fld fv r.fs) (hfl : r.fs.length ≤ 2 ^ 30) (hrl : rs.length ≤ 2 ^ 29) (hl : s.D.length + s.P.length ≤ 2 ^ 37) :
    ∃ L' ts' lv', callFn env (ev env) 47 [.ptr k 0, .agg [.int .i64 r.k, fv]] ⟨L, ts⟩ = some (.int .i64 (appS s rs r).2.1, ⟨L', ts'⟩) ∧ RJ L' ts' k o (appS s rs r).2.2 n lv' ∧ RefAt L' o (appS s rs r).1 ∧ TB lv lv' ts ts' ∧ L.length ≤ L'.length ∧ (∀ q, q < L.length → q ≠ k → q ≠ o → L'[q]? = L[q]?) := by
  have k0 := Keep.app L [.cells [.int .i64 r.k, fv] 55]
  obtain ⟨x, L1, ts1, hB, hK1, hT1, hX⟩ := bytes_refT (L := L ++ [.cells [.int .i64 r.k, fv] 55]) (ts := ts) hf (by omega)
  have qe : loadCellsV (L ++ [AObj.cells [.int .i64 r.k, fv] 55]) 2 (.ptr L.length 0) = some [.int .i64 r.k, fv] := by simp [loadCellsV]
  have k1 := k0.trans hK1
  have hc1 := k1.get h.cell
  have hR1 : RefAt L1 o s := hR.move (k1.2 o hR.lt)
  obtain ⟨cs, hr1, hr2⟩ := h.row
  unfold appS
  by_cases h0 : chkR r = 0
  · rw [if_pos h0] at hX
    simp only [h0, if_true]
    rw [h0] at hB
    have hbl := bytR_len r
    obtain ⟨_, _, _, _, h5⟩ := chk0 h0
    obtain ⟨L2, ts2, hW, hR2, hB2, hT2⟩ := rwr_callT (ts := ts1) hR1 hok (hX.bytes L1) (by omega)
    have hc2 : L2[k]? = some (.cells [.ptr o 0, lv, .int .i64 n] 80) := by rw [hB2.2 k hko]; exact hc1
    have len2 : L.length ≤ L2.length := by rw [hB2.1]; exact k1.1
    have low2 : ∀ q, q < L.length → q ≠ k → q ≠ o → L2[q]? = L[q]? := fun q hq _ hqo => by rw [hB2.2 q hqo, k1.2 q hq]
    have hT12 := hT1.trans hT2
    by_cases hw : (wrS s (bytR r)).2 = 0
    · simp only [hw, if_true]
      rw [hw] at hW
      have hbox1 : L1[L.length]? = some (.cells [.int .i64 r.k, fv] 55) := hK1.get (by simp)
      have hbox2 : L2[L.length]? = some (.cells [.int .i64 r.k, fv] 55) := by rw [hB2.2 L.length (fun e => by have := hR.lt; omega)]; exact hbox1
      have hr58 := row58 (.int .i64 r.k) fv rfl hf.cells
      obtain ⟨u, ts3, hC, hT3, hrow3⟩ := rcopied_call (L := L2) (ts := ts2) (v := .row [.int .i64 r.k, fv] 1 .full) (rs := [r]) ⟨[.int .i64 r.k, fv], ⟨fv, [], rfl, hf, rfl⟩, .inr ⟨.full, rfl⟩⟩ (by simp) (fun q hq => by rw [List.mem_singleton.1 hq]; exact hfl)
      obtain ⟨ds, hu1, hu3⟩ := hrow3
      have hlim : (rs.length + [r].length) * 32 ≤ lim ∧ rs.length + [r].length ≤ lim := by unfold lim; simp; omega
      have hT123 := hT12.trans hT3
      obtain ⟨lv', ts4, hA, hrow4, a3, a4, a5⟩ := RowT.appendF (E := env) (L := L2) (hT123.row hr1) (y := u) (m := [r].length) (new := ds) (nb := 32) e58 s55 (by kernel_rfl) (by kernel_rfl) ⟨55, u58⟩ hlim hu1.1.vlen (hu1.1.vcells L2) hu3.cell.2 hu3.cell.1
      have hg : ∀ o', (L2.set k o')[k]? = some o' := fun o' => List.getElem?_set_self (B.lt_get hc2)
      have hld2 : loadCellsV L2 2 (.ptr L.length 0) = some [.int .i64 r.k, fv] := by simp [loadCellsV, hbox2]
      have lvc := hrow4.cells
      have m47 : ∀ r, env.mutb 47 r = false := fun _ => rfl
      refine ⟨L2.set k (.cells [.ptr o 0, lv', .int .i64 n] 80), ts4, lv', ?_, ⟨hg _, cs ++ ds, by rw [List.length_append]; exact hrow4, hr2.app hu3⟩, hR2.move (by rw [List.getElem?_set_ne hko]), ⟨Nat.le_trans hT123.1 a3, fun j hj hlt => ?_, fun j hj => ?_⟩, by rw [List.length_set]; exact len2, fun q hq hqk hqo => ?_⟩
      · refine callFn_eq rfl rfl at47 rfl (by simp [Tryd.f47]) (by simp [Tryd.f47]) (G_start ?_)
        simp -implicitDefEqProofs only [Tryd.f47,Wa,Wb,Wc,Wd,We,Wf,Wg,Wh,Wi,Wj,Wk,Wl,Wm,Wn,Zo,Zp,evalT,Nat.reduceLT,Nat.reduceEqDiff,if_true,if_false,reduceIte,Ys,ofVal,ofCell,argT,resT,setT,Y0,Int.reduceEq,Int.reduceLT,Int.reduceLE,Int.reduceNeg,mb,Nat.reduceBEq,tys,stb,Va,storeList,Nat.reduceAdd,Nat.reduceLeDiff,tyj,vBin_xor,vBin_or,vBin_shl,vBin_shr,ty80,opT_nilCheck,nilO_ptr,hf.cells,hf.isCell,agg55,qe,hB,hc1,hW]
        refine G_win rfl [(false, []), (false, []), (false, []), (false, []), (false, [1]), (false, []), (false, []), (true, []), (true, []), (false, []), (false, []), (true, [])] (fun m s0 => m ≤ 1 → s0.heap[k]? = some (.cells [.ptr o 0, lv, .int .i64 n] 80)) (fun _ => hc2) (by kernel_rfl) (by kernel_rfl) ?_
        simp -implicitDefEqProofs only [Wa,Wb,Wc,Wd,We,Wf,Wg,Wh,Wi,Wj,Wk,Wl,Wm,Wn,Zo,Zp,evalT,Nat.reduceLT,Nat.reduceEqDiff,if_true,if_false,reduceIte,Ys,ofVal,ofCell,argT,resT,setT,Y0,Int.reduceEq,Int.reduceLT,Int.reduceLE,Int.reduceNeg,mb,Nat.reduceBEq,tys,stb,Va,storeList,Nat.reduceAdd,Nat.reduceLeDiff,tyj,vBin_xor,vBin_or,vBin_shl,vBin_shr,ty80,GW_nil,GW_op,GWS_0,GWS_0n,GWS_1,GWS_1n,GWS_m,GWS_ite,GWS_nite,AllM_nil,AllM_cons,aread_load,opT_nilCheck,nilO_ptr,agg55,hc2,hld2,opT_rowB,hr58,hC,m47,hA,lvc]
        exact ⟨⟨fun s0 e => by rw [e]; rfl, trivial⟩, rfl, trivial⟩
      · rw [a4 j hj (Nat.lt_of_lt_of_le hlt hT123.1), hT123.2 j hlt]
      · rcases a5 j hj with e | e
        · exact .inl e
        · exact .inr (Nat.le_trans hT123.1 e)
      · rw [List.getElem?_set_ne (Ne.symm hqk)]; exact low2 q hq hqk hqo
    · simp only [hw, if_false]
      have hw' := eq_false hw
      refine ⟨L2, ts2, lv, ?_, ⟨hc2, cs, hT12.row hr1, hr2⟩, hR2, TB.of hT12, len2, low2⟩
      refine callFn_eq rfl rfl at47 rfl (by simp [Tryd.f47]) (by simp [Tryd.f47]) (G_start ?_)
      simp -implicitDefEqProofs only [Tryd.f47,Wa,Wb,Wc,Wd,We,Wf,Wg,Wh,Wi,Wj,Wk,Wl,Wm,Wn,Zo,Zp,evalT,Nat.reduceLT,Nat.reduceEqDiff,if_true,if_false,reduceIte,Ys,ofVal,ofCell,argT,resT,setT,Y0,Int.reduceEq,Int.reduceLT,Int.reduceLE,Int.reduceNeg,mb,Nat.reduceBEq,tys,stb,Va,storeList,Nat.reduceAdd,Nat.reduceLeDiff,tyj,vBin_xor,vBin_or,vBin_shl,vBin_shr,ty80,opT_nilCheck,nilO_ptr,hf.cells,hf.isCell,agg55,qe,hB,hc1,hW,hw']
      exact ⟨rfl, trivial⟩
  · simp only [h0, if_false]
    have h0' := eq_false h0
    refine ⟨L1, ts1, lv, ?_, ⟨hc1, cs, hT1.row hr1, hr2⟩, hR1, TB.of hT1, k1.1, fun q hq _ _ => k1.2 q hq⟩
    refine callFn_eq rfl rfl at47 rfl (by simp [Tryd.f47]) (by simp [Tryd.f47]) (G_start ?_)
    simp -implicitDefEqProofs only [Tryd.f47,Wa,Wb,Wc,Wd,We,Wf,Wg,Wh,Wi,Wj,Wk,Wl,Wm,Wn,Zo,Zp,evalT,Nat.reduceLT,Nat.reduceEqDiff,if_true,if_false,reduceIte,Ys,ofVal,ofCell,argT,resT,setT,Y0,Int.reduceEq,Int.reduceLT,Int.reduceLE,Int.reduceNeg,mb,Nat.reduceBEq,tys,stb,Va,storeList,Nat.reduceAdd,Nat.reduceLeDiff,tyj,vBin_xor,vBin_or,vBin_shl,vBin_shr,ty80,opT_nilCheck,nilO_ptr,hf.cells,hf.isCell,agg55,qe,hB,h0']
    exact ⟨rfl, trivial⟩
end Go.Proofs.YtncohjljeoknkaaDoor.D
namespace Go.Proofs.YtncohjljeoknkaaDoor.D
open Go.Ab
set_option maxHeartbeats 8000000
set_option maxRecDepth 100000
set_option linter.unusedSimpArgs false
set_option linter.unusedVariables false
def opens (s : DS) : Bool := !s.stop && s.P.isEmpty
theorem opens_t {s : DS} (h : opens s = true) : s.stop = false ∧ s.P = [] := by
  unfold opens at h
  simp at h
  exact h
theorem open_bad {L : List AObj} {ts : List Nat} {d : Nat} {s : DS} {bv dv : V} {lr : Int} (h : Dk L d s bv dv lr) (ho : opens s = false) (hl : s.D.length + s.P.length ≤ 2 ^ 38) :
    ∃ L' bv' dv' lr', callFn env (ev env) 40 [.ptr d 0] ⟨L, ts⟩ = some (.tup [.nilptr, .nilsl, .int .i64 13], ⟨L', ts⟩) ∧ Dk L' d s bv' dv' lr' ∧ (∀ q, q < L.length → ¬ fp d bv dv q → L'[q]? = L[q]?) ∧ L.length ≤ L'.length ∧ (∀ q, fp d bv' dv' q → fp d bv dv q ∨ L.length ≤ q) := by
  obtain ⟨v1, L1, hD1, hO1, hK1, _⟩ := durable_call (ts := ts) h (by omega)
  have len1 := hO1.rd.lenT 5
  obtain ⟨L2, bv2, dv2, lr2, hC2, hDk2, hS2⟩ := cut_call (ts := ts) (s.D.length : Int) (h.keep hK1) hl
  have hcut : cutS s (s.D.length : Int) = (s, 13) := by
    unfold cutS
    unfold opens at ho
    cases hs : s.stop with
    | true => rfl
    | false =>
      rw [hs] at ho
      have hp : 0 < s.P.length := by
        cases hP : s.P with
        | nil => rw [hP] at ho; simp at ho
        | cons a l => simp
      simp [hp]
  rw [hcut] at hC2 hDk2
  refine ⟨L2, bv2, dv2, lr2, ?_, hDk2, fun q hq hn => by rw [hS2.2.1 q (by have := hK1.1; omega) hn, hK1.2 q hq], Nat.le_trans hK1.1 hS2.1, fun q hq => (hS2.2.2 q hq).imp id fun h' => Nat.le_trans hK1.1 h'⟩
  refine callFn_eq rfl rfl at40 rfl (by simp [Tryd.f40]) (by simp [Tryd.f40]) (G_start ?_)
  simp -implicitDefEqProofs only [Tryd.f40,Wa,Wb,Wc,Wd,We,Wf,Wg,Wh,Wi,Wj,Wk,Wl,Wm,Wn,Zo,Zp,evalT,Nat.reduceLT,Nat.reduceEqDiff,if_true,if_false,reduceIte,Ys,ofVal,ofCell,argT,resT,setT,Y0,Int.reduceEq,Int.reduceLT,Int.reduceLE,Int.reduceNeg,mb,Nat.reduceBEq,tys,stb,Va,storeList,Nat.reduceAdd,Nat.reduceLeDiff,tyj,vBin_xor,vBin_or,vBin_shl,vBin_shr,ty70,hD1,len1,hC2]
  exact ⟨rfl, trivial⟩
theorem bd80 (o : Nat) (lv : V) (n : Int) (hv : lv.cells = [lv]) : buildO env 80 [(0, .ptr o 0), (1, lv), (2, .int .i64 n)] = some (.agg [.ptr o 0, lv, .int .i64 n]) := by
  have z : zeroV env 80 = some (.agg [.nilptr, .nilsl, .int .i64 0]) := by kernel_rfl
  obtain ⟨pl, hp, h0, h1, h2⟩ : ∃ pl, placesOf env 80 = some pl ∧ pl 0 = some (0, 1) ∧ pl 1 = some (1, 1) ∧ pl 2 = some (2, 1) := ⟨_, rfl, by kernel_rfl, by kernel_rfl, by kernel_rfl⟩
  have hpc : (V.ptr o 0).cells = [.ptr o 0] := rfl
  unfold buildO
  simp [z, hp, vFill, h0, h1, h2, hv, YW, Y6, hpc]
theorem ropen_bad {L : List AObj} {ts : List Nat} {o : Nat} {s : DS} (h : RefAt L o s) (ho : opens s = false) (hl : s.D.length + s.P.length ≤ 2 ^ 38) : callFn env (ev env) 46 [.ptr o 0] ⟨L, ts⟩ = some (.tup [.nilptr, .nilsl, .int .i64 13], ⟨L, ts⟩) := by
  obtain ⟨dr, pr, hc, hD, hP⟩ := h
  have lp := (hP.rd L).lenT 5
  unfold opens at ho
  refine callFn_eq rfl rfl at46 rfl (by simp [Tryd.f46]) (by simp [Tryd.f46]) (G_start ?_)
  cases hs : s.stop with
  | true =>
    rw [hs] at hc
    simp -implicitDefEqProofs only [Tryd.f46,Wa,Wb,Wc,Wd,We,Wf,Wg,Wh,Wi,Wj,Wk,Wl,Wm,Wn,Zo,Zp,evalT,Nat.reduceLT,Nat.reduceEqDiff,if_true,if_false,reduceIte,Ys,ofVal,ofCell,argT,resT,setT,Y0,Int.reduceEq,Int.reduceLT,Int.reduceLE,Int.reduceNeg,mb,Nat.reduceBEq,tys,stb,Va,storeList,Nat.reduceAdd,Nat.reduceLeDiff,tyj,vBin_xor,vBin_or,vBin_shl,vBin_shr,ty80,opT_nilCheck,nilO_ptr,hc]
    exact ⟨rfl, trivial⟩
  | false =>
    rw [hs] at hc ho
    have hp : (0 : Int) < (s.P.length : Int) := by
      cases hP : s.P with
      | nil => rw [hP] at ho; simp at ho
      | cons a l => simp
    simp -implicitDefEqProofs only [Tryd.f46,Wa,Wb,Wc,Wd,We,Wf,Wg,Wh,Wi,Wj,Wk,Wl,Wm,Wn,Zo,Zp,evalT,Nat.reduceLT,Nat.reduceEqDiff,if_true,if_false,reduceIte,Ys,ofVal,ofCell,argT,resT,setT,Y0,Int.reduceEq,Int.reduceLT,Int.reduceLE,Int.reduceNeg,mb,Nat.reduceBEq,tys,stb,Va,storeList,Nat.reduceAdd,Nat.reduceLeDiff,tyj,vBin_xor,vBin_or,vBin_shl,vBin_shr,ty80,opT_nilCheck,nilO_ptr,hc,lp,hp]
    exact ⟨rfl, trivial⟩
theorem ropen_ok {L : List AObj} {ts : List Nat} {o : Nat} {s : DS} (h : RefAt L o s) (ho : opens s = true) (hl : s.D.length ≤ 2 ^ 28) :
    ∃ L' ts' lv u, callFn env (ev env) 46 [.ptr o 0] ⟨L, ts⟩ = some (.tup [.ptr (L'.length - 1) 0, u, .int .i64 0], ⟨L', ts'⟩) ∧ RJ L' ts' (L'.length - 1) o (readR s.D).1 (readR s.D).1.length lv ∧ RefAt L' o ⟨s.D.take (readR s.D).2, [], s.left, false⟩ ∧ TK ts ts' ∧ (∀ k, tokOf lv = some k → ts.length ≤ k) ∧ RdR L' u (readR s.D).1 ∧ (∀ q, q < L.length → q ≠ o → L'[q]? = L[q]?) ∧ L.length < L'.length := by
  obtain ⟨hst, hPe⟩ := opens_t ho
  obtain ⟨D, P, left, stop⟩ := s
  simp only at hst hPe hl
  subst hst hPe
  obtain ⟨hn1, hn2⟩ := readN_len D.length D (Nat.le_refl _)
  have hcut2 : cutS ⟨D, [], left, false⟩ ((readR D).2 : Int) = (⟨D.take (readR D).2, [], left, false⟩, 0) := by
    have h1 : (readR D).2 ≤ D.length := hn2
    unfold cutS
    simp; omega
  have hok : ∀ r ∈ (readR D).1, r.fs.length ≤ 2 ^ 30 := fun r hr => by have := (chk0 (readN_ok _ _ r hr)).2.2.1; omega
  have h' := h
  obtain ⟨dr, pr, hc, hD, hP⟩ := h
  simp only at hc hD hP
  have lp := (hP.rd L).lenT 5
  obtain ⟨lv, L1, ts1, hR, hK1, hT1, hrow⟩ := rread_call (ts := ts) (hD.rd L) (by omega)
  have hR1 : RefAt L1 o ⟨D, [], left, false⟩ := h'.move (hK1.2 o h'.lt)
  obtain ⟨L2, ts2, hC2, hR2, hB2, hT2⟩ := rcut_callT (ts := ts1) ((readR D).2 : Int) hR1 (by show D.length + 0 ≤ _; omega)
  rw [hcut2] at hC2 hR2
  have hrowc := hrow.cells
  have lenlv : ∀ e, vLenT (some (.slice e)) lv = some (.int .i64 (readR D).1.length) := fun e => by
    obtain ⟨cs, h1, _⟩ := hrow
    exact h1.1.len e
  have hrow2 := hrow.tk hT2
  obtain ⟨u, ts3, hC3, hT3, hrow3⟩ := rcopied_call (L := L2 ++ [.cells [.ptr o 0, lv, .int .i64 (readR D).1.length] 80]) (ts := ts2) hrow2.x (by show (readN D.length D).1.length ≤ _; omega) hok
  have hb80 := bd80 o lv (readR D).1.length hrowc.1
  have hlen' : (L2 ++ [AObj.cells [.ptr o 0, lv, .int .i64 (readR D).1.length] 80]).length - 1 = L2.length := by simp
  refine ⟨L2 ++ [.cells [.ptr o 0, lv, .int .i64 (readR D).1.length] 80], ts3, lv, u, ?_, ⟨by rw [hlen']; simp, ?_⟩, hR2.move (by rw [List.getElem?_append_left hR2.lt]), (hT1.trans hT2).trans hT3, ?_, hrow3.rd _, fun q hq hqo => ?_, ?_⟩
  · rw [hlen']
    refine callFn_eq rfl rfl at46 rfl (by simp [Tryd.f46]) (by simp [Tryd.f46]) (G_start ?_)
    have z0 : ¬ (0 : Int) < 0 := by omega
    simp -implicitDefEqProofs only [Tryd.f46,Wa,Wb,Wc,Wd,We,Wf,Wg,Wh,Wi,Wj,Wk,Wl,Wm,Wn,Zo,Zp,evalT,Nat.reduceLT,Nat.reduceEqDiff,if_true,if_false,reduceIte,Ys,ofVal,ofCell,argT,resT,setT,Y0,Int.reduceEq,Int.reduceLT,Int.reduceLE,Int.reduceNeg,mb,Nat.reduceBEq,tys,stb,Va,storeList,Nat.reduceAdd,Nat.reduceLeDiff,tyj,vBin_xor,vBin_or,vBin_shl,vBin_shr,ty80,opT_nilCheck,nilO_ptr,hc,lp,z0,hR,hC2,lenlv,hb80,hrowc,hC3]
    exact ⟨rfl, trivial⟩
  · obtain ⟨cs, h1, h2⟩ := hrow2
    exact ⟨cs, hT3.row h1.1, h2⟩
  · intro k hk
    obtain ⟨cs, ⟨h1, h2⟩, _⟩ := hrow
    rcases h1.or with ⟨rfl, _, _⟩ | ⟨cap, rfl⟩
    · cases hk
    · cases cap with
      | tok k' e w => simp only [tokOf, Option.some.injEq] at hk; subst hk; exact h2 _ _ _ _ _ rfl
      | _ => cases hk
  · have : q < L2.length := by rw [hB2.1]; have := hK1.1; omega
    rw [List.getElem?_append_left this, hB2.2 q hqo, hK1.2 q hq]
  · simp; rw [hB2.1]; have := hK1.1; omega
end Go.Proofs.YtncohjljeoknkaaDoor.D
namespace Go.Proofs.YtncohjljeoknkaaDoor.D
open Go.Ab
set_option linter.unusedVariables false
set_option linter.unusedSimpArgs false
def Torn (part : List UInt8) : Prop := ∀ m, oneR (part.take m) = none
theorem torn_nil : Torn [] := fun m => by simp [one_nil]
theorem torn_cut {r : Rec} (h : chkR r = 0) {c : Nat} (hc : c < (bytR r).length) : Torn ((bytR r).take c) := fun m => by
  rw [List.take_take]
  exact one_cut h (by omega)
def encR (rs : List Rec) : List UInt8 := rs.flatMap bytR
theorem encR_snoc (rs : List Rec) (r : Rec) : encR (rs ++ [r]) = encR rs ++ bytR r := by simp [encR]
structure Inv (s : DS) (rs : List Rec) (n : Nat) : Prop where
  bytes : ∃ part, s.D ++ s.P = encR rs ++ part ∧ Torn part ∧ (s.stop = false → part = [])
  sync : n ≤ rs.length ∧ (encR (rs.take n)).length ≤ s.D.length
  ok : ∀ r ∈ rs, chkR r = 0
  left : OkS s
theorem Inv.append {s : DS} {rs : List Rec} {n : Nat} (h : Inv s rs n) (r : Rec) : Inv (appS s rs r).1 (appS s rs r).2.2 n := by
  obtain ⟨⟨part, hb, ht, hst⟩, ⟨h1, h2⟩, hok, hl⟩ := h
  unfold appS
  by_cases h0 : chkR r = 0
  · simp only [h0, if_true]
    have hok' : ∀ q ∈ rs ++ [r], chkR q = 0 := fun q hq => by
      rcases List.mem_append.1 hq with h | h
      · exact hok q h
      · rw [List.mem_singleton.1 h]; exact h0
    have htk : (rs ++ [r]).take n = rs.take n := List.take_append_of_le_length h1
    unfold wrS
    cases hs : s.stop with
    | true =>
      simp
      exact ⟨⟨part, hb, ht, fun e => by rw [hs] at e; cases e⟩, ⟨h1, h2⟩, hok, hl⟩
    | false =>
      have hpe := hst hs
      subst hpe
      rw [List.append_nil] at hb
      simp only [Bool.false_eq_true, if_false]
      by_cases hm : s.left = -1
      · simp only [hm, if_true]
        refine ⟨⟨[], ?_, torn_nil, fun _ => rfl⟩, ⟨by simp; omega, by rw [htk]; exact h2⟩, hok', ⟨by simp, by simp⟩⟩
        simp only [List.append_nil, encR_snoc]
        rw [← hb, List.append_assoc]
      · simp only [hm, if_false]
        by_cases hlt : s.left < ((bytR r).length : Int)
        · simp only [hlt, if_true]
          rw [if_neg (by omega)]
          have hl0 : 0 ≤ s.left := by have := hl.1; omega
          refine ⟨⟨(bytR r).take s.left.toNat, ?_, torn_cut h0 (by omega), fun e => by cases e⟩, ⟨h1, h2⟩, hok, ⟨by simp, by simp⟩⟩
          rw [← hb, List.append_assoc]
        · simp only [hlt, if_false, if_true]
          refine ⟨⟨[], ?_, torn_nil, fun _ => rfl⟩, ⟨by simp; omega, by rw [htk]; exact h2⟩, hok', ?_⟩
          · simp only [List.append_nil, encR_snoc]
            rw [← hb, List.append_assoc]
          · have := hl.1; have := hl.2
            constructor <;> simp only <;> omega
  · simp only [h0, if_false]
    exact ⟨⟨part, hb, ht, hst⟩, ⟨h1, h2⟩, hok, hl⟩
end Go.Proofs.YtncohjljeoknkaaDoor.D
namespace Go.Proofs.YtncohjljeoknkaaDoor.D
open Go.Ab
set_option maxHeartbeats 8000000
set_option maxRecDepth 100000
set_option linter.unusedSimpArgs false
set_option linter.unusedVariables false
structure KA where
  kind : Int
  n : Int
  r : Rec
  fv : V
  fld : Fld fv r.fs
  nb : -9223372036854775808 ≤ n ∧ n ≤ 9223372036854775807
def KA.cs (a : KA) : List V := [.int .i64 a.kind, .int .i64 a.n, .int .i64 a.r.k, a.fv]
def flatK (l : List KA) : List V := l.flatMap KA.cs
theorem flatK_len : ∀ l : List KA, (flatK l).length = l.length * 4
  | [] => rfl
  | a :: l => by
    have := flatK_len l
    simp only [flatK, List.flatMap_cons, List.length_append, List.length_cons] at this ⊢
    rw [this]; simp [KA.cs]; omega
theorem flatK_get : ∀ (l : List KA) (i : Nat) (h : i < l.length), ((flatK l).drop (i * 4)).take 4 = l[i].cs
  | [], i, h => by simp at h
  | a :: l, 0, _ => rfl
  | a :: l, i + 1, h => by
    have := flatK_get l i (by simpa using h)
    rw [show (i + 1) * 4 = i * 4 + 4 by omega]
    exact this
def IsKA (v : V) (l : List KA) : Prop := (v = .nilsl ∧ l = []) ∨ v = .row (flatK l) l.length .unk
theorem IsKA.rd {v : V} {l : List KA} (h : IsKA v l) (L : List AObj) : RdS L 4 v l.length (flatK l) := by
  rcases h with ⟨rfl, rfl⟩ | rfl
  · exact RdS.nil L 4
  · exact RdS.row L 4 _ _ .unk (flatK_len l)
theorem ty78 : sz env 78 = some 4 ∧ env.P.underlying 73 = some (.slice 78) ∧ fldOff env 78 0 = some 0 ∧ fldOff env 78 1 = some 1 ∧ fldOff env 78 2 = some 2 := ⟨by kernel_rfl, by kernel_rfl, by kernel_rfl, by kernel_rfl, by kernel_rfl⟩
theorem agg78 (h : List AObj) (p : V) : aload env h 78 p = (loadCellsV h 4 p).map .agg := by
  unfold aload
  rw [show aggT env 78 = some true by kernel_rfl, show sz env 78 = some 4 by kernel_rfl]
  rfl
theorem z78 : zeroV env 78 = some (.agg [.int .i64 0, .int .i64 0, .int .i64 0, .nilsl]) := by kernel_rfl
theorem OutR.cut {n0 : Nat} {L : List AObj} {u : V} {rs : List Rec} (h : OutR n0 L u rs) {k : Nat} (hk : k ≤ rs.length) : ∃ w, sliceO env 58 u none (some (.int .i64 (k : Int))) none = some w ∧ RdR L w (rs.take k) := by
  rcases h with ⟨rfl, rfl⟩ | ⟨rfl, rfl⟩ | ⟨b, cs, rfl, h1, h2, _⟩
  · have : k = 0 := by simpa using hk
    subst this
    exact ⟨.nilsl, by simp [sliceO, u58, s55, vSlice, vBound], [], RdS.nil L 2, rfl⟩
  · have : k = 0 := by simpa using hk
    subst this
    exact ⟨.row [] 0 .full, by simp [sliceO, u58, s55, vSlice, vBound, subCap], [], RdS.row L 2 [] 0 .full rfl, rfl⟩
  · have hcl := h2.cell.2
    refine ⟨.hsl b 0 k rs.length ((HCap.grow 2).cut 2), by simp [sliceO, u58, s55, vSlice, vBound, hk], cs.take (k * 2), ?_, ?_⟩
    · have := RdS.hsl (w := 2) (off := 0) (n := k) (cap := rs.length) (ex := (HCap.grow 2).cut 2) h1 (by omega)
      rw [List.drop_zero] at this
      rw [List.length_take, Nat.min_eq_left hk]
      exact this
    · clear h1 hcl
      induction rs generalizing cs k with
      | nil =>
        have : k = 0 := by simpa using hk
        subst this; rfl
      | cons a rs ih =>
        cases k with
        | zero => rfl
        | succ k =>
          obtain ⟨gv, cs', rfl, h3, h4⟩ := h2
          exact ⟨gv, cs'.take (k * 2), by rw [show (k + 1) * 2 = k * 2 + 2 by omega]; rfl, h3, ih (by simpa using hk) _ h4⟩
structure At12 (L : List AObj) (ts : List Nat) (d j : Nat) (s : DS) (rs : List Rec) (n : Nat) (bv dv : V) (lr : Int) (lv : V) : Prop where
  js : JS L ts j d s rs n bv dv lr lv
  inv : Inv s rs n
theorem JS.keep {L L' : List AObj} {ts ts' : List Nat} {j d n : Nat} {s : DS} {rs : List Rec} {bv dv lv : V} {lr : Int} (h : JS L ts j d s rs n bv dv lr lv) (k : Keep L L') (ht : TK ts ts') : JS L' ts' j d s rs n bv dv lr lv := by
  obtain ⟨cs, h1, h2⟩ := h.row
  exact ⟨h.dk.keep k, k.get h.cell, h.sep, cs, ht.row h1, h2⟩
theorem JS.step {L L' : List AObj} {ts : List Nat} {j d n : Nat} {s s' : DS} {rs : List Rec} {bv dv bv' dv' lv : V} {lr lr' : Int} (h : JS L ts j d s rs n bv dv lr lv) (hd : Dk L' d s' bv' dv' lr') (hs : Step L L' (fp d bv dv) (fp d bv' dv')) : JS L' ts j d s' rs n bv' dv' lr' lv :=
  ⟨hd, by rw [hs.2.1 j (B.lt_get h.cell) h.sep]; exact h.cell, fun hf => by
    rcases hs.2.2 j hf with h' | h'
    · exact h.sep h'
    · have := B.lt_get h.cell; omega, h.row⟩
theorem OutR.mv {n0 : Nat} {L L' : List AObj} {u : V} {rs : List Rec} (h : OutR n0 L u rs) (k : ∀ q, blkOf u = some q → n0 ≤ q → q < L.length → L'[q]? = L[q]?) : OutR n0 L' u rs := by
  rcases h with h | h | ⟨b, cs, rfl, h1, h2, h3⟩
  · exact .inl h
  · exact .inr (.inl h)
  · exact .inr (.inr ⟨b, cs, rfl, by rw [k b rfl h3 (B.lt_get h1)]; exact h1, h2, h3⟩)
theorem crash_len (s : DS) (k : Int) : (crashS s k).1.D.length + (crashS s k).1.P.length ≤ s.D.length + s.P.length := by
  unfold crashS
  split
  · exact Nat.le_refl _
  · simp only [List.length_append, List.length_nil, List.length_take]; omega
theorem sync_len (s : DS) : (syncS s).1.D.length + (syncS s).1.P.length ≤ s.D.length + s.P.length := by
  unfold syncS
  split
  · exact Nat.le_refl _
  · split
    · exact Nat.le_refl _
    · simp
theorem fuse_len (s : DS) (k : Int) : (fuseS s k).1.D.length + (fuseS s k).1.P.length ≤ s.D.length + s.P.length := by
  unfold fuseS
  split
  · exact Nat.le_refl _
  · split <;> exact Nat.le_refl _
theorem app_len (s : DS) (rs : List Rec) (r : Rec) : (appS s rs r).1.D.length + (appS s rs r).1.P.length ≤ s.D.length + s.P.length + 200000 ∧ (appS s rs r).2.2.length ≤ rs.length + 1 := by
  unfold appS
  by_cases h0 : chkR r = 0
  · simp only [h0, if_true]
    have hb := bytR_len r
    obtain ⟨_, _, _, _, h5⟩ := chk0 h0
    have hw : (wrS s (bytR r)).1.D.length + (wrS s (bytR r)).1.P.length ≤ s.D.length + s.P.length + 200000 := by
      unfold wrS
      split
      · simp only; omega
      · split
        · simp only [List.length_append]; omega
        · split
          · simp only [List.length_append, List.length_take]; omega
          · simp only [List.length_append]; omega
    split
    · exact ⟨hw, by simp⟩
    · exact ⟨hw, by simp⟩
  · simp only [h0, if_false]
    exact ⟨by omega, by omega⟩
theorem long_ok' {r : Rec} (h : longR r = false) : r.fs.length ≤ 70 := by
  unfold longR at h
  rw [Bool.or_eq_false_iff, decide_eq_false_iff_not] at h
  omega
theorem IsKA.len {v : V} {l : List KA} (h : IsKA v l) (e : TypeId) : vLenT (some (.slice e)) v = some (.int .i64 l.length) := (h.rd []).2.1 e
theorem fts78 : fieldTs env.P 78 = some [3, 3, 55] := by kernel_rfl
theorem tyd_KA {x : List V} {k : Nat} (h : Tyd env.P (k + 4) 78 x) : ∃ a : KA, x = a.cs := by
  obtain ⟨a, r, rfl, ha, b, r2, rfl, hb, c, r3, rfl, hc, rfl⟩ := tyd_struct h fts78
  obtain ⟨n, rfl, _⟩ := tyd_int ha u3
  obtain ⟨m, rfl, hm1, hm2⟩ := tyd_int hb u3
  obtain ⟨a, rfl⟩ := tyd_R hc
  exact ⟨⟨n, m, a.r, a.fv, a.fld, hm1, hm2⟩, rfl⟩
theorem tyd_KS {v : V} {k : Nat} (h : Tyd env.P (k + 5) 73 [v]) : ∃ l, IsKA v l := by
  rcases tyd_slice h ty78.2.1 with h | ⟨vss, h, hl, _, ht⟩
  · simp only [List.cons.injEq, and_true] at h
    exact ⟨[], .inl ⟨h, rfl⟩⟩
  · simp only [List.cons.injEq, and_true] at h
    obtain ⟨cs, rfl⟩ := tyd_map (f := KA.cs) (fun x hx => tyd_KA hx) ht
    subst h
    exact ⟨cs, .inr (by rw [List.length_map]; rfl)⟩
end Go.Proofs.YtncohjljeoknkaaDoor.D
namespace Go.Proofs.YtncohjljeoknkaaDoor.D
open Go.Ab
set_option maxHeartbeats 8000000
set_option maxRecDepth 100000
set_option linter.unusedSimpArgs false
set_option linter.unusedVariables false
theorem at11 : env.P.funcs[11]? = some Tryd.f11 := by kernel_rfl
theorem aread_conv (T : Tm) (s : S) (x : Operand) : aread env (evalT env T) s (.convert 26 9 x) = (evalT env T x).bind fun v => convR env s.heap (some (.slice 5)) (some .string) v := by
  simp only [aread, u26, u9]
  cases evalT env T x <;> rfl
theorem Rd.convR {L : List AObj} {y : V} {t : List UInt8} (h : Rd L y t) : convR env L (some (.slice 5)) (some .string) y = some (.str t) := by
  have hv := h.vcells
  rcases h with ⟨rfl, rfl⟩ | ⟨b, off, cap, ex, cs, rfl, _⟩ | ⟨cells, cap, rfl, _⟩ <;> simp [Go.Ab.convR, u5, hv, bytesOf_cells]
structure At11 (L : List AObj) (ts : List Nat) (d j o k : Nat) (s : DS) (rs : List Rec) (n : Nat) (bv dv : V) (lr : Int) (lv lw : V) : Prop where
  js : JS L ts j d s rs n bv dv lr lv
  rj : RJ L ts k o rs n lw
  rf : RefAt L o s
  ko : k ≠ o
  kj : k ≠ j
  oj : o ≠ j
  kd : ¬ fp d bv dv k
  od : ¬ fp d bv dv o
  tok : ∀ x, tokOf lv = some x → tokOf lw ≠ some x
  ok : OkS s
  chk : ∀ r ∈ rs, chkR r = 0
noncomputable def body11 : Code := (blkC 1 (bodyOf Tryd.f11)).getD .skip
theorem RJ.keep {L L' : List AObj} {ts ts' : List Nat} {k o n : Nat} {rs : List Rec} {lv : V} (h : RJ L ts k o rs n lv) (hk : L'[k]? = L[k]?) (ht : TK ts ts') : RJ L' ts' k o rs n lv := by
  obtain ⟨cs, h1, h2⟩ := h.row
  exact ⟨by rw [hk]; exact h.cell, cs, ht.row h1, h2⟩
theorem At11.keep {L L' : List AObj} {ts ts' : List Nat} {d j o k n : Nat} {s : DS} {rs : List Rec} {bv dv lv lw : V} {lr : Int} (h : At11 L ts d j o k s rs n bv dv lr lv lw) (hk : Keep L L') (ht : TK ts ts') : At11 L' ts' d j o k s rs n bv dv lr lv lw :=
  ⟨h.js.keep hk ht, h.rj.keep (hk.2 k (B.lt_get h.rj.cell)) ht, h.rf.move (hk.2 o h.rf.lt), h.ko, h.kj, h.oj, h.kd, h.od, h.tok, h.ok, h.chk⟩
theorem tail11 {Q : Post} {ks : List Kt} {L : List AObj} {ts : List Nat} {d j o k n : Nat} {s : DS} {rs : List Rec} {bv dv lv lw : V} {lr : Int} {T : Tm} (c : Code) (hc : c = dropC 3 body11) (h : At11 L ts d j o k s rs n bv dv lr lv lw) (hl : s.D.length + s.P.length ≤ 2 ^ 38) (hrl : rs.length ≤ 2 ^ 29)
    (t5 : T 5 = .ptr d 0) (t6 : T 6 = .ptr o 0) (t7 : T 7 = .ptr j 0) (t10 : T 10 = .ptr k 0)
    (hQ : ∀ T' L' ts', T' 1 = T 1 → T' 5 = T 5 → T' 6 = T 6 → T' 7 = T 7 → T' 10 = T 10 → T' 13 = T 13 → At11 L' ts' d j o k s rs n bv dv lr lv lw → G env 11 none 192 Q ks .skip T' [] ⟨L', ts'⟩) : G env 11 none 192 Q ks c T [] ⟨L, ts⟩ := by
  subst hc
  simp only [body11, bodyOf, Tryd.f11, Option.getD_some, blkC, Option.or, dropC, Nat.reduceEqDiff, if_false, if_true, reduceIte]
  have hfs : ∀ r ∈ rs, r.fs.length ≤ 2 ^ 30 := fun r hr => by have := (chk0 (h.chk r hr)).2.2.1; omega
  obtain ⟨u, L1, ts1, hR, hK1, hT1, hO1⟩ := records_call2 (ts := ts) h.js (by omega) hfs
  have h1 := h.keep hK1 hT1
  have hck := h.rj.cell
  have hck1 := h1.rj.cell
  obtain ⟨cs, hw1, hw2⟩ := h1.rj.row
  have hS := same_call (L := L1) (ts := ts1) hO1.rd ⟨cs, hw1.rd L1, hw2⟩ (by omega) (fun r hr => by have := hfs r hr; omega)
  have hSy := synced_call (ts := ts1) h1.js
  obtain ⟨v, L2, hA, hO2, hK2, hN2⟩ := all_call (ts := ts1) h1.js.dk hl
  have h2 := h1.keep hK2 (TK.refl _)
  obtain ⟨w, ts3, hB, hW, hT3⟩ := rall_callT (ts := ts1) h2.rf hl
  have h3 := h2.keep (Keep.refl _) hT3
  have hck2 := h2.rj.cell
  have e1 : convO env ⟨L2, ts1⟩ 26 9 (some (.slice 5)) (some .string) v = some (.str (s.D ++ s.P), ⟨L2, ts1⟩) := hO2.rd.str ts1
  have e2 : convO env ⟨L2, ts3⟩ 26 9 (some (.slice 5)) (some .string) w = some (.str (s.D ++ s.P), ⟨L2, ts3⟩) := (hW.rd L2).str ts3
  rw [Za]
  refine G_win rfl [(false, []), (true, []), (false, []), (false, []), (false, []), (false, [0]), (true, []), (false, []), (false, []), (false, []), (true, []), (false, []), (false, []), (false, []), (false, [2]), (false, []), (false, []), (false, []), (false, []), (true, []), (false, [5]), (false, []), (true, []), (false, []), (false, []), (false, [])] (fun m s0 => s0.heap[k]? = some (.cells [.ptr o 0, lw, .int .i64 n] 80) ∧ (4 ≤ m → Rd s0.heap v (s.D ++ s.P))) ⟨hck, fun h => absurd h (by decide)⟩ (by kernel_rfl) (by kernel_rfl) ?_
  simp -implicitDefEqProofs only [Wa,Wb,Wc,Wd,We,Wf,Wg,Wh,Wi,Wj,Wk,Wl,Wm,Wn,Zo,Zp,evalT,Nat.reduceLT,Nat.reduceEqDiff,if_true,if_false,reduceIte,Ys,ofVal,ofCell,argT,resT,setT,Y0,Int.reduceEq,Int.reduceLT,Int.reduceLE,Int.reduceNeg,mb,Nat.reduceBEq,tys,stb,Va,storeList,Nat.reduceAdd,Nat.reduceLeDiff,tyj,vBin_xor,vBin_or,vBin_shl,vBin_shr,ty70,ty80,t5,t6,t7,t10,GW_nil,GW_op,GW_run,GW_pass,GW_none,guardV,Option.map_some,Option.bind_some,Bool.not_true,Bool.not_false,GWS_0,GWS_0n,GWS_1,GWS_1n,GWS_m,GWS_ite,GWS_nite,AllM_nil,AllM_cons,aread_load,aread_conv,opT_nilCheck,nilO_ptr,hR,hck,hck1,hck2,hS,hSy,hA,hB,e1,e2,vBin_sne]
  exact ⟨⟨fun s0 e => by rw [e.1]; rfl, trivial⟩, ⟨fun s0 e => by rw [e.1]; rfl, trivial⟩, hO2.rd, ⟨fun s0 e => e.2.convR, trivial⟩, hO2.rd, hQ _ L2 ts3 rfl rfl rfl rfl rfl rfl h3⟩
end Go.Proofs.YtncohjljeoknkaaDoor.D
namespace Go.Proofs.YtncohjljeoknkaaDoor.D
open Go.Ab
set_option maxHeartbeats 8000000
set_option maxRecDepth 100000
set_option linter.unusedSimpArgs false
set_option linter.unusedVariables false
theorem TB.rowOf {v v' u : V} {ts ts' : List Nat} {w n : Nat} {cs : List V} (h : TB v v' ts ts') (hn : ∀ x, tokOf u = some x → tokOf v ≠ some x) (r : RowT ts w u n cs) : RowT ts' w u n cs :=
  RowT.other r fun k hk hlt => h.2.1 k (hn k hk) hlt
theorem neq74 (b o : Nat) (cc : Bool) : binO env 74 cc .eql (some (.ptr b o)) (some .nilptr) = some (.bool false) := by cases cc <;> kernel_rfl
theorem neq63n (b o : Nat) (cc : Bool) : binO env 63 cc .neq (some (.ptr b o)) (some .nilptr) = some (.bool true) := by cases cc <;> kernel_rfl
theorem neq74n (b o : Nat) (cc : Bool) : binO env 74 cc .neq (some (.ptr b o)) (some .nilptr) = some (.bool true) := by cases cc <;> kernel_rfl
theorem nil63 (cc : Bool) : binO env 63 cc .eql (some .nilptr) (some .nilptr) = some (.bool true) ∧ binO env 63 cc .neq (some .nilptr) (some .nilptr) = some (.bool false) := by cases cc <;> exact ⟨by kernel_rfl, by kernel_rfl⟩
theorem nil74 (cc : Bool) : binO env 74 cc .eql (some .nilptr) (some .nilptr) = some (.bool true) := by cases cc <;> kernel_rfl
theorem At11.pkg {L L' : List AObj} {ts ts' : List Nat} {d j o k n : Nat} {s : DS} {rs : List Rec} {bv dv lv lw lv' : V} {lr : Int} (h : At11 L ts d j o k s rs n bv dv lr lv lw) (ht : TB lv lv' ts ts') (low : ∀ q, q < L.length → q ≠ j → ¬ fp d bv dv q → L'[q]? = L[q]?) :
    RJ L' ts' k o rs n lw ∧ RefAt L' o s ∧ ∀ x, tokOf lv' = some x → tokOf lw ≠ some x := by
  obtain ⟨cs, h1, h2⟩ := h.rj.row
  refine ⟨⟨by rw [low k (B.lt_get h.rj.cell) h.kj h.kd]; exact h.rj.cell, cs, ht.rowOf (fun x hx hv => h.tok x hv hx) h1, h2⟩, h.rf.move (low o h.rf.lt h.oj h.od), fun x hx hw => ?_⟩
  rcases ht.2.2 x hx with e | e
  · exact h.tok x e hw
  · have := RowT.tlt h1 hw; omega
theorem JS.ref {L L' : List AObj} {ts ts' : List Nat} {d j o k n : Nat} {s : DS} {rs : List Rec} {bv dv lv lw lw' : V} {lr : Int} (h : JS L ts j d s rs n bv dv lr lv) (ht : TB lw lw' ts ts') (htok : ∀ x, tokOf lv = some x → tokOf lw ≠ some x) (low : ∀ q, q < L.length → q ≠ k → q ≠ o → L'[q]? = L[q]?) (kj : k ≠ j) (oj : o ≠ j) (kd : ¬ fp d bv dv k) (od : ¬ fp d bv dv o) :
    JS L' ts' j d s rs n bv dv lr lv ∧ ∀ x, tokOf lv = some x → tokOf lw' ≠ some x := by
  obtain ⟨cs, h1, h2⟩ := h.row
  refine ⟨⟨h.dk.mv fun q hq => low q (h.dk.flt hq) (fun e => kd (by rw [← e]; exact hq)) (fun e => od (by rw [← e]; exact hq)), by rw [low j (B.lt_get h.cell) (Ne.symm kj) (Ne.symm oj)]; exact h.cell, h.sep, cs, ht.rowOf htok h1, h2⟩, fun x hx hw => ?_⟩
  rcases ht.2.2 x hw with e | e
  · exact htok x hx e
  · have := RowT.tlt h1 hx; omega
theorem appS_chk {s : DS} {rs : List Rec} {r : Rec} (h : ∀ q ∈ rs, chkR q = 0) : ∀ q ∈ (appS s rs r).2.2, chkR q = 0 := by
  unfold appS
  by_cases h0 : chkR r = 0
  · simp only [h0, if_true]
    split
    · intro q hq
      rcases List.mem_append.1 hq with hq | hq
      · exact h q hq
      · rw [List.mem_singleton.1 hq]; exact h0
    · exact h
  · simp only [h0, if_false]; exact h
theorem wrS_ok {s : DS} {b : List UInt8} (h : OkS s) : OkS (wrS s b).1 := by
  obtain ⟨h1, h2⟩ := h
  unfold wrS
  split
  · exact ⟨h1, h2⟩
  · split
    · exact ⟨by simp, by simp⟩
    · split
      · exact ⟨by simp, by simp⟩
      · constructor <;> simp only <;> omega
theorem appS_ok {s : DS} {rs : List Rec} {r : Rec} (h : OkS s) : OkS (appS s rs r).1 := by
  unfold appS
  by_cases h0 : chkR r = 0
  · simp only [h0, if_true]
    split <;> exact wrS_ok h
  · simp only [h0, if_false]; exact h
theorem syncS_ok {s : DS} (h : OkS s) : OkS (syncS s).1 := by
  unfold syncS
  split
  · exact h
  · split
    · exact ⟨by simp, by simp⟩
    · exact h
theorem fuseS_ok {s : DS} (h : OkS s) {n : Int} (hn : n ≤ 9223372036854775807) : OkS (fuseS s n).1 := by
  unfold fuseS
  split
  · exact h
  · split
    · exact h
    · exact ⟨by simp only; omega, hn⟩
theorem crashS_ok {s : DS} (h : OkS s) (n : Int) : OkS (crashS s n).1 := by
  unfold crashS
  split
  · exact h
  · exact ⟨by simp, by simp⟩
noncomputable def act11C : Code := headC (dropC 2 body11)
theorem act11 {Q : Post} {ks : List Kt} {T : Tm} {L : List AObj} {ts : List Nat} {d j o k n Bd x : Nat} {s : DS} {rs : List Rec} {bv dv lv lw : V} {lr : Int} {a : KA} (hlong : longR a.r = false) (c : Code) (hc : c = act11C)
    (t5 : T 5 = .ptr d 0) (t6 : T 6 = .ptr o 0) (t7 : T 7 = .ptr j 0) (t10 : T 10 = .ptr k 0) (t14 : T 14 = .ptr x 0) (hx : L[x]? = some (.cells a.cs 78)) (hxf : ¬ fp d bv dv x) (hxj : x ≠ j) (hxk : x ≠ k) (hxo : x ≠ o) (h : At11 L ts d j o k s rs n bv dv lr lv lw) (hB : Bd ≤ 2 ^ 26) (hlen : s.D.length + s.P.length ≤ Bd) (hrs : rs.length ≤ Bd)
    (hQ : ∀ T' L' ts' j' k' s' rs' n' bv' dv' lr' lv' lw', T' 1 = T 1 → T' 5 = T 5 → T' 6 = T 6 → T' 7 = .ptr j' 0 → T' 10 = .ptr k' 0 → T' 13 = T 13 → At11 L' ts' d j' o k' s' rs' n' bv' dv' lr' lv' lw' → s'.D.length + s'.P.length ≤ Bd + 200000 → rs'.length ≤ Bd + 200000 → G env 11 none 192 Q ks .skip T' [] ⟨L', ts'⟩) :
    G env 11 none 192 Q ks c T [] ⟨L, ts⟩ := by
  subst hc
  simp only [act11C, headC, body11, bodyOf, Tryd.f11, Option.getD_some, blkC, Option.or, dropC, Nat.reduceEqDiff, if_false, if_true, reduceIte]
  have hfs := long_ok' hlong
  have lk : (loadCellsV L 1 (.ptr x 0)).bind (·[0]?) = some (.int .i64 a.kind) := by rw [YA, hx]; rfl
  have ld1 : (loadCellsV L 1 (.ptr x 1)).bind (·[0]?) = some (.int .i64 a.n) := by rw [YA, hx]; rfl
  have ld2 : loadCellsV L 2 (.ptr x 2) = some [.int .i64 a.r.k, a.fv] := by simp [loadCellsV, hx, KA.cs]
  have hxl := B.lt_get hx
  by_cases k012 : a.kind = 0 ∨ a.kind = 1 ∨ a.kind = 2
  · obtain ⟨L1, ts1, bv1, dv1, lr1, lv1, hA, hJ, hTB, low1, len1, fp1⟩ := jappend_call h.js h.ok a.fld (by omega) (by omega) (by omega)
    obtain ⟨hrj1, hrf1, htok1⟩ := h.pkg hTB low1
    obtain ⟨L2, ts2, lw2, hA2, hrj2, hrf2, hTB2, len2, low2⟩ := rappendJ_call hrj1 hrf1 h.ok h.ko a.fld (by omega) (by omega) (by omega)
    have nf : ∀ q, q < L.length → ¬ fp d bv dv q → ¬ fp d bv1 dv1 q := fun q hq hn hf => by
      rcases fp1 q hf with h' | h'
      · exact hn h'
      · omega
    have hkd := nf k (B.lt_get h.rj.cell) h.kd
    have hod := nf o h.rf.lt h.od
    obtain ⟨hJ2, htok2⟩ := hJ.ref (o := o) (k := k) hTB2 htok1 low2 h.kj h.oj hkd hod
    obtain ⟨l1, l2⟩ := app_len s rs a.r
    have hx1 : L1[x]? = some (.cells a.cs 78) := by rw [low1 x hxl hxj hxf]; exact hx
    have ld21 : loadCellsV L1 2 (.ptr x 2) = some [.int .i64 a.r.k, a.fv] := by simp [loadCellsV, hx1, KA.cs]
    have o1 : (appS s rs a.r).1.D.length + (appS s rs a.r).1.P.length ≤ Bd + 200000 := by omega
    have o2 : (appS s rs a.r).2.2.length ≤ Bd + 200000 := by omega
    have hAt : At11 L2 ts2 d j o k (appS s rs a.r).1 (appS s rs a.r).2.2 n bv1 dv1 lr1 lv1 lw2 := ⟨hJ2, hrj2, hrf2, h.ko, h.kj, h.oj, hkd, hod, htok2, appS_ok h.ok, appS_chk h.chk⟩
    have win : ∀ T', T' 1 = T 1 → T' 5 = T 5 → T' 6 = T 6 → T' 7 = .ptr j 0 → T' 10 = .ptr k 0 → T' 13 = T 13 → G env 11 none 192 Q ks .skip T' [] ⟨L2, ts2⟩ := fun T' u1 u5 u6 u7 u10 u13 => hQ T' L2 ts2 j k _ _ _ _ _ _ _ _ u1 u5 u6 u7 u10 u13 hAt o1 o2
    have fin : ∀ s0 : S, s0.heap[x]? = some (.cells a.cs 78) → (loadCellsV s0.heap 2 (.ptr x 2)).map V.agg = some (.agg [.int .i64 a.r.k, a.fv]) := fun s0 e => by simp [loadCellsV, e, KA.cs]
    rcases k012 with e | e | e
    · simp -implicitDefEqProofs only [Wa,Wb,Wc,Wd,We,Wf,Wg,Wh,Wi,Wj,Wk,Wl,Wm,Wn,Zo,Zp,evalT,Nat.reduceLT,Nat.reduceEqDiff,if_true,if_false,reduceIte,Ys,ofVal,ofCell,argT,resT,setT,Y0,Int.reduceEq,Int.reduceLT,Int.reduceLE,Int.reduceNeg,mb,Nat.reduceBEq,tys,stb,Va,storeList,Nat.reduceAdd,Nat.reduceLeDiff,tyj,vBin_xor,vBin_or,vBin_shl,vBin_shr,ty78,t14,lk,e]
      refine G_win rfl [(false, []), (false, []), (false, []), (true, []), (false, []), (false, []), (false, [0]), (true, []), (false, [])] (fun m s0 => m ≤ 1 → s0.heap[x]? = some (.cells a.cs 78)) (fun _ => hx) (by kernel_rfl) (by kernel_rfl) ?_
      simp -implicitDefEqProofs only [Wa,Wb,Wc,Wd,We,Wf,Wg,Wh,Wi,Wj,Wk,Wl,Wm,Wn,Zo,Zp,evalT,Nat.reduceLT,Nat.reduceEqDiff,if_true,if_false,reduceIte,Ys,ofVal,ofCell,argT,resT,setT,Y0,Int.reduceEq,Int.reduceLT,Int.reduceLE,Int.reduceNeg,mb,Nat.reduceBEq,tys,stb,Va,storeList,Nat.reduceAdd,Nat.reduceLeDiff,tyj,vBin_xor,vBin_or,vBin_shl,vBin_shr,ty78,t7,t10,t14,GW_nil,GW_op,GWS_0,GWS_0n,GWS_1,GWS_1n,GWS_m,GWS_ite,GWS_nite,AllM_nil,AllM_cons,aread_load,agg55,ld2,ld21,hA,hA2,hx1]
      exact ⟨⟨fun s0 e => fin s0 e, trivial⟩, win _ rfl rfl rfl t7 t10 rfl⟩
    · simp -implicitDefEqProofs only [Wa,Wb,Wc,Wd,We,Wf,Wg,Wh,Wi,Wj,Wk,Wl,Wm,Wn,Zo,Zp,evalT,Nat.reduceLT,Nat.reduceEqDiff,if_true,if_false,reduceIte,Ys,ofVal,ofCell,argT,resT,setT,Y0,Int.reduceEq,Int.reduceLT,Int.reduceLE,Int.reduceNeg,mb,Nat.reduceBEq,tys,stb,Va,storeList,Nat.reduceAdd,Nat.reduceLeDiff,tyj,vBin_xor,vBin_or,vBin_shl,vBin_shr,ty78,t14,lk,e]
      refine G_win rfl [(false, []), (false, []), (false, []), (true, []), (false, []), (false, []), (false, [0]), (true, []), (false, [])] (fun m s0 => m ≤ 1 → s0.heap[x]? = some (.cells a.cs 78)) (fun _ => hx) (by kernel_rfl) (by kernel_rfl) ?_
      simp -implicitDefEqProofs only [Wa,Wb,Wc,Wd,We,Wf,Wg,Wh,Wi,Wj,Wk,Wl,Wm,Wn,Zo,Zp,evalT,Nat.reduceLT,Nat.reduceEqDiff,if_true,if_false,reduceIte,Ys,ofVal,ofCell,argT,resT,setT,Y0,Int.reduceEq,Int.reduceLT,Int.reduceLE,Int.reduceNeg,mb,Nat.reduceBEq,tys,stb,Va,storeList,Nat.reduceAdd,Nat.reduceLeDiff,tyj,vBin_xor,vBin_or,vBin_shl,vBin_shr,ty78,t7,t10,t14,GW_nil,GW_op,GWS_0,GWS_0n,GWS_1,GWS_1n,GWS_m,GWS_ite,GWS_nite,AllM_nil,AllM_cons,aread_load,agg55,ld2,ld21,hA,hA2,hx1]
      exact ⟨⟨fun s0 e => fin s0 e, trivial⟩, win _ rfl rfl rfl t7 t10 rfl⟩
    · simp -implicitDefEqProofs only [Wa,Wb,Wc,Wd,We,Wf,Wg,Wh,Wi,Wj,Wk,Wl,Wm,Wn,Zo,Zp,evalT,Nat.reduceLT,Nat.reduceEqDiff,if_true,if_false,reduceIte,Ys,ofVal,ofCell,argT,resT,setT,Y0,Int.reduceEq,Int.reduceLT,Int.reduceLE,Int.reduceNeg,mb,Nat.reduceBEq,tys,stb,Va,storeList,Nat.reduceAdd,Nat.reduceLeDiff,tyj,vBin_xor,vBin_or,vBin_shl,vBin_shr,ty78,t14,lk,e]
      refine G_win rfl [(false, []), (false, []), (false, []), (true, []), (false, []), (false, []), (false, [0]), (true, []), (false, [])] (fun m s0 => m ≤ 1 → s0.heap[x]? = some (.cells a.cs 78)) (fun _ => hx) (by kernel_rfl) (by kernel_rfl) ?_
      simp -implicitDefEqProofs only [Wa,Wb,Wc,Wd,We,Wf,Wg,Wh,Wi,Wj,Wk,Wl,Wm,Wn,Zo,Zp,evalT,Nat.reduceLT,Nat.reduceEqDiff,if_true,if_false,reduceIte,Ys,ofVal,ofCell,argT,resT,setT,Y0,Int.reduceEq,Int.reduceLT,Int.reduceLE,Int.reduceNeg,mb,Nat.reduceBEq,tys,stb,Va,storeList,Nat.reduceAdd,Nat.reduceLeDiff,tyj,vBin_xor,vBin_or,vBin_shl,vBin_shr,ty78,t7,t10,t14,GW_nil,GW_op,GWS_0,GWS_0n,GWS_1,GWS_1n,GWS_m,GWS_ite,GWS_nite,AllM_nil,AllM_cons,aread_load,agg55,ld2,ld21,hA,hA2,hx1]
      exact ⟨⟨fun s0 e => fin s0 e, trivial⟩, win _ rfl rfl rfl t7 t10 rfl⟩
  · have n0 : ¬ a.kind = 0 := fun e => k012 (.inl e)
    have n1 : ¬ a.kind = 1 := fun e => k012 (.inr (.inl e))
    have n2 : ¬ a.kind = 2 := fun e => k012 (.inr (.inr e))
    by_cases k3 : a.kind = 3
    · obtain ⟨L1, bv1, dv1, lr1, hA, hJ, low1, len1, fp1⟩ := jsync_call (ts := ts) h.js (by omega)
      obtain ⟨hrj1, hrf1, htok1⟩ := h.pkg (TB.of (TK.refl ts)) low1
      obtain ⟨L2, ts2, hA2, hrj2, hrf2, hT2, len2, low2⟩ := rsyncJ_call (ts := ts) hrj1 hrf1 h.ko (by omega)
      have nf : ∀ q, q < L.length → ¬ fp d bv dv q → ¬ fp d bv1 dv1 q := fun q hq hn hf => by
        rcases fp1 q hf with h' | h'
        · exact hn h'
        · omega
      have hkd := nf k (B.lt_get h.rj.cell) h.kd
      have hod := nf o h.rf.lt h.od
      obtain ⟨hJ2, htok2⟩ := hJ.ref (o := o) (k := k) (TB.of hT2) htok1 (fun q _ => low2 q) h.kj h.oj hkd hod
      have l1 := sync_len s
      simp -implicitDefEqProofs only [Wa,Wb,Wc,Wd,We,Wf,Wg,Wh,Wi,Wj,Wk,Wl,Wm,Wn,Zo,Zp,evalT,Nat.reduceLT,Nat.reduceEqDiff,if_true,if_false,reduceIte,Ys,ofVal,ofCell,argT,resT,setT,Y0,Int.reduceEq,Int.reduceLT,Int.reduceLE,Int.reduceNeg,mb,Nat.reduceBEq,tys,stb,Va,storeList,Nat.reduceAdd,Nat.reduceLeDiff,tyj,vBin_xor,vBin_or,vBin_shl,vBin_shr,ty78,t7,t10,t14,lk,k3,hA,hA2]
      exact hQ _ L2 ts2 j k _ _ _ _ _ _ _ _ rfl rfl rfl t7 t10 rfl ⟨hJ2, hrj2, hrf2, h.ko, h.kj, h.oj, hkd, hod, htok2, syncS_ok h.ok, h.chk⟩ (Nat.le_trans l1 (Nat.le_trans hlen (Nat.le_add_right _ _))) (Nat.le_trans hrs (Nat.le_add_right _ _))
    · by_cases k5 : a.kind = 5
      · obtain ⟨L1, bv1, dv1, lr1, hA, hD1, hS1⟩ := fuse_call (ts := ts) a.n h.js.dk
        have hJ := h.js.step hD1 hS1
        obtain ⟨hrj1, hrf1, htok1⟩ := h.pkg (TB.of (TK.refl ts)) (fun q hq _ hn => hS1.2.1 q hq hn)
        obtain ⟨L2, ts2, hA2, hrf2, hB2, hT2⟩ := rfuse_callT (ts := ts) a.n hrf1
        have nf : ∀ q, q < L.length → ¬ fp d bv dv q → ¬ fp d bv1 dv1 q := fun q hq hn hf => by
          rcases hS1.2.2 q hf with h' | h'
          · exact hn h'
          · omega
        have hkd := nf k (B.lt_get h.rj.cell) h.kd
        have hod := nf o h.rf.lt h.od
        obtain ⟨hJ2, htok2⟩ := hJ.ref (o := o) (k := k) (TB.of hT2) htok1 (fun q _ _ hqo => hB2.2 q hqo) h.kj h.oj hkd hod
        have hrj2 := hrj1.keep (hB2.2 k h.ko) hT2
        have l1 := fuse_len s a.n
        have hx1 : L1[x]? = some (.cells a.cs 78) := by rw [hS1.2.1 x hxl hxf]; exact hx
        have ld11 : (loadCellsV L1 1 (.ptr x 1)).bind (·[0]?) = some (.int .i64 a.n) := by rw [YA, hx1]; rfl
        simp -implicitDefEqProofs only [Wa,Wb,Wc,Wd,We,Wf,Wg,Wh,Wi,Wj,Wk,Wl,Wm,Wn,Zo,Zp,evalT,Nat.reduceLT,Nat.reduceEqDiff,if_true,if_false,reduceIte,Ys,ofVal,ofCell,argT,resT,setT,Y0,Int.reduceEq,Int.reduceLT,Int.reduceLE,Int.reduceNeg,mb,Nat.reduceBEq,tys,stb,Va,storeList,Nat.reduceAdd,Nat.reduceLeDiff,tyj,vBin_xor,vBin_or,vBin_shl,vBin_shr,ty78,t14,lk,k5]
        refine G_win rfl [(false, []), (false, []), (false, []), (true, []), (false, []), (false, []), (false, [0]), (true, []), (false, [])] (fun m s0 => m ≤ 1 → s0.heap[x]? = some (.cells a.cs 78)) (fun _ => hx) (by kernel_rfl) (by kernel_rfl) ?_
        simp -implicitDefEqProofs only [Wa,Wb,Wc,Wd,We,Wf,Wg,Wh,Wi,Wj,Wk,Wl,Wm,Wn,Zo,Zp,evalT,Nat.reduceLT,Nat.reduceEqDiff,if_true,if_false,reduceIte,Ys,ofVal,ofCell,argT,resT,setT,Y0,Int.reduceEq,Int.reduceLT,Int.reduceLE,Int.reduceNeg,mb,Nat.reduceBEq,tys,stb,Va,storeList,Nat.reduceAdd,Nat.reduceLeDiff,tyj,vBin_xor,vBin_or,vBin_shl,vBin_shr,ty78,t5,t6,t7,t10,t14,GW_nil,GW_op,GWS_0,GWS_0n,GWS_1,GWS_1n,GWS_m,GWS_ite,GWS_nite,AllM_nil,AllM_cons,aread_load,ld1,ld11,hA,hA2,hx1]
        refine ⟨⟨fun s0 e => by rw [e]; rfl, trivial⟩, ?_⟩
        exact hQ _ L2 ts2 j k _ _ _ _ _ _ _ _ rfl rfl rfl t7 t10 rfl ⟨hJ2, hrj2, hrf2, h.ko, h.kj, h.oj, hkd, hod, htok2, fuseS_ok h.ok a.nb.2, h.chk⟩ (Nat.le_trans l1 (Nat.le_trans hlen (Nat.le_add_right _ _))) (Nat.le_trans hrs (Nat.le_add_right _ _))
      · by_cases k4 : a.kind = 4
        · obtain ⟨L1, bv1, dv1, lr1, hA, hD1, hS1⟩ := crash_call (ts := ts) a.n h.js.dk (by omega)
          have hJ := h.js.step hD1 hS1
          obtain ⟨hrj1, hrf1, htok1⟩ := h.pkg (TB.of (TK.refl ts)) (fun q hq _ hn => hS1.2.1 q hq hn)
          obtain ⟨L2, ts2, hA2, hrf2, hB2, hT2⟩ := rcrash_callT (ts := ts) a.n hrf1 (by omega)
          have nf : ∀ q, q < L.length → ¬ fp d bv dv q → ¬ fp d bv1 dv1 q := fun q hq hn hf => by
            rcases hS1.2.2 q hf with h' | h'
            · exact hn h'
            · omega
          have hkd := nf k (B.lt_get h.rj.cell) h.kd
          have hod := nf o h.rf.lt h.od
          obtain ⟨hJ2, htok2⟩ := hJ.ref (o := o) (k := k) (TB.of hT2) htok1 (fun q _ _ hqo => hB2.2 q hqo) h.kj h.oj hkd hod
          have hrj2 := hrj1.keep (hB2.2 k h.ko) hT2
          have l1 := crash_len s a.n
          have hx1 : L1[x]? = some (.cells a.cs 78) := by rw [hS1.2.1 x hxl hxf]; exact hx
          have ld11 : (loadCellsV L1 1 (.ptr x 1)).bind (·[0]?) = some (.int .i64 a.n) := by rw [YA, hx1]; rfl
          have hok1 := crashS_ok h.ok a.n
          generalize (crashS s a.n).1 = s1 at hJ hJ2 hrf2 l1 hok1 hD1
          generalize (crashS s a.n).2 = e1 at hA hA2
          have hol2 : o < L2.length := hrf2.lt
          cases ho : opens s1 with
          | true =>
            obtain ⟨p1, p2⟩ := opens_t ho
            have hDl : s1.D.length ≤ 2 ^ 28 := by omega
            obtain ⟨L3, ts3, bv3, dv3, lr3, j3, lv3, u3, hO3, hJ3, hU3, hT3, htk3, low3, len3, fp3, hj3⟩ := open_ok (ts := ts2) hJ2.dk p1 p2 hDl
            have hrf3 : RefAt L3 o s1 := hrf2.move (low3 o hol2 hod)
            obtain ⟨L4, ts4, lw4, u4, hO4, hJ4, hrf4, hT4, htk4, hU4, low4, len4⟩ := ropen_ok (ts := ts3) hrf3 ho hDl
            generalize hk4 : L4.length - 1 = k4' at hO4 hJ4
            have hjl3 := B.lt_get hJ3.cell
            have hoj : o ≠ j3 := by omega
            have hkj : k4' ≠ j3 := by omega
            have hko : k4' ≠ o := by omega
            have hkd3 : ¬ fp d bv3 dv3 k4' := fun hf => by have := hJ3.dk.flt hf; omega
            have hod3 : ¬ fp d bv3 dv3 o := fun hf => by
              rcases fp3 o hf with h' | h'
              · exact hod h'
              · omega
            obtain ⟨hJ5, _⟩ := hJ3.ref (o := o) (k := k4') (lw := .nilsl) (lw' := .nilsl) (TB.of hT4) (fun x _ hn => by cases hn) (fun q hq _ hqo => low4 q hq hqo) hkj hoj hkd3 hod3
            have htok : ∀ x, tokOf lv3 = some x → tokOf lw4 ≠ some x := fun x hx1 hx2 => by
              obtain ⟨cs, h1, _⟩ := hJ3.row
              have := RowT.tlt h1 hx1
              have := htk4 x hx2
              omega
            have hU5 : OutR L2.length L4 u3 (readR s1.D).1 := hU3.mv fun q _ hq hlt => low4 q hlt (by omega)
            have hrl := readN_len s1.D.length s1.D (Nat.le_refl _)
            have hrl1 : (readR s1.D).1.length ≤ s1.D.length := hrl.1
            have hchk : ∀ r ∈ (readR s1.D).1, chkR r = 0 := readN_ok _ _
            have hS := same_call (L := L4) (ts := ts4) hU5.rd hU4 (by omega) (fun r hr => by have := (chk0 (hchk r hr)).2.2.1; omega)
            simp -implicitDefEqProofs only [Wa,Wb,Wc,Wd,We,Wf,Wg,Wh,Wi,Wj,Wk,Wl,Wm,Wn,Zo,Zp,evalT,Nat.reduceLT,Nat.reduceEqDiff,if_true,if_false,reduceIte,Ys,ofVal,ofCell,argT,resT,setT,Y0,Int.reduceEq,Int.reduceLT,Int.reduceLE,Int.reduceNeg,mb,Nat.reduceBEq,tys,stb,Va,storeList,Nat.reduceAdd,Nat.reduceLeDiff,tyj,vBin_xor,vBin_or,vBin_shl,vBin_shr,ty78,t14,lk,k4]
            refine G_win rfl [(false, []), (false, []), (false, []), (true, []), (false, []), (false, []), (false, [0]), (true, []), (false, [])] (fun m s0 => m ≤ 1 → s0.heap[x]? = some (.cells a.cs 78)) (fun _ => hx) (by kernel_rfl) (by kernel_rfl) ?_
            simp -implicitDefEqProofs only [Wa,Wb,Wc,Wd,We,Wf,Wg,Wh,Wi,Wj,Wk,Wl,Wm,Wn,Zo,Zp,evalT,Nat.reduceLT,Nat.reduceEqDiff,if_true,if_false,reduceIte,Ys,ofVal,ofCell,argT,resT,setT,Y0,Int.reduceEq,Int.reduceLT,Int.reduceLE,Int.reduceNeg,mb,Nat.reduceBEq,tys,stb,Va,storeList,Nat.reduceAdd,Nat.reduceLeDiff,tyj,vBin_xor,vBin_or,vBin_shl,vBin_shr,ty78,t5,t6,t7,t10,t14,GW_nil,GW_op,GWS_0,GWS_0n,GWS_1,GWS_1n,GWS_m,GWS_ite,GWS_nite,AllM_nil,AllM_cons,aread_load,ld1,ld11,hA,hA2,hx1,hO3,hO4,hS,neq63,neq74,neq63n,neq74n,Yo]
            refine ⟨⟨fun s0 e => by rw [e]; rfl, trivial⟩, ?_⟩
            exact hQ _ L4 ts4 j3 k4' _ _ _ _ _ _ _ _ rfl rfl rfl rfl rfl rfl ⟨hJ5, hJ4, hrf4, hko, hkj, hoj, hkd3, hod3, htok, ⟨hok1.1, hok1.2⟩, hchk⟩ (by show (s1.D.take _).length + 0 ≤ _; rw [List.length_take]; omega) (by omega)
          | false =>
            obtain ⟨L3, bv3, dv3, lr3, hO3, hD3, low3, len3, fp3⟩ := open_bad (ts := ts2) hJ2.dk ho (by omega)
            have hrf3 : RefAt L3 o s1 := hrf2.move (low3 o hol2 hod)
            have hO4 := ropen_bad (ts := ts2) hrf3 ho (by omega)
            have nf3 : ∀ q, q < L2.length → ¬ fp d bv1 dv1 q → ¬ fp d bv3 dv3 q := fun q hq hn hf => by
              rcases fp3 q hf with h' | h'
              · exact hn h'
              · omega
            have hjl2 := B.lt_get hJ2.cell
            have hkl2 := B.lt_get hrj2.cell
            have hJ3 : JS L3 ts2 j d s1 rs n bv3 dv3 lr3 lv := ⟨hD3, by rw [low3 j hjl2 hJ2.sep]; exact hJ2.cell, nf3 j hjl2 hJ2.sep, hJ2.row⟩
            have hrj3 := hrj2.keep (low3 k hkl2 hkd) (TK.refl ts2)
            have hS := same_call (L := L3) (ts := ts2) (u := .nilsl) (v := .nilsl) (rs := []) ⟨[], RdS.nil L3 2, rfl⟩ ⟨[], RdS.nil L3 2, rfl⟩ (by simp) (fun r hr => by simp at hr)
            have na := fun cc => (nil63 cc).1
            have nb := fun cc => (nil63 cc).2
            simp -implicitDefEqProofs only [Wa,Wb,Wc,Wd,We,Wf,Wg,Wh,Wi,Wj,Wk,Wl,Wm,Wn,Zo,Zp,evalT,Nat.reduceLT,Nat.reduceEqDiff,if_true,if_false,reduceIte,Ys,ofVal,ofCell,argT,resT,setT,Y0,Int.reduceEq,Int.reduceLT,Int.reduceLE,Int.reduceNeg,mb,Nat.reduceBEq,tys,stb,Va,storeList,Nat.reduceAdd,Nat.reduceLeDiff,tyj,vBin_xor,vBin_or,vBin_shl,vBin_shr,ty78,t14,lk,k4]
            refine G_win rfl [(false, []), (false, []), (false, []), (true, []), (false, []), (false, []), (false, [0]), (true, []), (false, [])] (fun m s0 => m ≤ 1 → s0.heap[x]? = some (.cells a.cs 78)) (fun _ => hx) (by kernel_rfl) (by kernel_rfl) ?_
            simp -implicitDefEqProofs only [Wa,Wb,Wc,Wd,We,Wf,Wg,Wh,Wi,Wj,Wk,Wl,Wm,Wn,Zo,Zp,evalT,Nat.reduceLT,Nat.reduceEqDiff,if_true,if_false,reduceIte,Ys,ofVal,ofCell,argT,resT,setT,Y0,Int.reduceEq,Int.reduceLT,Int.reduceLE,Int.reduceNeg,mb,Nat.reduceBEq,tys,stb,Va,storeList,Nat.reduceAdd,Nat.reduceLeDiff,tyj,vBin_xor,vBin_or,vBin_shl,vBin_shr,ty78,t5,t6,t7,t10,t14,GW_nil,GW_op,GWS_0,GWS_0n,GWS_1,GWS_1n,GWS_m,GWS_ite,GWS_nite,AllM_nil,AllM_cons,aread_load,ld1,ld11,hA,hA2,hx1,hO3,hO4,hS,na,nb,nil74,Yo]
            refine ⟨⟨fun s0 e => by rw [e]; rfl, trivial⟩, ?_⟩
            exact hQ _ L3 ts2 j k _ _ _ _ _ _ _ _ rfl rfl rfl t7 t10 rfl ⟨hJ3, hrj3, hrf3, h.ko, h.kj, h.oj, nf3 k hkl2 hkd, nf3 o hol2 hod, htok2, hok1, h.chk⟩ (by omega) (by omega)
        · simp -implicitDefEqProofs only [Wa,Wb,Wc,Wd,We,Wf,Wg,Wh,Wi,Wj,Wk,Wl,Wm,Wn,Zo,Zp,evalT,Nat.reduceLT,Nat.reduceEqDiff,if_true,if_false,reduceIte,Ys,ofVal,ofCell,argT,resT,setT,Y0,Int.reduceEq,Int.reduceLT,Int.reduceLE,Int.reduceNeg,mb,Nat.reduceBEq,tys,stb,Va,storeList,Nat.reduceAdd,Nat.reduceLeDiff,tyj,vBin_xor,vBin_or,vBin_shl,vBin_shr,ty78,t14,lk,n0,n1,n2,k3,k4,k5]
          exact hQ _ L ts j k _ _ _ _ _ _ _ _ rfl rfl rfl t7 t10 rfl h (Nat.le_trans hlen (Nat.le_add_right _ _)) (Nat.le_trans hrs (Nat.le_add_right _ _))
end Go.Proofs.YtncohjljeoknkaaDoor.D
namespace Go.Proofs.YtncohjljeoknkaaDoor.D
open Go.Ab
set_option maxHeartbeats 8000000
set_option maxRecDepth 100000
set_option linter.unusedSimpArgs false
set_option linter.unusedVariables false
theorem flatB1 : ∀ s : List UInt8, (s.map fun x => [V.int .u8 x.toNat]).flatten = byteCells s
  | [] => rfl
  | x :: s => by simp only [List.map_cons, List.flatten_cons, flatB1 s]; rfl
theorem tyd_bytes {w : V} {k : Nat} (h : Tyd env.P (k + 2) 26 [w]) : ∃ s : List UInt8, (w = .nilsl ∧ s = [] ∨ w = .row (byteCells s) s.length .unk) ∧ s.length ≤ maxLen := by
  rcases tyd_slice h u26 with h | ⟨vss, h, hl, _, ht⟩
  · simp only [List.cons.injEq, and_true] at h
    exact ⟨[], .inl ⟨h, rfl⟩, by simp⟩
  · simp only [List.cons.injEq, and_true] at h
    obtain ⟨ss, rfl⟩ := tyd_map (f := fun x : UInt8 => [V.int .u8 x.toNat]) (fun x hx => by
      obtain ⟨n, rfl, h1, h2⟩ := tyd_int hx u5
      have h1 : (0 : Int) ≤ n := h1
      have h2 : n ≤ 255 := h2
      refine ⟨UInt8.ofNat n.toNat, ?_⟩
      have : ((UInt8.ofNat n.toNat).toNat : Int) = n := by
        rw [UInt8.toNat_ofNat']; omega
      rw [this]) ht
    refine ⟨ss, .inr ?_, by simpa using hl⟩
    rw [h, flatB1]; simp
end Go.Proofs.YtncohjljeoknkaaDoor.D
namespace Go.Proofs.YtncohjljeoknkaaDoor.D
open Go.Ab
set_option maxHeartbeats 8000000
set_option maxRecDepth 100000
set_option linter.unusedSimpArgs false
set_option linter.unusedVariables false
theorem turn11 {v : V} {l : List KA} (hv : IsKA v l) {Q : Post} {ks : List Kt} {T : Tm} {L : List AObj} {ts : List Nat} {d j o k n i Bd : Nat} {s : DS} {rs : List Rec} {bv dv lv lw : V} {lr : Int} (hi : i < l.length) (hlong : longR l[i].r = false) (c : Code) (hc : c = body11)
    (t1 : T 1 = v) (t13 : T 13 = .int .i64 i) (t5 : T 5 = .ptr d 0) (t6 : T 6 = .ptr o 0) (t7 : T 7 = .ptr j 0) (t10 : T 10 = .ptr k 0) (h : At11 L ts d j o k s rs n bv dv lr lv lw) (hB : Bd ≤ 2 ^ 26) (hlen : s.D.length + s.P.length ≤ Bd) (hrs : rs.length ≤ Bd)
    (hQ : ∀ T' L' ts' j' k' s' rs' n' bv' dv' lr' lv' lw', T' 1 = v → T' 5 = .ptr d 0 → T' 6 = .ptr o 0 → T' 7 = .ptr j' 0 → T' 10 = .ptr k' 0 → T' 13 = .int .i64 i → At11 L' ts' d j' o k' s' rs' n' bv' dv' lr' lv' lw' → s'.D.length + s'.P.length ≤ Bd + 200000 → rs'.length ≤ Bd + 200000 → G env 11 none 192 Q ks .skip T' [] ⟨L', ts'⟩) :
    G env 11 none 192 Q ks c T [] ⟨L, ts⟩ := by
  subst hc
  rw [G_cut 2]
  have hRt : dropC 2 body11 = .seq act11C (dropC 3 body11) := by kernel_rfl
  rw [hRt]
  obtain ⟨p, hp, hld⟩ := (hv.rd L).2.2.2 i hi
  rw [flatK_get l i hi] at hld
  generalize hla : l[i] = a at *
  have hk1 := Keep.app L [.cells a.cs 78]
  have hk2 := Keep.app (L ++ [.cells a.cs 78]) [.cells [.int .i64 a.r.k, a.fv] 55]
  have qe : (L ++ [AObj.cells a.cs 78])[L.length]? = some (.cells a.cs 78) := by simp
  have qz : ∀ o : AObj, (L ++ [o])[L.length]? = some o := fun o => by simp
  have qs : ∀ o o' : AObj, (L ++ [o]).set L.length o' = L ++ [o'] := fun o o' => by simp
  have hL := long_call (L := L ++ [.cells a.cs 78]) (ts := ts) a.fld
  rw [hlong] at hL
  have ld2 : loadCellsV (L ++ [AObj.cells a.cs 78]) 2 (.ptr L.length 2) = some [.int .i64 a.r.k, a.fv] := by simp [loadCellsV, KA.cs]
  have qk : ((L ++ [AObj.cells a.cs 78]) ++ [AObj.cells [.int .i64 a.r.k, a.fv] 55])[L.length]? = some (.cells a.cs 78) := hk2.get qe
  have hcc : (V.agg a.cs).cells = a.cs := rfl
  have hcs : a.cs = [.int .i64 a.kind, .int .i64 a.n, .int .i64 a.r.k, a.fv] := rfl
  have hall : a.cs.all V.isCell = true := by
    rw [hcs]
    simp only [List.all_cons, List.all_nil, a.fld.isCell]; rfl
  have hlen4 : a.cs.length = 4 := rfl
  have hst : storeList [V.int .i64 0, V.int .i64 0, V.int .i64 0, V.nilsl] 0 a.cs = a.cs := rfl
  simp only [body11, bodyOf, Tryd.f11, Option.getD_some, blkC, Option.or, takeC, Nat.reduceEqDiff, if_false, if_true, reduceIte]
  simp -implicitDefEqProofs only [Wa,Wb,Wc,Wd,We,Wf,Wg,Wh,Wi,Wj,Wk,Wl,Wm,Wn,Zo,Zp,evalT,Nat.reduceLT,Nat.reduceEqDiff,if_true,if_false,reduceIte,Ys,ofVal,ofCell,argT,resT,setT,Y0,Int.reduceEq,Int.reduceLT,Int.reduceLE,Int.reduceNeg,mb,Nat.reduceBEq,tys,stb,tyj,vBin_xor,vBin_or,vBin_shl,vBin_shr,hst,hall,Nat.le_refl,ty78,t1,t13,hp,agg78,hld,z78,qz,qs,hcc,hlen4,agg55,ld2,hL]
  have hA := h.keep (hk1.trans hk2) (TK.refl ts)
  refine act11 (a := a) (x := L.length) (Bd := Bd) (j := j) (k := k) hlong _ rfl t5 t6 t7 t10 rfl qk (fun hf => by have := h.js.dk.flt hf; omega) (fun e => by have := B.lt_get h.js.cell; omega) (fun e => by have := B.lt_get h.rj.cell; omega) (fun e => by have := h.rf.lt; omega) hA hB hlen hrs ?_
  intro T' L' ts' j' k' s' rs' n' bv' dv' lr' lv' lw' u1 u5 u6 u7 u10 u13 hA' l1 l2
  rw [Zc]
  refine tail11 _ rfl hA' (by omega) (by omega) (u5.trans t5) (u6.trans t6) u7 u10 ?_
  intro T2 L2 ts2 w1 w5 w6 w7 w10 w13 hA2
  exact hQ T2 L2 ts2 j' k' s' rs' n' bv' dv' lr' lv' lw' (w1.trans (u1.trans t1)) (w5.trans (u5.trans t5)) (w6.trans (u6.trans t6)) (w7.trans u7) (w10.trans u10) (w13.trans (u13.trans t13)) hA2 l1 l2
theorem jacts_found {y v : V} {b : List UInt8} {l : List KA} (hy : ∀ L, Rd L y b) (hyb : blkOf y = none) (hv : IsKA v l) : Go.Ab.Found env 11 [y, v] := by
  refine found_of_wp at11 rfl (by simp [Tryd.f11]) (by simp [Tryd.f11]) (G_start ?_)
  have lv := hv.len 78
  have ly := (hy []).lenT 5
  by_cases h40 : 40 < l.length
  · have c1 : (40 : Int) < (l.length : Int) := by omega
    simp -implicitDefEqProofs only [Tryd.f11,Wa,Wb,Wc,Wd,We,Wf,Wg,Wh,Wi,Wj,Wk,Wl,Wm,Wn,Zo,Zp,evalT,Nat.reduceLT,Nat.reduceEqDiff,if_true,if_false,reduceIte,Ys,ofVal,ofCell,argT,resT,setT,Y0,Int.reduceEq,Int.reduceLT,Int.reduceLE,Int.reduceNeg,mb,Nat.reduceBEq,tys,stb,Va,storeList,Nat.reduceAdd,Nat.reduceLeDiff,tyj,vBin_xor,vBin_or,vBin_shl,vBin_shr,ty78,jawake_call,lv,c1]
    simp only [oneOr]
  by_cases h500 : 500 < b.length
  · have c1 : ¬ (40 : Int) < (l.length : Int) := by omega
    have c2 : (500 : Int) < (b.length : Int) := by omega
    simp -implicitDefEqProofs only [Tryd.f11,Wa,Wb,Wc,Wd,We,Wf,Wg,Wh,Wi,Wj,Wk,Wl,Wm,Wn,Zo,Zp,evalT,Nat.reduceLT,Nat.reduceEqDiff,if_true,if_false,reduceIte,Ys,ofVal,ofCell,argT,resT,setT,Y0,Int.reduceEq,Int.reduceLT,Int.reduceLE,Int.reduceNeg,mb,Nat.reduceBEq,tys,stb,Va,storeList,Nat.reduceAdd,Nat.reduceLeDiff,tyj,vBin_xor,vBin_or,vBin_shl,vBin_shr,ty78,jawake_call,lv,ly,c1,c2]
    simp only [oneOr]
  have c1 : ¬ (40 : Int) < (l.length : Int) := by omega
  have c2 : ¬ (500 : Int) < (b.length : Int) := by omega
  obtain ⟨L1, hC1, hD1, hK1⟩ := new_call [] []
  obtain ⟨L2, hC2, hR2, hK2⟩ := rnew_call L1 []
  simp only [List.length_nil] at hC1 hD1
  have hDl := B.lt_get hD1.cell
  generalize ho : L1.length = o at hC2 hR2
  have hD2 := hD1.keep hK2
  have ok0 : OkS ⟨[], [], -1, false⟩ := ⟨by simp, by simp⟩
  obtain ⟨L3, bv3, dv3, lr3, hW3, hD3, hS3⟩ := wr_call (ts := []) hD2 ok0 (hy L2) (by rw [hyb]; simp) (by simp; omega)
  have ew : wrS ⟨[], [], -1, false⟩ b = (⟨[], b, -1, false⟩, 0) := by simp [wrS]
  rw [ew] at hW3 hD3
  obtain ⟨L4, bv4, dv4, lr4, hW4, hD4, hS4⟩ := sync_call (ts := []) hD3 (by simp; omega)
  have es : syncS ⟨[], b, -1, false⟩ = (⟨b, [], -1, false⟩, 0) := by simp [syncS]
  rw [es] at hW4 hD4
  have hol2 : o < L2.length := hR2.lt
  have fp0 : ∀ q, fp 0 V.nilsl V.nilsl q → q = 0 := fun q hq => by
    rcases hq with h | h | h
    · exact h
    · cases h
    · cases h
  have ho0 : o ≠ 0 := by omega
  have no3 : ¬ fp 0 bv3 dv3 o := fun hf => by
    rcases hS3.2.2 o hf with h' | h'
    · exact ho0 (fp0 o h')
    · omega
  have no4 : ¬ fp 0 bv4 dv4 o := fun hf => by
    rcases hS4.2.2 o hf with h' | h'
    · exact no3 h'
    · have := hS3.1; omega
  have hR4 : RefAt L4 o ⟨[], [], -1, false⟩ := hR2.move (by rw [hS4.2.1 o (by have := hS3.1; omega) no3, hS3.2.1 o hol2 (fun hf => ho0 (fp0 o hf))])
  obtain ⟨L5, ts5, hW5, hR5, hB5, hT5⟩ := rwr_callT (ts := []) hR4 ok0 (hy L4) (by simp; omega)
  rw [ew] at hW5 hR5
  obtain ⟨L6, ts6, hW6, hR6, hB6, hT6⟩ := rsync_callT (ts := ts5) hR5 (by simp; omega)
  rw [es] at hW6 hR6
  have hD6 : Dk L6 0 ⟨b, [], -1, false⟩ bv4 dv4 lr4 := hD4.mv fun q hq => by
    have hqo : q ≠ o := fun e => no4 (by rw [← e]; exact hq)
    rw [hB6.2 q hqo, hB5.2 q hqo]
  have hol6 : o < L6.length := hR6.lt
  obtain ⟨L7, ts7, bv7, dv7, lr7, j7, lv7, u7, hO7, hJ7, hU7, hT7, htk7, low7, len7, fp7, hj7⟩ := open_ok (ts := ts6) hD6 rfl rfl (by simp; omega)
  have hR7 : RefAt L7 o ⟨b, [], -1, false⟩ := hR6.move (low7 o hol6 no4)
  obtain ⟨L8, ts8, lw8, u8, hO8, hJ8, hR8, hT8, htk8, hU8, low8, len8⟩ := ropen_ok (ts := ts7) hR7 rfl (by simp; omega)
  generalize hk8 : L8.length - 1 = k8 at hO8 hJ8
  have hjl7 := B.lt_get hJ7.cell
  have hoj : o ≠ j7 := by omega
  have hkj : k8 ≠ j7 := by omega
  have hko : k8 ≠ o := by omega
  have hkd : ¬ fp 0 bv7 dv7 k8 := fun hf => by have := hJ7.dk.flt hf; omega
  have hod : ¬ fp 0 bv7 dv7 o := fun hf => by
    rcases fp7 o hf with h' | h'
    · exact no4 h'
    · omega
  obtain ⟨hJ9, _⟩ := hJ7.ref (o := o) (k := k8) (lw := .nilsl) (lw' := .nilsl) (TB.of hT8) (fun x _ hn => by cases hn) (fun q hq _ hqo => low8 q hq hqo) hkj hoj hkd hod
  have htok : ∀ x, tokOf lv7 = some x → tokOf lw8 ≠ some x := fun x hx1 hx2 => by
    obtain ⟨cs, h1, _⟩ := hJ7.row
    have := RowT.tlt h1 hx1
    have := htk8 x hx2
    omega
  have hU9 : OutR L6.length L8 u7 (readR b).1 := hU7.mv fun q _ hq hlt => low8 q hlt (by omega)
  have hrl : (readR b).1.length ≤ b.length := (readN_len b.length b (Nat.le_refl _)).1
  have hchk : ∀ r ∈ (readR b).1, chkR r = 0 := readN_ok _ _
  have hS := same_call (L := L8) (ts := ts8) hU9.rd hU8 (by show (readR b).1.length ≤ _; omega) (fun r hr => by have := (chk0 (hchk r hr)).2.2.1; omega)
  have hA0 : At11 L8 ts8 0 j7 o k8 ⟨b.take (readR b).2, [], -1, false⟩ (readR b).1 (readR b).1.length bv7 dv7 lr7 lv7 lw8 := ⟨hJ9, hJ8, hR8, hko, hkj, hoj, hkd, hod, htok, ⟨by simp, by simp⟩, hchk⟩
  simp -implicitDefEqProofs only [Tryd.f11,Wa,Wb,Wc,Wd,We,Wf,Wg,Wh,Wi,Wj,Wk,Wl,Wm,Wn,Zo,Zp,evalT,Nat.reduceLT,Nat.reduceEqDiff,if_true,if_false,reduceIte,Ys,ofVal,ofCell,argT,resT,setT,Y0,Int.reduceEq,Int.reduceLT,Int.reduceLE,Int.reduceNeg,mb,Nat.reduceBEq,tys,stb,Va,storeList,Nat.reduceAdd,Nat.reduceLeDiff,tyj,vBin_xor,vBin_or,vBin_shl,vBin_shr,ty78,jawake_call,lv,ly,c1,c2,S.empty,hC1,hC2,hW3,hW4,hW5,hW6,hO7,hO8,neq63,hS]
  refine loop_rule (fun m T D σ => D = [] ∧ T 1 = v ∧ T 5 = .ptr 0 0 ∧ T 6 = .ptr o 0 ∧ ∃ (i : Nat) (L : List AObj) (ts : List Nat) (j k n : Nat) (s : DS) (rs : List Rec) (bv dv lv lw : V) (lr : Int), i ≤ l.length ∧ m = l.length - i ∧ T 7 = .ptr j 0 ∧ T 10 = .ptr k 0 ∧ T 13 = .int .i64 i ∧ σ = ⟨L, ts⟩ ∧ At11 L ts 0 j o k s rs n bv dv lr lv lw ∧ s.D.length + s.P.length ≤ 500 + i * 200000 ∧ rs.length ≤ 500 + i * 200000) ?_ l.length _ _ _
    (by exact ⟨rfl, rfl, rfl, rfl, 0, L8, ts8, j7, k8, _, _, _, bv7, dv7, lv7, lw8, lr7, Nat.zero_le _, rfl, rfl, rfl, rfl, rfl, hA0, by show (b.take _).length + 0 ≤ _; rw [List.length_take]; omega, by omega⟩)
  rintro m T D σ ⟨rfl, t1, t5, t6, i, L, ts, j, k, n, s, rs, bv, dv, lz, lw, lr, hi, rfl, t7, t10, t13, rfl, hA, hlen, hrs⟩
  refine G_start ?_
  by_cases hlt : i < l.length
  · have c3 : (i : Int) < (l.length : Int) := by omega
    have w1 : IntKind.wrap .i64 ((i : Int) + 1) = ((i + 1 : Nat) : Int) := by rw [B.wrap64 (by omega)]; omega
    cases hlong : longR l[i].r with
    | false =>
      simp -implicitDefEqProofs only [Za,Zc,Zd,Ze,Zf,Zg,Zh,Zi,Zj,Zk,Zl,Zm,Zn,Zo,Zp,Zq,Zr,Zs,Zt,Zu,Zv,Zw,Zx,Zy,Zz,ZA,ZB,ZC,ZD,ZE,ZF,ZG,ZH,ZI,ZJ,ZK,ZL,ZM,ZN,ZO,ZP,ZQ,ZR,ZS,ZT,ZU,ZV,ZW,ZX,ZY,ZZ,Z0,Z1,Z2,Z3,Z4,Z5,Z6,evalT,Z7,Nat.reduceLT,Nat.reduceEqDiff,if_true,if_false,reduceIte,true_and,Z8,Z9,map_ite',Ya,bind_ite',Yb,Yc,Yd,Ye,Yf,Yg,Yh,Yi,Yj,Yk,Yl,Ym,Yn,Yo,Yp,Yq,Yr,Ys,Yt,Yu,Yv,Yw,ofVal,ofCell,argT,ZL1,resT,Yx,Yy,Nat.mul_one,Yz,YA,YB,YC,YD,YE,YF,YG,YH,YI,YJ,setT,YK,YL,YM,YN,YO,List.append_eq,YP,YQ,YR,YS,YT,YU,YV,YW,YX,Nat.add_zero,YY,YZ,Y0,Y1,Y2,Y3,Int.toNat_natCast,Bool.false_eq_true,Int.reduceEq,Int.reduceLT,Int.reduceLE,Int.reduceNeg,not_false_eq_true,and_self,Y4,Y5,Int.natCast_one,Int.cast_ofNat_Int,not_true_eq_false,decide_true,decide_false,true_implies,false_implies,Int.toNat_zero,List.length_cons,List.length_nil,Nat.zero_add,mb,Nat.reduceBEq,Bool.false_and,Bool.and_false,Y6,tys,stb,Y7,Y8,Y9,Qa,Qb,Qc,ZB1,Qd,Qe,Va,storeList,Nat.reduceAdd,Nat.reduceLeDiff,tyj,vBin_xor,vBin_or,vBin_shl,vBin_shr,ty78,t1,t13,lv,c3]
      rw [Zb]
      refine turn11 (Bd := 500 + i * 200000) hv hlt hlong _ rfl t1 t13 t5 t6 t7 t10 hA (by omega) hlen hrs ?_
      intro T' L' ts' j' k' s' rs' n' bv' dv' lr' lv' lw' u1 u5 u6 u7 u10 u13 hA' hlen' hrs'
      simp -implicitDefEqProofs only [Wa,Wb,Wc,Wd,We,Wf,Wg,Wh,Wi,Wj,Wk,Wl,Wm,Wn,Zo,Zp,evalT,Nat.reduceLT,Nat.reduceEqDiff,if_true,if_false,reduceIte,Ys,ofVal,ofCell,argT,resT,setT,Y0,Int.reduceEq,Int.reduceLT,Int.reduceLE,Int.reduceNeg,mb,Nat.reduceBEq,tys,stb,Va,storeList,Nat.reduceAdd,Nat.reduceLeDiff,tyj,vBin_xor,vBin_or,vBin_shl,vBin_shr,u13,w1]
      exact ⟨l.length - (i + 1), by omega, u1, u5, u6, i + 1, L', ts', j', k', n', s', rs', bv', dv', lv', lw', lr', by omega, rfl, u7, u10, rfl, rfl, hA', by omega, by omega⟩
    | true =>
      obtain ⟨p, hp, hld⟩ := (hv.rd L).2.2.2 i hlt
      rw [flatK_get l i hlt] at hld
      generalize l[i] = a at *
      have qz : ∀ o : AObj, (L ++ [o])[L.length]? = some o := fun o => by simp
      have qs : ∀ o o' : AObj, (L ++ [o]).set L.length o' = L ++ [o'] := fun o o' => by simp
      have hL := long_call (L := L ++ [.cells a.cs 78]) (ts := ts) a.fld
      rw [hlong] at hL
      have ld2 : loadCellsV (L ++ [AObj.cells a.cs 78]) 2 (.ptr L.length 2) = some [.int .i64 a.r.k, a.fv] := by simp [loadCellsV, KA.cs]
      have hcc : (V.agg a.cs).cells = a.cs := rfl
      have hcs : a.cs = [.int .i64 a.kind, .int .i64 a.n, .int .i64 a.r.k, a.fv] := rfl
      have hall : a.cs.all V.isCell = true := by
        rw [hcs]
        simp only [List.all_cons, List.all_nil, a.fld.isCell]; rfl
      have hlen4 : a.cs.length = 4 := rfl
      have hst : storeList [V.int .i64 0, V.int .i64 0, V.int .i64 0, V.nilsl] 0 a.cs = a.cs := rfl
      simp -implicitDefEqProofs only [Wa,Wb,Wc,Wd,We,Wf,Wg,Wh,Wi,Wj,Wk,Wl,Wm,Wn,Zo,Zp,evalT,Nat.reduceLT,Nat.reduceEqDiff,if_true,if_false,reduceIte,Ys,ofVal,ofCell,argT,resT,setT,Y0,Int.reduceEq,Int.reduceLT,Int.reduceLE,Int.reduceNeg,mb,Nat.reduceBEq,tys,stb,tyj,vBin_xor,vBin_or,vBin_shl,vBin_shr,hst,hall,Nat.le_refl,ty78,t1,t13,lv,c3,hp,agg78,hld,z78,qz,qs,hcc,hlen4,agg55,ld2,hL,jawake_call]
      simp only [oneOr]
  · have c3 : ¬ (i : Int) < (l.length : Int) := by omega
    simp -implicitDefEqProofs only [Wa,Wb,Wc,Wd,We,Wf,Wg,Wh,Wi,Wj,Wk,Wl,Wm,Wn,Zo,Zp,evalT,Nat.reduceLT,Nat.reduceEqDiff,if_true,if_false,reduceIte,Ys,ofVal,ofCell,argT,resT,setT,Y0,Int.reduceEq,Int.reduceLT,Int.reduceLE,Int.reduceNeg,mb,Nat.reduceBEq,tys,stb,Va,storeList,Nat.reduceAdd,Nat.reduceLeDiff,tyj,vBin_xor,vBin_or,vBin_shl,vBin_shr,ty78,t1,t13,lv,c3,jawake_call]
    simp only [oneOr]
theorem jacts_foundt {u w : V} (h : Tyd Tryd.prog 6 26 [u]) (h2 : Tyd Tryd.prog 6 73 [w]) : Go.Ab.Found env 11 [u, w] := by
  obtain ⟨b, h1, _⟩ := tyd_bytes (k := 4) h
  obtain ⟨l, h3⟩ := tyd_KS (k := 1) h2
  rcases h1 with ⟨rfl, rfl⟩ | rfl
  · exact jacts_found (fun L => Rd.nil L) rfl h3
  · exact jacts_found (fun L => Rd.row L b .unk) rfl h3
end Go.Proofs.YtncohjljeoknkaaDoor.D
