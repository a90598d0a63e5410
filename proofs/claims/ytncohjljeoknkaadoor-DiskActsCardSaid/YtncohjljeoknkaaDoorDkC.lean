/- Proved here: the law. Conditions: those of each theorem; no statement of the seat is proved in this text. -/
import Derived.Test.YtncohjljeoknkaaDoorDkB
namespace Go.Proofs.YtncohjljeoknkaaDoor.D
open Go.Ab
set_option maxHeartbeats 8000000
set_option maxRecDepth 100000
set_option linter.unusedSimpArgs false
set_option linter.unusedVariables false
set_option linter.unusedSectionVars false
theorem at6 : env.P.funcs[6]? = some Tryd.f6 := by kernel_rfl
noncomputable def body6 : Code := (blkC 1 (bodyOf Tryd.f6)).getD .skip
def Wr (L : List AObj) (v : V) (n : Nat) : Prop := (∀ e, vLenT (some (.slice e)) v = some (.int .i64 n)) ∧ (n = 0 ∨ ∃ b cap cs ex, v = .hsl b 0 n cap ex ∧ L[b]? = some (.cells cs 5) ∧ n ≤ cs.length)
theorem Own.wr {L : List AObj} {v : V} {s : List UInt8} (h : Own L v s) : Wr L v s.length := by
  refine ⟨h.rd.lenT, ?_⟩
  rcases h with ⟨rfl, rfl⟩ | ⟨rfl, rfl⟩ | ⟨b, rfl, hb⟩
  · exact .inl rfl
  · exact .inl rfl
  · exact .inr ⟨b, _, _, _, rfl, hb, by rw [byteCells_len]; exact Nat.le_refl _⟩
theorem Wr.move {L L' : List AObj} {v : V} {n : Nat} (h : Wr L v n) (hq : ∀ q, blkOf v = some q → L'[q]? = L[q]?) : Wr L' v n := by
  obtain ⟨h1, h2⟩ := h
  refine ⟨h1, ?_⟩
  rcases h2 with h2 | ⟨b, cap, cs, ex, rfl, h2, h3⟩
  · exact .inl h2
  · exact .inr ⟨b, cap, cs, ex, rfl, by rw [hq b rfl]; exact h2, h3⟩
theorem Wr.put {L : List AObj} {v : V} {n : Nat} (h : Wr L v n) {i : Nat} (hi : i < n) (ts : List Nat) (x : Int) :
    ∃ b L', blkOf v = some b ∧ vIndexAddr 1 v (.int .i64 (i : Int)) = some (.ptr b i) ∧ storeAt ⟨L, ts⟩ [.int .u8 x] b i L[b]? = some ⟨L', ts⟩ ∧ Wr L' v n ∧ L'.length = L.length ∧ ∀ q, q ≠ b → L'[q]? = L[q]? := by
  obtain ⟨h1, h2⟩ := h
  rcases h2 with h2 | ⟨b, cap, cs, ex, rfl, h2, h3⟩
  · omega
  · refine ⟨b, L.set b (.cells (storeList cs i [.int .u8 x]) 5), rfl, ?_, ?_, ⟨h1, .inr ⟨b, cap, _, ex, rfl, List.getElem?_set_self (B.lt_get h2), ?_⟩⟩, by simp, fun q hq => by rw [List.getElem?_set_ne (Ne.symm hq)]⟩
    · rw [index_hsl, if_pos (by omega), Int.toNat_natCast, Nat.zero_add, Nat.mul_one]
    · rw [h2, YE, if_pos ⟨by simp; omega, by simp [V.isCell]⟩]; rfl
    · simp [storeList]; omega
theorem sc_conv (x : Operand) : scOp env (.convert 26 9 x) = false := by kernel_rfl
theorem aread_conv (T : Tm) (s : S) (x : Operand) : aread env (evalT env T) s (.convert 26 9 x) = (evalT env T x).bind fun v => convR env s.heap (some (.slice 5)) (some .string) v := by
  simp only [aread, u26, u9]
  rfl
theorem Rd.convR {L : List AObj} {y : V} {t : List UInt8} (h : Rd L y t) : convR env L (some (.slice 5)) (some .string) y = some (.str t) := by
  have hv := h.vcells
  rcases h with ⟨rfl, rfl⟩ | ⟨b, off, cap, ex, cs, rfl, _⟩ | ⟨cells, cap, rfl, _⟩ <;> simp [Go.Ab.convR, u5, hv, bytesOf_cells]
theorem sc_34 (ag : Array Operand) (ts : Array TypeId) : scOp env (.call ⟨.value (.func 34), ag, ts⟩) = true := rfl
theorem sc_21 (ag : Array Operand) (ts : Array TypeId) : scOp env (.call ⟨.value (.func 21), ag, ts⟩) = true := rfl
theorem rd_conv (x : Operand) : readsOp (.convert 26 9 x) = true := rfl
theorem tail6 {Q : Post} {ks : List Kt} {L : List AObj} {ts : List Nat} {d o : Nat} {s : DS} {bv dv : V} {lr e : Int} {T : Tm} (c : Code) (hc : c = dropC 3 body6) (h : Dk L d s bv dv lr) (hr : RefAt L o s) (hl : s.D.length + s.P.length ≤ 2 ^ 38)
    (t3 : T 3 = .ptr d 0) (t4 : T 4 = .ptr o 0) (t7 : T 7 = .int .i64 e) (t8 : T 8 = .int .i64 e)
    (hk : ∀ T' L' ts', T' 0 = T 0 → T' 3 = T 3 → T' 4 = T 4 → T' 5 = T 5 → Keep L L' → G env 6 none 130 Q ks .skip T' [] ⟨L', ts'⟩) : G env 6 none 130 Q ks c T [] ⟨L, ts⟩ := by
  subst hc
  simp only [body6, bodyOf, Tryd.f6, Option.getD_some, blkC, Option.or, dropC, Nat.reduceEqDiff, if_false, if_true, reduceIte]
  obtain ⟨v1, L1, hC1, hO1, hK1, hN1⟩ := durable_call (ts := ts) h (by omega)
  have h1 := h.keep hK1
  obtain ⟨v2, L2, hC2, hO2, hK2, hN2⟩ := all_call (ts := ts) h1 hl
  have h2 := h1.keep hK2
  have hKA := hK1.trans hK2
  have hr2 : RefAt L2 o s := hr.move (hKA.2 o hr.lt)
  obtain ⟨dr, pr, hrc, hrD, hrP⟩ := id hr2
  obtain ⟨v3, ts', hC3, hr3⟩ := rall_call (ts := ts) hr2 hl
  have hC4 := stopped_call (ts := ts') h2
  have hO1' : Own L2 v1 s.D := hO1.move fun q hq => hK2.2 q (hO1.rd.lt hq)
  have e1 := hO1'.rd.str ts
  have e2 := hO2.rd.str ts
  have e3 := (hrD.rd L2).str ts
  have e4 := (hr3.rd L2).str ts'
  simp -implicitDefEqProofs only [Wa,Wb,Wc,Wd,We,Wf,Wg,Wh,Wi,Wj,Wk,Wl,Wm,Wn,Zo,Zp,evalT,Nat.reduceLT,Nat.reduceEqDiff,if_true,if_false,reduceIte,Ys,ofVal,ofCell,argT,resT,setT,Y0,Int.reduceEq,Int.reduceLT,Int.reduceLE,Int.reduceNeg,mb,Nat.reduceBEq,tys,stb,Va,storeList,Nat.reduceAdd,Nat.reduceLeDiff,t3,t4,t7,t8,hC1,hC2]
  refine G_stabg rfl (fun s0 => s0.heap = L2) rfl (by kernel_rfl) ?_
  have hst : (s.stop != s.stop) = false := by simp
  simp -implicitDefEqProofs only [Wa,Wb,Wc,Wd,We,Wf,Wg,Wh,Wi,Wj,Wk,Wl,Wm,Wn,Zo,Zp,evalT,Nat.reduceLT,Nat.reduceEqDiff,if_true,if_false,reduceIte,Ys,ofVal,ofCell,argT,resT,setT,Y0,Int.reduceEq,Int.reduceLT,Int.reduceLE,Int.reduceNeg,mb,Nat.reduceBEq,tys,stb,Va,storeList,Nat.reduceAdd,Nat.reduceLeDiff,t3,t4,t7,t8,GQ_nil,GQ_op,GQ_run,GQ_pass,guardV,Option.bind_some,Option.map_some,Bool.not_false,Bool.not_true,GQS_some,GQS_none,GQS_ite,GQS_nite,opT_nilCheck,nilO_ptr,hrc,e1,e2,e3,e4,hC3,hC4,vBin_sneq,hst,sc_conv,rd_conv,aread_conv,sc_34,sc_21,sc_nil,rd_nil,sc_load,sc_move,sc_fieldAddr,rd_fieldAddr,sc_binOp,rd_binOp,sc_pick,rd_pick,sc_assign,rd_assign,rd_load,rd_move,rd_call,aread_load]
  repeat' refine And.intro ?_ ?_
  all_goals try (intro s0 e; rw [e]; first | exact hO1'.rd.convR | exact hO2.rd.convR | exact (hrD.rd L2).convR | exact (hr3.rd L2).convR | (rw [hrc]; rfl))
  have hw1 := hO1'.wr
  have hw2 := hO2.wr
  have hle1 : s.D.length ≤ 2 ^ 38 := by omega
  have hle2 : (s.D ++ s.P).length ≤ 2 ^ 38 := by rw [List.length_append]; omega
  have hd12 : ∀ q, blkOf v1 = some q → blkOf v2 ≠ some q := fun q hq e => by have := hO1.rd.lt hq; have := hN2 q e; omega
  generalize s.D.length = n1 at hw1 hle1
  generalize (s.D ++ s.P).length = n2 at hw2 hle2
  have hT : ∀ T' : Tm, (T' 0 = T 0 ∧ T' 3 = T 3 ∧ T' 4 = T 4 ∧ T' 5 = T 5) → ∀ L' ts', Keep L L' → G env 6 none 130 Q ks .skip T' [] ⟨L', ts'⟩ := fun T' h L' ts' hK => hk T' L' ts' h.1 h.2.1 h.2.2.1 h.2.2.2 hK
  refine loop_rule (fun m T1 D σ => D = [] ∧ (T1 0 = T 0 ∧ T1 3 = T 3 ∧ T1 4 = T 4 ∧ T1 5 = T 5) ∧ T1 10 = v1 ∧ T1 11 = v2 ∧ ∃ (i : Nat) (L' : List AObj), i ≤ n1 ∧ m = n1 - i ∧ T1 12 = .int .i64 i ∧ σ = ⟨L', ts'⟩ ∧ Keep L L' ∧ Wr L' v1 n1 ∧ Wr L' v2 n2) ?_ n1 _ _ _ ⟨rfl, ⟨rfl, rfl, rfl, rfl⟩, rfl, rfl, 0, L2, by omega, rfl, rfl, rfl, hKA, hw1, hw2⟩
  rintro m T1 D σ ⟨rfl, hTs, t10, t11, i, L', hi, rfl, t12, rfl, hKL, hwA, hwB⟩
  refine G_start ?_
  have lA := hwA.1 5
  by_cases hlt : i < n1
  · have c1 : (i : Int) < (n1 : Int) := by omega
    have w1 : IntKind.wrap .i64 ((i : Int) + 1) = ((i + 1 : Nat) : Int) := by rw [B.wrap64 (by omega)]; omega
    obtain ⟨b, L3, hb, hix, hst, hwA', hl3, hq3⟩ := hwA.put hlt ts' 255
    have hbL : L.length ≤ b := hN1 b hb
    simp -implicitDefEqProofs only [Wa,Wb,Wc,Wd,We,Wf,Wg,Wh,Wi,Wj,Wk,Wl,Wm,Wn,Zo,Zp,evalT,Nat.reduceLT,Nat.reduceEqDiff,if_true,if_false,reduceIte,Ys,ofVal,ofCell,argT,resT,setT,Y0,Int.reduceEq,Int.reduceLT,Int.reduceLE,Int.reduceNeg,mb,Nat.reduceBEq,tys,stb,Va,storeList,Nat.reduceAdd,Nat.reduceLeDiff,t10,t11,t12,lA,c1,hix,hst,w1]
    exact ⟨n1 - (i + 1), by omega, hTs, i + 1, L3, by omega, rfl, rfl, rfl, ⟨by rw [hl3]; exact hKL.1, fun q hq => by rw [hq3 q (by omega), hKL.2 q hq]⟩, hwA', hwB.move fun q hq => hq3 q (fun e => hd12 b hb (by rw [hq, e]))⟩
  · have c1 : ¬ (i : Int) < (n1 : Int) := by omega
    simp -implicitDefEqProofs only [Wa,Wb,Wc,Wd,We,Wf,Wg,Wh,Wi,Wj,Wk,Wl,Wm,Wn,Zo,Zp,evalT,Nat.reduceLT,Nat.reduceEqDiff,if_true,if_false,reduceIte,Ys,ofVal,ofCell,argT,resT,setT,Y0,Int.reduceEq,Int.reduceLT,Int.reduceLE,Int.reduceNeg,mb,Nat.reduceBEq,tys,stb,Va,storeList,Nat.reduceAdd,Nat.reduceLeDiff,t10,t11,t12,lA,c1]
    clear c1 hlt hi t12 hwA lA hw1 hw2
    refine loop_rule (fun m T2 D σ => D = [] ∧ (T2 0 = T 0 ∧ T2 3 = T 3 ∧ T2 4 = T 4 ∧ T2 5 = T 5) ∧ T2 11 = v2 ∧ ∃ (i : Nat) (L' : List AObj), i ≤ n2 ∧ m = n2 - i ∧ T2 13 = .int .i64 i ∧ σ = ⟨L', ts'⟩ ∧ Keep L L' ∧ Wr L' v2 n2) ?_ n2 _ _ _ ⟨rfl, hTs, t11, 0, L', by omega, rfl, rfl, rfl, hKL, hwB⟩
    clear hwB hKL hTs t11 t10
    clear L' T1
    rintro m T1 D σ ⟨rfl, hTs, t11, i, L', hi, rfl, t13, rfl, hKL, hwB⟩
    refine G_start ?_
    have lB := hwB.1 5
    by_cases hlt : i < n2
    · have c1 : (i : Int) < (n2 : Int) := by omega
      have w1 : IntKind.wrap .i64 ((i : Int) + 1) = ((i + 1 : Nat) : Int) := by rw [B.wrap64 (by omega)]; omega
      obtain ⟨b, L3, hb, hix, hst, hwB', hl3, hq3⟩ := hwB.put hlt ts' 255
      have hbL : L.length ≤ b := by have := hN2 b hb; have := hK1.1; omega
      simp -implicitDefEqProofs only [Wa,Wb,Wc,Wd,We,Wf,Wg,Wh,Wi,Wj,Wk,Wl,Wm,Wn,Zo,Zp,evalT,Nat.reduceLT,Nat.reduceEqDiff,if_true,if_false,reduceIte,Ys,ofVal,ofCell,argT,resT,setT,Y0,Int.reduceEq,Int.reduceLT,Int.reduceLE,Int.reduceNeg,mb,Nat.reduceBEq,tys,stb,Va,storeList,Nat.reduceAdd,Nat.reduceLeDiff,t11,t13,lB,c1,hix,hst,w1]
      exact ⟨n2 - (i + 1), by omega, hTs, i + 1, L3, by omega, rfl, rfl, rfl, ⟨by rw [hl3]; exact hKL.1, fun q hq => by rw [hq3 q (by omega), hKL.2 q hq]⟩, hwB'⟩
    · have c1 : ¬ (i : Int) < (n2 : Int) := by omega
      simp -implicitDefEqProofs only [Wa,Wb,Wc,Wd,We,Wf,Wg,Wh,Wi,Wj,Wk,Wl,Wm,Wn,Zo,Zp,evalT,Nat.reduceLT,Nat.reduceEqDiff,if_true,if_false,reduceIte,Ys,ofVal,ofCell,argT,resT,setT,Y0,Int.reduceEq,Int.reduceLT,Int.reduceLE,Int.reduceNeg,mb,Nat.reduceBEq,tys,stb,Va,storeList,Nat.reduceAdd,Nat.reduceLeDiff,t11,t13,lB,c1]
      refine hT _ ?_ _ _ hKL
      exact hTs
end Go.Proofs.YtncohjljeoknkaaDoor.D
namespace Go.Proofs.YtncohjljeoknkaaDoor.D
open Go.Ab
set_option maxHeartbeats 8000000
set_option maxRecDepth 100000
set_option linter.unusedSimpArgs false
set_option linter.unusedVariables false
theorem Dk.move {L L' : List AObj} {d : Nat} {s : DS} {bv dv : V} {lr : Int} (h : Dk L d s bv dv lr) (hq : ∀ q, fp d bv dv q → L'[q]? = L[q]?) : Dk L' d s bv dv lr :=
  ⟨by rw [hq d (.inl rfl)]; exact h.cell, h.buf.move fun q k => hq q (.inr (.inl k)), h.dur.move fun q k => hq q (.inr (.inr k)), h.bd, h.dd, h.bdv⟩
theorem Dk.lt {L : List AObj} {d : Nat} {s : DS} {bv dv : V} {lr : Int} (h : Dk L d s bv dv lr) {q : Nat} (hq : fp d bv dv q) : q < L.length := by
  rcases hq with rfl | hq | hq
  · exact B.lt_get h.cell
  · exact h.buf.rd.lt hq
  · exact h.dur.rd.lt hq
theorem agg34 (h : List AObj) (p : V) : aload env h 34 p = (loadCellsV h 3 p).map .agg := by
  unfold aload
  rw [show aggT env 34 = some true by kernel_rfl, show sz env 34 = some 3 by kernel_rfl]
  rfl
theorem z34 : zeroV env 34 = some (.agg [.int .i64 0, .int .i64 0, .nilsl]) := by kernel_rfl
theorem s34 : sz env 34 = some 3 := by kernel_rfl
theorem u31 : env.P.underlying 31 = some (.slice 34) := by kernel_rfl
theorem f34_0 : fldOff env 34 0 = some 0 := by kernel_rfl
theorem f34_1 : fldOff env 34 1 = some 1 := by kernel_rfl
theorem f34_2 : fldOff env 34 2 = some 2 := by kernel_rfl
structure At6 (L : List AObj) (d o : Nat) (s : DS) (bv dv : V) (lr : Int) : Prop where
  dk : Dk L d s bv dv lr
  rf : RefAt L o s
  sep : ¬ fp d bv dv o
  ok : OkS s
theorem turn6 {Q : Post} {ks : List Kt} {L : List AObj} {ts : List Nat} {d o i : Nat} {s : DS} {bv dv : V} {lr : Int} {T : Tm} {l : List Act} (c : Code) (hc : c = body6) (h : At6 L d o s bv dv lr) (hl : s.D.length + s.P.length ≤ 2 ^ 37) (hi : i < l.length) (ha : OkA l[i]) (hab : l[i].bs.length ≤ 200)
    (t0 : T 0 = .row (flatA l) l.length .unk) (t3 : T 3 = .ptr d 0) (t4 : T 4 = .ptr o 0) (t5 : T 5 = .int .i64 i)
    (hk : ∀ T' L' ts' d' o' s' bv' dv' lr', T' 0 = T 0 → T' 3 = .ptr d' 0 → T' 4 = .ptr o' 0 → T' 5 = T 5 → At6 L' d' o' s' bv' dv' lr' → s'.D.length + s'.P.length ≤ s.D.length + s.P.length + 200 → G env 6 none 130 Q ks .skip T' [] ⟨L', ts'⟩) : G env 6 none 130 Q ks c T [] ⟨L, ts⟩ := by
  subst hc
  rw [G_cut 3]
  generalize hR : dropC 3 body6 = R
  simp only [body6, bodyOf, Tryd.f6, Option.getD_some, blkC, Option.or, takeC, Nat.reduceEqDiff, if_false, if_true, reduceIte]
  obtain ⟨hD, hRf, hsep, hok⟩ := h
  have hol := hRf.lt
  have c1 : (i : Int) < (l.length : Int) := by omega
  have hidx : vIndexAddr 3 (.row (flatA l) l.length .unk) (.int .i64 (i : Int)) = some (.rptr ((flatA l).drop (i * 3))) := by
    rw [Ys, if_pos (by omega), Int.toNat_natCast]
  have hld : ∀ h, loadCellsV h 3 (.rptr ((flatA l).drop (i * 3))) = some (actC l[i]) := fun h => by
    rw [flatA_drop l i hi]; simp [loadCellsV, actC]
  generalize l[i] = a at *
  have hk1 := Keep.app L [.cells (actC a) 34]
  have hD1 := hD.keep hk1
  have hlast : ∀ o, (L ++ [o])[L.length]? = some o := fun o => by simp
  have hset : ∀ o p, (L ++ [o]).set L.length p = L ++ [p] := fun o p => by simp
  have hl3 : ∀ {H : List AObj}, H[L.length]? = some (.cells (actC a) 34) → loadCellsV H 3 (.ptr L.length 0) = some (actC a) := fun hH => by simp [loadCellsV, hH, actC]
  obtain ⟨L2, bv', dv', lr', hA, hD2, hS⟩ := act_call (ts := ts) a ha hD1 hok (by omega)
  have hcell : (actC a).all V.isCell = true := by simp [actC, V.isCell, (ha.1.rd []).isCell]; exact (ha.1.rd []).isCell
  have hp2 : L2[L.length]? = some (.cells (actC a) 34) := by
    rw [hS.2.1 L.length (by simp) (fun hf => by have := hD.lt hf; omega)]
    exact hlast _
  have hR2 : RefAt L2 o s := hRf.move (by rw [hS.2.1 o (by simp; omega) hsep, hk1.2 o hol])
  have hl2 : L.length + 1 ≤ L2.length := by have := hS.1; simpa using this
  have hsep2 : ¬ fp d bv' dv' o := fun hf => by
    rcases hS.2.2 o hf with h | h
    · exact hsep h
    · simp at h; omega
  have hlen := actS_len s a
  have hok2 := actS_ok hok ha (by omega)
  -- behind the reference's part
  have fin : ∀ (T' : Tm) (L3 : List AObj) (ts3 : List Nat) (e : Int), T' 0 = T 0 → T' 3 = T 3 → T' 4 = T 4 → T' 5 = T 5 → T' 7 = .int .i64 (actS s a).2 → T' 8 = .int .i64 (actS s a).2 → But o L2 L3 → RefAt L3 o (actS s a).1 → G env 6 none 130 Q ks R T' [] ⟨L3, ts3⟩ := by
    intro T' L3 ts3 e k0 k3 k4 k5 k7 k8 hB hR3
    have hD3 := hD2.move (L' := L3) fun q hq => hB.2 q (fun e => hsep2 (e ▸ hq))
    refine tail6 R hR.symm hD3 hR3 (by omega) (k3.trans t3) (k4.trans t4) k7 k8 fun T'' L' ts' j0 j3 j4 j5 hK => ?_
    refine hk T'' L' ts' d o _ bv' dv' lr' (j0.trans k0) (j3.trans (k3.trans t3)) (j4.trans (k4.trans t4)) (j5.trans k5) ⟨hD3.keep hK, hR3.move (hK.2 o hR3.lt), hsep2, hok2⟩ (by omega)
  have hp : actC a = [.int .i64 a.kind, .int .i64 a.n, a.b] := rfl
  have hdrop : List.drop (actC a).length [V.int .i64 0, V.int .i64 0, V.nilsl] = [] := rfl
  have hlen3 : (actC a).length = 3 := rfl
  have hi0 : (0 : Int) ≤ (i : Int) := by omega
  have hl1 := hl3 (hlast (.cells (actC a) 34))
  have lt3 : (3 : Nat) ≤ 3 := Nat.le_refl _
  have hp2' := hp2
  rw [hp] at hp2'
  by_cases k01 : a.kind = 0 ∨ a.kind = 1
  · have e : actS s a = wrS s a.bs := by unfold actS; rw [if_pos k01]
    obtain ⟨L3, ts3, hC, hR3, hB⟩ := rwr_call (ts := ts) hR2 hok (ha.1.rd L2) (by omega)
    rw [← e] at hC hR3
    rcases k01 with k | k
    · have k' := eq_true k
      simp -implicitDefEqProofs only [Wa,Wb,Wc,Wd,We,Wf,Wg,Wh,Wi,Wj,Wk,Wl,Wm,Wn,Zo,Zp,evalT,Nat.reduceLT,Nat.reduceEqDiff,if_true,if_false,reduceIte,Ys,ofVal,ofCell,argT,resT,setT,Y0,Int.reduceEq,Int.reduceLT,Int.reduceLE,Int.reduceNeg,mb,Nat.reduceBEq,tys,stb,Va,storeList,Nat.reduceAdd,Nat.reduceLeDiff,t0,t3,t4,t5,u31,s34,c1,hi0,hidx,hld,agg34,z34,hlast,hset,hdrop,hlen3,hcell,lt3,hl1,hA,f34_0,f34_1,f34_2,hp2',k',hC]
      exact fin _ L3 ts3 0 rfl rfl rfl rfl rfl rfl hB hR3
    · have k' := eq_true k
      have k0 : (a.kind = 0) = False := by rw [k]; simp
      simp -implicitDefEqProofs only [Wa,Wb,Wc,Wd,We,Wf,Wg,Wh,Wi,Wj,Wk,Wl,Wm,Wn,Zo,Zp,evalT,Nat.reduceLT,Nat.reduceEqDiff,if_true,if_false,reduceIte,Ys,ofVal,ofCell,argT,resT,setT,Y0,Int.reduceEq,Int.reduceLT,Int.reduceLE,Int.reduceNeg,mb,Nat.reduceBEq,tys,stb,Va,storeList,Nat.reduceAdd,Nat.reduceLeDiff,t0,t3,t4,t5,u31,s34,c1,hi0,hidx,hld,agg34,z34,hlast,hset,hdrop,hlen3,hcell,lt3,hl1,hA,f34_0,f34_1,f34_2,hp2',k0,k',hC]
      exact fin _ L3 ts3 0 rfl rfl rfl rfl rfl rfl hB hR3
  · have k0 := eq_false (fun e => k01 (.inl e))
    have k1 := eq_false (fun e => k01 (.inr e))
    by_cases k2 : a.kind = 2
    · have e : actS s a = syncS s := by unfold actS; rw [if_neg k01, if_pos k2]
      obtain ⟨L3, ts3, hC, hR3, hB⟩ := rsync_call (ts := ts) hR2 (by omega)
      rw [← e] at hC hR3
      have k2' := eq_true k2
      simp -implicitDefEqProofs only [Wa,Wb,Wc,Wd,We,Wf,Wg,Wh,Wi,Wj,Wk,Wl,Wm,Wn,Zo,Zp,evalT,Nat.reduceLT,Nat.reduceEqDiff,if_true,if_false,reduceIte,Ys,ofVal,ofCell,argT,resT,setT,Y0,Int.reduceEq,Int.reduceLT,Int.reduceLE,Int.reduceNeg,mb,Nat.reduceBEq,tys,stb,Va,storeList,Nat.reduceAdd,Nat.reduceLeDiff,t0,t3,t4,t5,u31,s34,c1,hi0,hidx,hld,agg34,z34,hlast,hset,hdrop,hlen3,hcell,lt3,hl1,hA,f34_0,f34_1,f34_2,hp2',k0,k1,k2',hC]
      exact fin _ L3 ts3 0 rfl rfl rfl rfl rfl rfl hB hR3
    · have k2' := eq_false k2
      by_cases k3 : a.kind = 3
      · have e : actS s a = fuseS s a.n := by unfold actS; rw [if_neg k01, if_neg k2, if_pos k3]
        obtain ⟨L3, ts3, hC, hR3, hB⟩ := rfuse_call (ts := ts) a.n hR2
        rw [← e] at hC hR3
        have k3' := eq_true k3
        simp -implicitDefEqProofs only [Wa,Wb,Wc,Wd,We,Wf,Wg,Wh,Wi,Wj,Wk,Wl,Wm,Wn,Zo,Zp,evalT,Nat.reduceLT,Nat.reduceEqDiff,if_true,if_false,reduceIte,Ys,ofVal,ofCell,argT,resT,setT,Y0,Int.reduceEq,Int.reduceLT,Int.reduceLE,Int.reduceNeg,mb,Nat.reduceBEq,tys,stb,Va,storeList,Nat.reduceAdd,Nat.reduceLeDiff,t0,t3,t4,t5,u31,s34,c1,hi0,hidx,hld,agg34,z34,hlast,hset,hdrop,hlen3,hcell,lt3,hl1,hA,f34_0,f34_1,f34_2,hp2',k0,k1,k2',k3',hC]
        exact fin _ L3 ts3 0 rfl rfl rfl rfl rfl rfl hB hR3
      · have k3' := eq_false k3
        by_cases k4 : a.kind = 4
        · have e : actS s a = crashS s a.n := by unfold actS; rw [if_neg k01, if_neg k2, if_neg k3, if_pos k4]
          obtain ⟨L3, ts3, hC, hR3, hB⟩ := rcrash_call (ts := ts) a.n hR2 (by omega)
          rw [← e] at hC hR3
          have k4' := eq_true k4
          simp -implicitDefEqProofs only [Wa,Wb,Wc,Wd,We,Wf,Wg,Wh,Wi,Wj,Wk,Wl,Wm,Wn,Zo,Zp,evalT,Nat.reduceLT,Nat.reduceEqDiff,if_true,if_false,reduceIte,Ys,ofVal,ofCell,argT,resT,setT,Y0,Int.reduceEq,Int.reduceLT,Int.reduceLE,Int.reduceNeg,mb,Nat.reduceBEq,tys,stb,Va,storeList,Nat.reduceAdd,Nat.reduceLeDiff,t0,t3,t4,t5,u31,s34,c1,hi0,hidx,hld,agg34,z34,hlast,hset,hdrop,hlen3,hcell,lt3,hl1,hA,f34_0,f34_1,f34_2,hp2',k0,k1,k2',k3',k4',hC]
          exact fin _ L3 ts3 0 rfl rfl rfl rfl rfl rfl hB hR3
        · have k4' := eq_false k4
          by_cases k5 : a.kind = 5
          · have e : actS s a = cutS s a.n := by unfold actS; rw [if_neg k01, if_neg k2, if_neg k3, if_neg k4, if_pos k5]
            obtain ⟨L3, ts3, hC, hR3, hB⟩ := rcut_call (ts := ts) a.n hR2 (by omega)
            rw [← e] at hC hR3
            have k5' := eq_true k5
            simp -implicitDefEqProofs only [Wa,Wb,Wc,Wd,We,Wf,Wg,Wh,Wi,Wj,Wk,Wl,Wm,Wn,Zo,Zp,evalT,Nat.reduceLT,Nat.reduceEqDiff,if_true,if_false,reduceIte,Ys,ofVal,ofCell,argT,resT,setT,Y0,Int.reduceEq,Int.reduceLT,Int.reduceLE,Int.reduceNeg,mb,Nat.reduceBEq,tys,stb,Va,storeList,Nat.reduceAdd,Nat.reduceLeDiff,t0,t3,t4,t5,u31,s34,c1,hi0,hidx,hld,agg34,z34,hlast,hset,hdrop,hlen3,hcell,lt3,hl1,hA,f34_0,f34_1,f34_2,hp2',k0,k1,k2',k3',k4',k5',hC]
            exact fin _ L3 ts3 0 rfl rfl rfl rfl rfl rfl hB hR3
          · have k5' := eq_false k5
            have e : actS s a = (s, 0) := by unfold actS; rw [if_neg k01, if_neg k2, if_neg k3, if_neg k4, if_neg k5]
            by_cases k6 : a.kind = 6
            · have k6' := eq_true k6
              have e1 : (actS s a).1 = s := by rw [e]
              have e2 : (actS s a).2 = 0 := by rw [e]
              rw [e1] at hD2
              rw [e2] at hA
              obtain ⟨cc, L3, bvc, dvc, hCp, hDc, hKc, hFc⟩ := copy_call (ts := ts) hD2 (by omega)
              have hD3 := hD2.keep hKc
              have hy : Rd L3 (.row [.int .u8 7] 1 .full) [7] := Rd.row L3 [7] .full
              obtain ⟨L4, bv4, dv4, lr4, hW, hD4, hS4⟩ := wr_call (ts := ts) hD3 hok hy (by simp [blkOf]) (by simp; omega)
              have hwl := wr_len s [7]
              simp only [List.length_singleton] at hwl
              obtain ⟨L5, bv5, dv5, lr5, hX, hD5, hS5⟩ := crash_call (ts := ts) 0 hD4 (by omega)
              have hS35 := hS4.trans hS5
              have hR5 : RefAt L5 o s := hR2.move (by rw [hS35.2.1 o (by have := hKc.1; omega) hsep2, hKc.2 o (by omega)])
              obtain ⟨L6, ts6, hRc, hR6, hK6⟩ := rcopy_call (ts := ts) hR5 (by omega)
              have hDc5 : Dk L5 cc s bvc dvc 0 := hDc.move fun q hq => hS35.2.1 q (hDc.lt hq) (fun hf => by have := hD2.lt hf; have := hFc q hq; omega)
              have hDc6 := hDc5.keep hK6
              have r7 : rowO env 26 1 [(0, .int .u8 7)] = some (.row [.int .u8 7] 1 .full) := by kernel_rfl
              simp -implicitDefEqProofs only [Wa,Wb,Wc,Wd,We,Wf,Wg,Wh,Wi,Wj,Wk,Wl,Wm,Wn,Zo,Zp,evalT,Nat.reduceLT,Nat.reduceEqDiff,if_true,if_false,reduceIte,Ys,ofVal,ofCell,argT,resT,setT,Y0,Int.reduceEq,Int.reduceLT,Int.reduceLE,Int.reduceNeg,mb,Nat.reduceBEq,tys,stb,Va,storeList,Nat.reduceAdd,Nat.reduceLeDiff,t0,t3,t4,t5,u31,s34,c1,hi0,hidx,hld,agg34,z34,hlast,hset,hdrop,hlen3,hcell,lt3,hl1,hA,f34_0,f34_1,f34_2,hp2',k0,k1,k2',k3',k4',k5',k6',hCp,hW,hX,hRc,opT_rowB,r7]
              refine tail6 R hR.symm hDc6 hR6 (by omega) rfl rfl rfl rfl fun T'' L' ts' j0 j3 j4 j5 hK => ?_
              exact hk T'' L' ts' cc L5.length s bvc dvc 0 j0 j3 j4 j5 ⟨hDc6.keep hK, hR6.move (hK.2 _ hR6.lt), fun hf => by have := hDc5.lt hf; omega, hok⟩ (by omega)
            · have k6' := eq_false k6
              simp -implicitDefEqProofs only [Wa,Wb,Wc,Wd,We,Wf,Wg,Wh,Wi,Wj,Wk,Wl,Wm,Wn,Zo,Zp,evalT,Nat.reduceLT,Nat.reduceEqDiff,if_true,if_false,reduceIte,Ys,ofVal,ofCell,argT,resT,setT,Y0,Int.reduceEq,Int.reduceLT,Int.reduceLE,Int.reduceNeg,mb,Nat.reduceBEq,tys,stb,Va,storeList,Nat.reduceAdd,Nat.reduceLeDiff,t0,t3,t4,t5,u31,s34,c1,hi0,hidx,hld,agg34,z34,hlast,hset,hdrop,hlen3,hcell,lt3,hl1,hA,f34_0,f34_1,f34_2,hp2',k0,k1,k2',k3',k4',k5',k6']
              refine fin _ L2 ts 0 rfl rfl rfl rfl rfl ?_ (But.refl _ _) (by rw [e]; exact hR2)
              rw [e]; rfl
end Go.Proofs.YtncohjljeoknkaaDoor.D
namespace Go.Proofs.YtncohjljeoknkaaDoor.D
open Go.Ab
set_option maxHeartbeats 8000000
set_option maxRecDepth 100000
set_option linter.unusedSimpArgs false
set_option linter.unusedVariables false
theorem awake_call (σ : S) : callFn env (ev env) 22 [] σ = some (.bool true, σ) := rfl
theorem neq_nilp (b o : Nat) (cc : Bool) : binO env 22 cc .eql (some (.ptr b o)) (some .nilptr) = some (.bool false) := by cases cc <;> kernel_rfl
theorem acts_found {v : V} {l : List Act} (h : IsA v l) (hc : v.closed = true) (hln : l.length ≤ maxLen) : Go.Ab.Found env 6 [v] := by
  refine found_of_wp at6 rfl (by simp [Tryd.f6]) (by simp [Tryd.f6]) (G_start ?_)
  obtain ⟨b, hL, hb⟩ := large_call h hc hln
  cases b with
  | true =>
    simp -implicitDefEqProofs only [Tryd.f6,Wa,Wb,Wc,Wd,We,Wf,Wg,Wh,Wi,Wj,Wk,Wl,Wm,Wn,Zo,Zp,evalT,Nat.reduceLT,Nat.reduceEqDiff,if_true,if_false,reduceIte,Ys,ofVal,ofCell,argT,resT,setT,Y0,Int.reduceEq,Int.reduceLT,Int.reduceLE,Int.reduceNeg,mb,Nat.reduceBEq,tys,stb,hL,awake_call]
    simp only [oneOr]
  | false =>
    obtain ⟨hl60, h200⟩ := hb rfl
    obtain ⟨L1, hC1, hD1, hK1⟩ := new_call [] []
    obtain ⟨L2, hC2, hR2, hK2⟩ := rnew_call L1 []
    simp only [List.length_nil] at hC1 hD1
    simp -implicitDefEqProofs only [Tryd.f6,Wa,Wb,Wc,Wd,We,Wf,Wg,Wh,Wi,Wj,Wk,Wl,Wm,Wn,Zo,Zp,evalT,Nat.reduceLT,Nat.reduceEqDiff,if_true,if_false,reduceIte,Ys,ofVal,ofCell,argT,resT,setT,Y0,Int.reduceEq,Int.reduceLT,Int.reduceLE,Int.reduceNeg,mb,Nat.reduceBEq,tys,stb,hL,S.empty,hC1,hC2,neq_nilp]
    refine loop_rule (fun m T D σ => D = [] ∧ T 0 = v ∧ ∃ (i : Nat) (L : List AObj) (ts : List Nat) (d o : Nat) (s : DS) (bv dv : V) (lr : Int), i ≤ l.length ∧ m = l.length - i ∧ T 5 = .int .i64 i ∧ T 3 = .ptr d 0 ∧ T 4 = .ptr o 0 ∧ σ = ⟨L, ts⟩ ∧ At6 L d o s bv dv lr ∧ s.D.length + s.P.length ≤ 200 * i) ?_ l.length _ _ _ ⟨rfl, rfl, 0, L2, [], 0, L1.length, _, _, _, _, by omega, rfl, rfl, rfl, rfl, rfl, ⟨hD1.keep hK2, hR2, fun hf => by have := hD1.lt hf; omega, by simp [OkS]⟩, by simp⟩
    rintro m T D σ ⟨rfl, t0, i, L, ts, d, o, s, bv, dv, lr, hi, rfl, t5, t3, t4, rfl, hA, hs⟩
    refine G_start ?_
    have lA := h.len 34
    by_cases hlt : i < l.length
    · have c1 : (i : Int) < (l.length : Int) := by omega
      have hv : v = .row (flatA l) l.length .unk := by
        rcases h.1 with ⟨_, rfl⟩ | rfl
        · simp at hlt
        · rfl
      have w1 : IntKind.wrap .i64 ((i : Int) + 1) = ((i + 1 : Nat) : Int) := by rw [B.wrap64 (by omega)]; omega
      simp -implicitDefEqProofs only [Za,Zc,Zd,Ze,Zf,Zg,Zh,Zi,Zj,Zk,Zl,Zm,Zn,Zo,Zp,Zq,Zr,Zs,Zt,Zu,Zv,Zw,Zx,Zy,Zz,ZA,ZB,ZC,ZD,ZE,ZF,ZG,ZH,ZI,ZJ,ZK,ZL,ZM,ZN,ZO,ZP,ZQ,ZR,ZS,ZT,ZU,ZV,ZW,ZX,ZY,ZZ,Z0,Z1,Z2,Z3,Z4,Z5,Z6,evalT,Z7,Nat.reduceLT,Nat.reduceEqDiff,if_true,if_false,reduceIte,true_and,Z8,Z9,map_ite',Ya,bind_ite',Yb,Yc,Yd,Ye,Yf,Yg,Yh,Yi,Yj,Yk,Yl,Ym,Yn,Yo,Yp,Yq,Yr,Ys,Yt,Yu,Yv,Yw,ofVal,ofCell,argT,ZL1,resT,Yx,Yy,Nat.mul_one,Yz,YA,YB,YC,YD,YE,YF,YG,YH,YI,YJ,setT,YK,YL,YM,YN,YO,List.append_eq,YP,YQ,YR,YS,YT,YU,YV,YW,YX,Nat.add_zero,YY,YZ,Y0,Y1,Y2,Y3,Int.toNat_natCast,Bool.false_eq_true,Int.reduceEq,Int.reduceLT,Int.reduceLE,Int.reduceNeg,not_false_eq_true,and_self,Y4,Y5,Int.natCast_one,Int.cast_ofNat_Int,not_true_eq_false,decide_true,decide_false,true_implies,false_implies,Int.toNat_zero,List.length_cons,List.length_nil,Nat.zero_add,mb,Nat.reduceBEq,Bool.false_and,Bool.and_false,Y6,tys,stb,Y7,Y8,Y9,Qa,Qb,Qc,ZB1,Qd,Qe,Va,storeList,Nat.reduceAdd,Nat.reduceLeDiff,t0,t5,u31,lA,c1]
      rw [Zb]
      refine turn6 _ rfl hA (by omega) hlt (h.2 _ (List.getElem_mem hlt)) (h200 _ (List.getElem_mem hlt)) (t0.trans hv) t3 t4 t5 ?_
      intro T' L' ts' d' o' s' bv' dv' lr' k0 k3 k4 k5 hA' hs'
      simp -implicitDefEqProofs only [Wa,Wb,Wc,Wd,We,Wf,Wg,Wh,Wi,Wj,Wk,Wl,Wm,Wn,Zo,Zp,evalT,Nat.reduceLT,Nat.reduceEqDiff,if_true,if_false,reduceIte,Ys,ofVal,ofCell,argT,resT,setT,Y0,Int.reduceEq,Int.reduceLT,Int.reduceLE,Int.reduceNeg,mb,Nat.reduceBEq,tys,stb,Va,storeList,Nat.reduceAdd,Nat.reduceLeDiff,k5,t5,w1]
      exact ⟨l.length - (i + 1), by omega, k0.trans t0, i + 1, L', ts', d', o', s', bv', dv', lr', by omega, rfl, rfl, k3, k4, rfl, hA', by omega⟩
    · have c1 : ¬ (i : Int) < (l.length : Int) := by omega
      simp -implicitDefEqProofs only [Wa,Wb,Wc,Wd,We,Wf,Wg,Wh,Wi,Wj,Wk,Wl,Wm,Wn,Zo,Zp,evalT,Nat.reduceLT,Nat.reduceEqDiff,if_true,if_false,reduceIte,Ys,ofVal,ofCell,argT,resT,setT,Y0,Int.reduceEq,Int.reduceLT,Int.reduceLE,Int.reduceNeg,mb,Nat.reduceBEq,tys,stb,Va,storeList,Nat.reduceAdd,Nat.reduceLeDiff,t0,t5,u31,lA,c1,awake_call]
      simp only [oneOr]
theorem flatB1 : ∀ s : List UInt8, (s.map fun x => [V.int .u8 x.toNat]).flatten = byteCells s
  | [] => rfl
  | x :: s => by simp only [List.map_cons, List.flatten_cons, flatB1 s]; rfl
theorem tyd_bytes {w : V} {k : Nat} (h : Tyd env.P (k + 2) 26 [w]) : ∃ s : List UInt8, (w = .nilsl ∧ s = [] ∨ w = .row (byteCells s) s.length .unk) ∧ s.length ≤ maxLen := by
  rcases tyd_slice h u26 with h | ⟨vss, h, hl, _, ht⟩
  · simp only [List.cons.injEq, and_true] at h
    exact ⟨[], .inl ⟨h, rfl⟩, by simp⟩
  · simp only [List.cons.injEq, and_true] at h
    obtain ⟨ss, rfl⟩ := tyd_map (f := fun x : UInt8 => [V.int .u8 x.toNat]) (fun x hx => by
      obtain ⟨n, rfl, h1, h2⟩ := tyd_int hx u5
      have h1 : (0 : Int) ≤ n := h1
      have h2 : n ≤ 255 := h2
      refine ⟨UInt8.ofNat n.toNat, ?_⟩
      have : ((UInt8.ofNat n.toNat).toNat : Int) = n := by
        rw [UInt8.toNat_ofNat']; omega
      rw [this]) ht
    refine ⟨ss, .inr ?_, by simpa using hl⟩
    rw [h, flatB1]; simp
theorem fts34 : fieldTs env.P 34 = some [3, 3, 26] := by kernel_rfl
def GoodA (a : Act) : Prop := OkA a ∧ a.b.closed = true
theorem tyd_A {x : List V} {k : Nat} (h : Tyd env.P (k + 3) 34 x) : ∃ a : {a : Act // GoodA a}, x = actC a.1 := by
  have h := tyd_struct h fts34
  obtain ⟨a, r, rfl, ha, b, r2, rfl, hb, c, r3, rfl, hc, rfl⟩ := h
  obtain ⟨n, rfl, _⟩ := tyd_int ha u3
  obtain ⟨m, rfl, hm1, hm2⟩ := tyd_int hb u3
  have hd1 : ∃ w, c = [w] := by
    rcases tyd_slice hc u26 with h | ⟨_, h, _⟩ <;> exact ⟨_, h⟩
  obtain ⟨w, rfl⟩ := hd1
  obtain ⟨s, hw, _⟩ := tyd_bytes hc
  refine ⟨⟨⟨n, m, w, s⟩, ⟨?_, hm1, hm2⟩, ?_⟩, rfl⟩
  · rcases hw with ⟨rfl, rfl⟩ | rfl
    · exact .inl ⟨rfl, rfl⟩
    · exact .inr ⟨_, rfl⟩
  · exact closed_row (t := s) (hw.imp (·.1) id)
theorem closed_flatA : ∀ l : List Act, (∀ a ∈ l, a.b.closed = true) → V.closed.closedL (flatA l) = true
  | [], _ => rfl
  | a :: l, h => by
    have h1 := closed_flatA l fun x hx => h x (by simp [hx])
    have h2 := h a (by simp)
    simp only [flatA, List.flatMap_cons, actC, List.cons_append, List.nil_append] at h1 ⊢
    simp only [V.closed.closedL, V.closed, h2, Bool.true_and]
    exact h1
theorem tyd_AS {v : V} {k : Nat} (h : Tyd env.P (k + 4) 31 [v]) : ∃ l, IsA v l ∧ v.closed = true ∧ l.length ≤ maxLen := by
  rcases tyd_slice h u31 with h | ⟨vss, h, hl, _, ht⟩
  · simp only [List.cons.injEq, and_true] at h
    subst h
    exact ⟨[], ⟨.inl ⟨rfl, rfl⟩, fun a ha => by simp at ha⟩, rfl, by simp⟩
  · simp only [List.cons.injEq, and_true] at h
    obtain ⟨cs, rfl⟩ := tyd_map (f := fun c : {a : Act // GoodA a} => actC c.1) (fun x hx => tyd_A hx) ht
    have e : (cs.map fun c => actC c.1).flatten = flatA (cs.map (·.1)) := by simp only [flatA, List.flatMap, List.map_map]; rfl
    have hg : ∀ a ∈ cs.map (·.1), GoodA a := fun a ha => by
      obtain ⟨x, _, rfl⟩ := List.mem_map.1 ha; exact x.2
    subst h
    refine ⟨cs.map (·.1), ⟨.inr ?_, fun a ha => (hg a ha).1⟩, ?_, by simpa using hl⟩
    · rw [e]; simp
    · simp only [V.closed]
      rw [e]
      exact closed_flatA _ fun a ha => (hg a ha).2
theorem acts_foundt {u : V} (h : Tyd Tryd.prog 5 31 [u]) : Go.Ab.Found env 6 [u] := by
  obtain ⟨l, h1, h2, h3⟩ := tyd_AS (k := 1) h
  exact acts_found h1 h2 h3
end Go.Proofs.YtncohjljeoknkaaDoor.D
