/- Proved here: the law. Conditions: those of each theorem; no statement of the seat is proved in this text. -/
import Derived.Test.YtncohjljeoknkaaDoorDkB
namespace Go.Proofs.YtncohjljeoknkaaDoor.D
open Go.Ab
set_option maxHeartbeats 8000000
set_option maxRecDepth 100000
set_option linter.unusedSimpArgs false
set_option linter.unusedVariables false
set_option linter.unusedSectionVars false
def Wr (L : List AObj) (v : V) (n : Nat) : Prop := (∀ e, vLenT (some (.slice e)) v = some (.int .i64 n)) ∧ (n = 0 ∨ ∃ b cap cs ex, v = .hsl b 0 n cap ex ∧ L[b]? = some (.cells cs 5) ∧ n ≤ cs.length)
theorem Wr.move {L L' : List AObj} {v : V} {n : Nat} (h : Wr L v n) (hq : ∀ q, blkOf v = some q → L'[q]? = L[q]?) : Wr L' v n := by
  obtain ⟨h1, h2⟩ := h
  refine ⟨h1, ?_⟩
  rcases h2 with h2 | ⟨b, cap, cs, ex, rfl, h2, h3⟩
  · exact .inl h2
  · exact .inr ⟨b, cap, cs, ex, rfl, by rw [hq b rfl]; exact h2, h3⟩
theorem Wr.put {L : List AObj} {v : V} {n : Nat} (h : Wr L v n) {i : Nat} (hi : i < n) (ts : List Nat) (x : Int) :
    ∃ b L', blkOf v = some b ∧ vIndexAddr 1 v (.int .i64 (i : Int)) = some (.ptr b i) ∧ storeAt ⟨L, ts⟩ [.int .u8 x] b i L[b]? = some ⟨L', ts⟩ ∧ Wr L' v n ∧ L'.length = L.length ∧ ∀ q, q ≠ b → L'[q]? = L[q]? := by
  obtain ⟨h1, h2⟩ := h
  rcases h2 with h2 | ⟨b, cap, cs, ex, rfl, h2, h3⟩
  · omega
  · refine ⟨b, L.set b (.cells (storeList cs i [.int .u8 x]) 5), rfl, ?_, ?_, ⟨h1, .inr ⟨b, cap, _, ex, rfl, List.getElem?_set_self (B.lt_get h2), ?_⟩⟩, by simp, fun q hq => by rw [List.getElem?_set_ne (Ne.symm hq)]⟩
    · rw [index_hsl, if_pos (by omega), Int.toNat_natCast, Nat.zero_add, Nat.mul_one]
    · rw [h2, YE, if_pos ⟨by simp; omega, by simp [V.isCell]⟩]; rfl
    · simp [storeList]; omega
theorem Rd.convR {L : List AObj} {y : V} {t : List UInt8} (h : Rd L y t) : convR env L (some (.slice 5)) (some .string) y = some (.str t) := by
  have hv := h.vcells
  rcases h with ⟨rfl, rfl⟩ | ⟨b, off, cap, ex, cs, rfl, _⟩ | ⟨cells, cap, rfl, _⟩ <;> simp [Go.Ab.convR, u5, hv, bytesOf_cells]
end Go.Proofs.YtncohjljeoknkaaDoor.D
namespace Go.Proofs.YtncohjljeoknkaaDoor.D
open Go.Ab
set_option maxHeartbeats 8000000
set_option maxRecDepth 100000
set_option linter.unusedSimpArgs false
set_option linter.unusedVariables false
theorem Dk.move {L L' : List AObj} {d : Nat} {s : DS} {bv dv : V} {lr : Int} (h : Dk L d s bv dv lr) (hq : ∀ q, fp d bv dv q → L'[q]? = L[q]?) : Dk L' d s bv dv lr :=
  ⟨by rw [hq d (.inl rfl)]; exact h.cell, h.buf.move fun q k => hq q (.inr (.inl k)), h.dur.move fun q k => hq q (.inr (.inr k)), h.bd, h.dd, h.bdv⟩
theorem Dk.lt {L : List AObj} {d : Nat} {s : DS} {bv dv : V} {lr : Int} (h : Dk L d s bv dv lr) {q : Nat} (hq : fp d bv dv q) : q < L.length := by
  rcases hq with rfl | hq | hq
  · exact B.lt_get h.cell
  · exact h.buf.rd.lt hq
  · exact h.dur.rd.lt hq
structure At6 (L : List AObj) (d o : Nat) (s : DS) (bv dv : V) (lr : Int) : Prop where
  dk : Dk L d s bv dv lr
  rf : RefAt L o s
  sep : ¬ fp d bv dv o
  ok : OkS s
end Go.Proofs.YtncohjljeoknkaaDoor.D
namespace Go.Proofs.YtncohjljeoknkaaDoor.D
open Go.Ab
set_option maxHeartbeats 8000000
set_option maxRecDepth 100000
set_option linter.unusedSimpArgs false
set_option linter.unusedVariables false
theorem known_call (σ : S) : callFn env (ev env) 3 [] σ = some (.bool true, σ) := rfl
theorem neq_nilp (b o : Nat) (cc : Bool) : binO env 22 cc .eql (some (.ptr b o)) (some .nilptr) = some (.bool false) := by cases cc <;> kernel_rfl
theorem flatB1 : ∀ s : List UInt8, (s.map fun x => [V.int .u8 x.toNat]).flatten = byteCells s
  | [] => rfl
  | x :: s => by simp only [List.map_cons, List.flatten_cons, flatB1 s]; rfl
theorem tyd_bytes {w : V} {k : Nat} (h : Tyd env.P (k + 2) 26 [w]) : ∃ s : List UInt8, (w = .nilsl ∧ s = [] ∨ w = .row (byteCells s) s.length .unk) ∧ s.length ≤ maxLen := by
  rcases tyd_slice h u26 with h | ⟨vss, h, hl, _, ht⟩
  · simp only [List.cons.injEq, and_true] at h
    exact ⟨[], .inl ⟨h, rfl⟩, by simp⟩
  · simp only [List.cons.injEq, and_true] at h
    obtain ⟨ss, rfl⟩ := tyd_map (f := fun x : UInt8 => [V.int .u8 x.toNat]) (fun x hx => by
      obtain ⟨n, rfl, h1, h2⟩ := tyd_int hx u5
      have h1 : (0 : Int) ≤ n := h1
      have h2 : n ≤ 255 := h2
      refine ⟨UInt8.ofNat n.toNat, ?_⟩
      have : ((UInt8.ofNat n.toNat).toNat : Int) = n := by
        rw [UInt8.toNat_ofNat']; omega
      rw [this]) ht
    refine ⟨ss, .inr ?_, by simpa using hl⟩
    rw [h, flatB1]; simp
end Go.Proofs.YtncohjljeoknkaaDoor.D
namespace Go.Proofs.YtncohjljeoknkaaDoor.D
open Go.Ab
set_option maxHeartbeats 8000000
set_option maxRecDepth 100000
set_option linter.unusedSimpArgs false
set_option linter.unusedVariables false
theorem begB_app (s t : List UInt8) : begB s (s ++ t) = true := by simp [begB]
theorem begB_refl (s : List UInt8) : begB s s = true := by simp [begB]
theorem begB_take (s t : List UInt8) (k : Nat) : begB (s ++ t.take k) (s ++ t) = true := by
  have h : s ++ t = (s ++ t.take k) ++ t.drop k := by rw [List.append_assoc, List.take_append_drop]
  rw [h]; exact begB_app _ _
end Go.Proofs.YtncohjljeoknkaaDoor.D
namespace Go.Proofs.YtncohjljeoknkaaDoor.D
open Go.Ab
set_option maxHeartbeats 8000000
set_option maxRecDepth 100000
set_option linter.unusedSimpArgs false
set_option linter.unusedVariables false
theorem at5 : env.P.funcs[5]? = some Tryd.f5 := by kernel_rfl
theorem u37 : env.P.underlying 37 = some (.slice 26) := by kernel_rfl
theorem u38 : env.P.underlying 38 = some (.slice 4) := by kernel_rfl
theorem mb5 (r : Nat) : env.mutb 5 r = true := rfl
noncomputable def body5 : Code := (blkC 1 (bodyOf Tryd.f5)).getD .skip
def Fu (s : DS) (ps : List UInt8) (f : Nat) : Prop := begB (s.D ++ s.P) ps = true ∧ (s.D ++ s.P).length ≤ f ∧ 0 ≤ s.left ∧ (s.stop = false → s.D ++ s.P = ps ∧ s.left + ps.length = f)
theorem begB_more {s t : List UInt8} (u : List UInt8) (h : begB s t = true) : begB s (t ++ u) = true := by
  simp only [begB, Bool.and_eq_true, decide_eq_true_eq] at h ⊢
  refine ⟨by simp; omega, ?_⟩
  rw [List.take_append_of_le_length h.1]; exact h.2
theorem fu_write {s : DS} {ps : List UInt8} {f : Nat} (h : Fu s ps f) (b : List UInt8) : Fu (wrS s b).1 (ps ++ b) f ∧ ((wrS s b).2 = 0 ↔ (wrS s b).1.stop = false) := by
  obtain ⟨h1, h2, h3, h4⟩ := h
  unfold wrS
  by_cases c : s.stop = true
  · rw [if_pos c]
    exact ⟨⟨begB_more b h1, h2, h3, fun e => by simp only at e; rw [c] at e; cases e⟩, by simp [c]⟩
  · have c' : s.stop = false := by simpa using c
    obtain ⟨e1, e2⟩ := h4 c'
    rw [if_neg c, if_neg (by omega)]
    by_cases c2 : s.left < b.length
    · rw [if_pos c2]
      refine ⟨⟨?_, ?_, by simp, fun e => by cases e⟩, by simp⟩
      · simp only
        rw [← List.append_assoc, e1]; exact begB_take _ _ _
      · simp only
        rw [← List.append_assoc, e1, List.length_append, List.length_take]; omega
    · rw [if_neg c2]
      refine ⟨⟨?_, ?_, by simp only; omega, fun _ => ⟨?_, ?_⟩⟩, by simp⟩
      · simp only
        rw [← List.append_assoc, e1]; exact begB_refl _
      · simp only
        rw [← List.append_assoc, e1, List.length_append]; omega
      · simp only
        rw [← List.append_assoc, e1]
      · simp only [List.length_append]; omega
theorem fu_sync {s : DS} {ps : List UInt8} {f : Nat} (h : Fu s ps f) : Fu (syncS s).1 ps f := by
  obtain ⟨h1, h2, h3, h4⟩ := h
  unfold syncS
  split
  · exact ⟨h1, h2, h3, h4⟩
  · split
    · exact ⟨h1, h2, by simp, fun e => by cases e⟩
    · rename_i c _
      refine ⟨by simpa using h1, by simpa using h2, h3, fun _ => ?_⟩
      simpa using h4 (by simpa using c)
structure At5 (L : List AObj) (d : Nat) (s : DS) (bv dv : V) (lr : Int) (pv : V) (ps : List UInt8) (f : Nat) : Prop where
  dk : Dk L d s bv dv lr
  own : Own L pv ps
  sep : ∀ q, blkOf pv = some q → ¬ fp d bv dv q
  ok : OkS s
  fu : Fu s ps f
theorem At5.keep {L L' : List AObj} {d : Nat} {s : DS} {bv dv : V} {lr : Int} {pv : V} {ps : List UInt8} {f : Nat} (h : At5 L d s bv dv lr pv ps f) (k : Keep L L') : At5 L' d s bv dv lr pv ps f :=
  ⟨h.dk.keep k, h.own.move fun q hq => k.2 q (h.own.rd.lt hq), h.sep, h.ok, h.fu⟩
theorem tail5 {Q : Post} {ks : List Kt} {L : List AObj} {ts : List Nat} {d : Nat} {s : DS} {bv dv : V} {lr : Int} {pv : V} {ps : List UInt8} {f : Nat} {T : Tm} (c : Code) (hc : c = dropC 5 body5) (h : At5 L d s bv dv lr pv ps f) (hl : s.D.length + s.P.length ≤ 2 ^ 37)
    (t1 : T 1 = .int .i64 f) (t8 : T 8 = .ptr d 0) (t9 : T 9 = pv)
    (hk : ∀ T' L', T' 0 = T 0 → T' 1 = T 1 → T' 2 = T 2 → T' 7 = T 7 → T' 8 = T 8 → T' 9 = T 9 → T' 10 = T 10 → Keep L L' → G env 5 none 98 Q ks .skip T' [] ⟨L', ts⟩) : G env 5 none 98 Q ks c T [] ⟨L, ts⟩ := by
  subst hc
  simp only [body5, bodyOf, Tryd.f5, Option.getD_some, blkC, Option.or, dropC, Nat.reduceEqDiff, if_false, if_true, reduceIte]
  obtain ⟨v1, L1, hC1, hO1, hK1, hN1⟩ := all_call (ts := ts) h.dk (by omega)
  have h1 := h.keep hK1
  have hB := begins_call (ts := ts) hO1.rd h1.own.rd
  rw [h.fu.1] at hB
  obtain ⟨v2, L2, hC2, hO2, hK2, hN2⟩ := all_call (ts := ts) h1.dk (by omega)
  have l2 := hO2.rd.lenT 5
  have c2 : ¬ (f : Int) < ((s.D ++ s.P).length : Int) := by have := h.fu.2.1; omega
  simp -implicitDefEqProofs only [Wa,Wb,Wc,Wd,We,Wf,Wg,Wh,Wi,Wj,Wk,Wl,Wm,Wn,Zo,Zp,evalT,Nat.reduceLT,Nat.reduceEqDiff,if_true,if_false,reduceIte,Ys,ofVal,ofCell,argT,resT,setT,Y0,Int.reduceEq,Int.reduceLT,Int.reduceLE,Int.reduceNeg,mb,Nat.reduceBEq,tys,stb,Va,storeList,Nat.reduceAdd,Nat.reduceLeDiff,t1,t8,t9,hC1,hB,hC2,l2,c2]
  exact hk _ _ rfl rfl rfl rfl rfl rfl rfl (hK1.trans hK2)
def IsBB (v : V) (l : List (V × List UInt8)) : Prop := ((v = .nilsl ∧ l = []) ∨ v = .row (l.map (·.1)) l.length .unk) ∧ ∀ a ∈ l, RowB a.1 a.2
theorem IsBB.len {v : V} {l : List (V × List UInt8)} (h : IsBB v l) (e : TypeId) : vLenT (some (.slice e)) v = some (.int .i64 l.length) := by
  rcases h.1 with ⟨rfl, rfl⟩ | rfl <;> rfl
def IsTT (v : V) (l : List Bool) : Prop := (v = .nilsl ∧ l = []) ∨ v = .row (l.map V.bool) l.length .unk
theorem IsTT.len {v : V} {l : List Bool} (h : IsTT v l) (e : TypeId) : vLenT (some (.slice e)) v = some (.int .i64 l.length) := by
  rcases h with ⟨rfl, rfl⟩ | rfl <;> rfl
theorem turn5 {Q : Post} {ks : List Kt} {L : List AObj} {ts : List Nat} {d i : Nat} {s : DS} {bv dv : V} {lr : Int} {pv sv : V} {ps : List UInt8} {f : Nat} {T : Tm} {l : List (V × List UInt8)} {sy : List Bool} (c : Code) (hc : c = body5) (h : At5 L d s bv dv lr pv ps f) (hl : s.D.length + s.P.length ≤ 2 ^ 36) (hps : ps.length ≤ 2 ^ 36) (hi : i < l.length) (ha : RowB l[i].1 l[i].2) (hsy : IsTT sv sy)
    (t0 : T 0 = .row (l.map (·.1)) l.length .unk) (t1 : T 1 = .int .i64 f) (t2 : T 2 = sv) (t7 : T 7 = .bool true) (t8 : T 8 = .ptr d 0) (t9 : T 9 = pv) (t10 : T 10 = .int .i64 i)
    (hr : ∀ T', T' 6 = .bool true → G env 5 none 98 Q ks .ret T' [] ⟨L, ts⟩)
    (hk : ∀ T' L' s' bv' dv' lr' pv' ps', T' 0 = T 0 → T' 1 = T 1 → T' 2 = T 2 → T' 7 = T 7 → T' 8 = T 8 → T' 9 = pv' → T' 10 = T 10 → At5 L' d s' bv' dv' lr' pv' ps' f → s'.D.length + s'.P.length ≤ s.D.length + s.P.length + 200 → ps'.length ≤ ps.length + 200 → G env 5 none 98 Q ks .skip T' [] ⟨L', ts⟩) : G env 5 none 98 Q ks c T [] ⟨L, ts⟩ := by
  subst hc
  rw [G_cut 5]
  generalize hR : dropC 5 body5 = R
  simp only [body5, bodyOf, Tryd.f5, Option.getD_some, blkC, Option.or, takeC, Nat.reduceEqDiff, if_false, if_true, reduceIte]
  have hidx : vIndexAddr 1 (.row (l.map (·.1)) l.length .unk) (.int .i64 (i : Int)) = some (.rptr ((l.map (·.1)).drop (i * 1))) := by
    rw [Ys, if_pos (by omega), Int.toNat_natCast]
  have hld : (l.map (·.1))[i]? = some l[i].1 := by simp [hi]
  generalize l[i] = a at *
  obtain ⟨y, b⟩ := a
  simp only at ha hld
  have hlen := (ha.rd L).lenT 5
  have hi0 : (0 : Int) ≤ (i : Int) := by omega
  have hil : (i : Int) < (l.length : Int) := by omega
  by_cases cb : 200 < b.length
  · have cb' : (200 : Int) < (b.length : Int) := by omega
    simp -implicitDefEqProofs only [Wa,Wb,Wc,Wd,We,Wf,Wg,Wh,Wi,Wj,Wk,Wl,Wm,Wn,Zo,Zp,evalT,Nat.reduceLT,Nat.reduceEqDiff,if_true,if_false,reduceIte,Ys,ofVal,ofCell,argT,resT,setT,Y0,Int.reduceEq,Int.reduceLT,Int.reduceLE,Int.reduceNeg,mb,Nat.reduceBEq,tys,stb,Va,storeList,Nat.reduceAdd,Nat.reduceLeDiff,t0,t7,t10,u37,s26,hi0,hil,hidx,hld,hlen,cb']
    exact hr _ rfl
  have cb' : ¬ (200 : Int) < (b.length : Int) := by omega
  obtain ⟨pv1, L1, hA, hO1, hl1, hm1, hf1⟩ := app_own (ts := ts) h.own (ha.rd L) (by omega)
  have hlt : ∀ q, fp d bv dv q → q < L.length := fun q hq => h.dk.lt hq
  have hD1 : Dk L1 d s bv dv lr := h.dk.move fun q hq => hm1 q (hlt q hq) (fun e => h.sep q e hq)
  have hsep1 : ∀ q, blkOf pv1 = some q → ¬ fp d bv dv q := fun q hq hf => by
    rcases hf1 with e | ⟨p, e1, e2⟩
    · exact h.sep q (by rw [← e]; exact hq) hf
    · rw [e1] at hq; cases hq; have := hlt _ hf; omega
  obtain ⟨hF, he⟩ := fu_write h.fu b
  obtain ⟨L2, bv2, dv2, lr2, hW, hD2, hS2⟩ := wr_call (ts := ts) hD1 h.ok (ha.rd L1) (by rw [ha.blk]; simp) (by omega)
  have hwl := wr_len s b
  have hsep2 : ∀ q, blkOf pv1 = some q → ¬ fp d bv2 dv2 q := fun q hq hf => by
    rcases hS2.2.2 q hf with k | k
    · exact hsep1 q hq k
    · have := hO1.rd.lt hq; omega
  have hO2 : Own L2 pv1 (ps ++ b) := hO1.move fun q hq => hS2.2.1 q (hO1.rd.lt hq) (hsep1 q hq)
  have hok2 : OkS (wrS s b).1 := by
    obtain ⟨o1, o2⟩ := h.ok
    have := hF.2.2.1
    refine ⟨by omega, ?_⟩
    unfold wrS
    split
    · exact o2
    · split
      · simp
      · split
        · simp
        · simp only; omega
  have hAt2 : At5 L2 d (wrS s b).1 bv2 dv2 lr2 pv1 (ps ++ b) f := ⟨hD2, hO2, hsep2, hok2, hF⟩
  have hst := stopped_call (ts := ts) hD2
  have hlp : (ps ++ b).length ≤ ps.length + 200 := by simp; omega
  revert hAt2 hst hD2 hW he hwl
  generalize (wrS s b).1 = s2
  generalize (wrS s b).2 = e2
  intro he hW hD2 hwl hAt2 hst
  clear hF hok2 hS2 hsep2 hO2
  -- the end of the turn
  have fin : ∀ (T' : Tm) (L3 : List AObj) (s3 : DS) (bv3 dv3 : V) (lr3 : Int), T' 0 = T 0 → T' 1 = T 1 → T' 2 = T 2 → T' 7 = T 7 → T' 8 = T 8 → T' 9 = pv1 → T' 10 = T 10 → At5 L3 d s3 bv3 dv3 lr3 pv1 (ps ++ b) f → s3.D.length + s3.P.length ≤ s.D.length + s.P.length + 200 → G env 5 none 98 Q ks R T' [] ⟨L3, ts⟩ := by
    intro T' L3 s3 bv3 dv3 lr3 k0 k1 k2 k7 k8 k9 k10 hA3 hs3
    refine tail5 R hR.symm hA3 (by omega) (k1.trans t1) (k8.trans t8) k9 fun T'' L' j0 j1 j2 j7 j8 j9 j10 hK => ?_
    exact hk T'' L' s3 bv3 dv3 lr3 pv1 _ (j0.trans k0) (j1.trans k1) (j2.trans k2) (j7.trans k7) (j8.trans k8) (j9.trans k9) (j10.trans k10) (hA3.keep hK) hs3 hlp
  have hsl := hsy.len 4
  have fin2 : ∀ (T' : Tm), T' 0 = T 0 → T' 1 = T 1 → T' 2 = T 2 → T' 7 = T 7 → T' 8 = T 8 → T' 9 = pv1 → T' 10 = T 10 → G env 5 none 98 Q ks R T' [] ⟨L2, ts⟩ := fun T' k0 k1 k2 k7 k8 k9 k10 => fin T' L2 s2 bv2 dv2 lr2 k0 k1 k2 k7 k8 k9 k10 hAt2 (by omega)
  have hee : e2 = 0 ∧ s2.stop = false ∨ ¬ e2 = 0 ∧ s2.stop = true := by
    cases hh : s2.stop with
    | true => exact .inr ⟨fun e => (by have := he.1 e; rw [hh] at this; cases this), rfl⟩
    | false => exact .inl ⟨he.2 hh, rfl⟩
  have hpc := hO1.rd.cells
  by_cases cs : i < sy.length
  · have cs' : (i : Int) < (sy.length : Int) := by omega
    have hsv : sv = .row (sy.map V.bool) sy.length .unk := by
      rcases hsy with ⟨_, rfl⟩ | rfl
      · simp at cs
      · rfl
    have hidy : vIndexAddr 1 (.row (sy.map V.bool) sy.length .unk) (.int .i64 (i : Int)) = some (.rptr ((sy.map V.bool).drop (i * 1))) := by
      rw [Ys, if_pos (by omega), Int.toNat_natCast]
    have hldy : (sy.map V.bool)[i]? = some (.bool sy[i]) := by simp [cs]
    subst hsv
    generalize sy[i] = bb at *
    cases bb with
    | true =>
      obtain ⟨L3, bv3, dv3, lr3, hSy, hD3, hS3⟩ := sync_call (ts := ts) hD2 (by omega)
      have hFs := fu_sync hAt2.fu
      have hA3 : At5 L3 d (syncS s2).1 bv3 dv3 lr3 pv1 (ps ++ b) f := by
        refine ⟨hD3, hAt2.own.move fun q hq => hS3.2.1 q (hAt2.own.rd.lt hq) (hAt2.sep q hq), fun q hq hf => ?_, ?_, hFs⟩
        · rcases hS3.2.2 q hf with k | k
          · exact hAt2.sep q hq k
          · have := hAt2.own.rd.lt hq; omega
        · obtain ⟨o1, o2⟩ := hAt2.ok
          unfold syncS; split <;> (try split) <;> simp only [OkS] <;> omega
      have hsl3 : (syncS s2).1.D.length + (syncS s2).1.P.length ≤ s2.D.length + s2.P.length := by
        unfold syncS; split <;> (try split) <;> simp
      rcases hee with ⟨rfl, hs⟩ | ⟨hn, hs⟩
      · rw [hs] at hst
        simp -implicitDefEqProofs only [Wa,Wb,Wc,Wd,We,Wf,Wg,Wh,Wi,Wj,Wk,Wl,Wm,Wn,Zo,Zp,evalT,Nat.reduceLT,Nat.reduceEqDiff,if_true,if_false,reduceIte,Ys,ofVal,ofCell,argT,resT,setT,Y0,Int.reduceEq,Int.reduceLT,Int.reduceLE,Int.reduceNeg,mb,Nat.reduceBEq,tys,stb,Va,storeList,Nat.reduceAdd,Nat.reduceLeDiff,t0,t2,t7,t8,t9,t10,u37,u38,s26,s4,hi0,hil,hidx,hld,hlen,cb',mb5,hA,hpc,hW,hst,hsl,cs',hidy,hldy,hSy]
        exact fin _ L3 _ bv3 dv3 lr3 rfl rfl rfl rfl rfl rfl rfl hA3 (by omega)
      · rw [hs] at hst
        have hn' := eq_false hn
        simp -implicitDefEqProofs only [Wa,Wb,Wc,Wd,We,Wf,Wg,Wh,Wi,Wj,Wk,Wl,Wm,Wn,Zo,Zp,evalT,Nat.reduceLT,Nat.reduceEqDiff,if_true,if_false,reduceIte,Ys,ofVal,ofCell,argT,resT,setT,Y0,Int.reduceEq,Int.reduceLT,Int.reduceLE,Int.reduceNeg,mb,Nat.reduceBEq,tys,stb,Va,storeList,Nat.reduceAdd,Nat.reduceLeDiff,t0,t2,t7,t8,t9,t10,u37,u38,s26,s4,hi0,hil,hidx,hld,hlen,cb',mb5,hA,hpc,hW,hst,hn',hsl,cs',hidy,hldy,hSy]
        exact fin _ L3 _ bv3 dv3 lr3 rfl rfl rfl rfl rfl rfl rfl hA3 (by omega)
    | false =>
      rcases hee with ⟨rfl, hs⟩ | ⟨hn, hs⟩
      · rw [hs] at hst
        simp -implicitDefEqProofs only [Wa,Wb,Wc,Wd,We,Wf,Wg,Wh,Wi,Wj,Wk,Wl,Wm,Wn,Zo,Zp,evalT,Nat.reduceLT,Nat.reduceEqDiff,if_true,if_false,reduceIte,Ys,ofVal,ofCell,argT,resT,setT,Y0,Int.reduceEq,Int.reduceLT,Int.reduceLE,Int.reduceNeg,mb,Nat.reduceBEq,tys,stb,Va,storeList,Nat.reduceAdd,Nat.reduceLeDiff,t0,t2,t7,t8,t9,t10,u37,u38,s26,s4,hi0,hil,hidx,hld,hlen,cb',mb5,hA,hpc,hW,hst,hsl,cs',hidy,hldy]
        exact fin2 _ rfl rfl rfl rfl rfl rfl rfl
      · rw [hs] at hst
        have hn' := eq_false hn
        simp -implicitDefEqProofs only [Wa,Wb,Wc,Wd,We,Wf,Wg,Wh,Wi,Wj,Wk,Wl,Wm,Wn,Zo,Zp,evalT,Nat.reduceLT,Nat.reduceEqDiff,if_true,if_false,reduceIte,Ys,ofVal,ofCell,argT,resT,setT,Y0,Int.reduceEq,Int.reduceLT,Int.reduceLE,Int.reduceNeg,mb,Nat.reduceBEq,tys,stb,Va,storeList,Nat.reduceAdd,Nat.reduceLeDiff,t0,t2,t7,t8,t9,t10,u37,u38,s26,s4,hi0,hil,hidx,hld,hlen,cb',mb5,hA,hpc,hW,hst,hn',hsl,cs',hidy,hldy]
        exact fin2 _ rfl rfl rfl rfl rfl rfl rfl
  · have cs' : ¬ (i : Int) < (sy.length : Int) := by omega
    rcases hee with ⟨rfl, hs⟩ | ⟨hn, hs⟩
    · rw [hs] at hst
      simp -implicitDefEqProofs only [Wa,Wb,Wc,Wd,We,Wf,Wg,Wh,Wi,Wj,Wk,Wl,Wm,Wn,Zo,Zp,evalT,Nat.reduceLT,Nat.reduceEqDiff,if_true,if_false,reduceIte,Ys,ofVal,ofCell,argT,resT,setT,Y0,Int.reduceEq,Int.reduceLT,Int.reduceLE,Int.reduceNeg,mb,Nat.reduceBEq,tys,stb,Va,storeList,Nat.reduceAdd,Nat.reduceLeDiff,t0,t2,t7,t8,t9,t10,u37,u38,s26,s4,hi0,hil,hidx,hld,hlen,cb',mb5,hA,hpc,hW,hst,hsl,cs']
      exact fin2 _ rfl rfl rfl rfl rfl rfl rfl
    · rw [hs] at hst
      have hn' := eq_false hn
      simp -implicitDefEqProofs only [Wa,Wb,Wc,Wd,We,Wf,Wg,Wh,Wi,Wj,Wk,Wl,Wm,Wn,Zo,Zp,evalT,Nat.reduceLT,Nat.reduceEqDiff,if_true,if_false,reduceIte,Ys,ofVal,ofCell,argT,resT,setT,Y0,Int.reduceEq,Int.reduceLT,Int.reduceLE,Int.reduceNeg,mb,Nat.reduceBEq,tys,stb,Va,storeList,Nat.reduceAdd,Nat.reduceLeDiff,t0,t2,t7,t8,t9,t10,u37,u38,s26,s4,hi0,hil,hidx,hld,hlen,cb',mb5,hA,hpc,hW,hst,hn',hsl,cs']
      exact fin2 _ rfl rfl rfl rfl rfl rfl rfl
theorem fuses_found {v sv : V} {l : List (V × List UInt8)} {sy : List Bool} (h : IsBB v l) (x : Int) (hsy : IsTT sv sy) : Go.Ab.Found env 5 [v, .int .i64 x, sv] := by
  refine found_of_wp at5 rfl (by simp [Tryd.f5]) (by simp [Tryd.f5]) (G_start ?_)
  have lA := h.len 26
  by_cases c60 : 60 < l.length
  · have c60' : (60 : Int) < (l.length : Int) := by omega
    simp -implicitDefEqProofs only [Tryd.f5,Wa,Wb,Wc,Wd,We,Wf,Wg,Wh,Wi,Wj,Wk,Wl,Wm,Wn,Zo,Zp,evalT,Nat.reduceLT,Nat.reduceEqDiff,if_true,if_false,reduceIte,Ys,ofVal,ofCell,argT,resT,setT,Y0,Int.reduceEq,Int.reduceLT,Int.reduceLE,Int.reduceNeg,mb,Nat.reduceBEq,tys,stb,u37,lA,c60',known_call]
    simp only [oneOr]
  have c60' : ¬ (60 : Int) < (l.length : Int) := by omega
  obtain ⟨f, hf, w1, w2⟩ : ∃ f : Nat, f < 1000 ∧ IntKind.wrap .i64 (x.tmod 1000 + 1000) = x.tmod 1000 + 1000 ∧ (x.tmod 1000 + 1000).tmod 1000 = (f : Int) := by
    have b1 := Int.tmod_lt_of_pos x (show (0 : Int) < 1000 by omega)
    have b2 : -1000 < x.tmod 1000 := by
      have := Int.tmod_lt_of_pos (-x) (show (0 : Int) < 1000 by omega)
      rw [Int.neg_tmod] at this; omega
    have b3 : (x.tmod 1000 + 1000).tmod 1000 = (x.tmod 1000 + 1000) % 1000 := Int.tmod_eq_emod_of_nonneg (by omega)
    exact ⟨((x.tmod 1000 + 1000) % 1000).toNat, by omega, B.wrap64 (by omega), by omega⟩
  obtain ⟨L1, hC1, hD1, hK1⟩ := new_call [] []
  simp only [List.length_nil] at hC1 hD1
  obtain ⟨L2, bv, dv, lr, hC2, hD2, hS2⟩ := fuse_call (ts := []) (f : Int) hD1
  have e1 : fuseS ⟨[], [], -1, false⟩ (f : Int) = (⟨[], [], f, false⟩, 0) := by
    unfold fuseS
    rw [if_neg (by omega), if_neg (by simp)]
  rw [e1] at hC2 hD2
  have nz : ¬ ((1000 : Int) = 0) := by omega
  simp -implicitDefEqProofs only [Tryd.f5,Wa,Wb,Wc,Wd,We,Wf,Wg,Wh,Wi,Wj,Wk,Wl,Wm,Wn,Zo,Zp,evalT,Nat.reduceLT,Nat.reduceEqDiff,if_true,if_false,reduceIte,Ys,ofVal,ofCell,argT,resT,setT,Y0,Int.reduceEq,Int.reduceLT,Int.reduceLE,Int.reduceNeg,mb,Nat.reduceBEq,tys,stb,u37,lA,c60',known_call,nz,w1,w2,S.empty,hC1,neq_nilp,hC2]
  refine loop_rule (fun m T D σ => D = [] ∧ T 0 = v ∧ T 1 = .int .i64 f ∧ T 2 = sv ∧ T 7 = .bool true ∧ T 8 = .ptr 0 0 ∧ ∃ (i : Nat) (L : List AObj) (s : DS) (bv dv : V) (lr : Int) (pv : V) (ps : List UInt8), i ≤ l.length ∧ m = l.length - i ∧ T 9 = pv ∧ T 10 = .int .i64 i ∧ σ = ⟨L, []⟩ ∧ At5 L 0 s bv dv lr pv ps f ∧ s.D.length + s.P.length ≤ 200 * i ∧ ps.length ≤ 200 * i) ?_ l.length _ _ _ ⟨rfl, rfl, rfl, rfl, rfl, rfl, 0, L2, _, bv, dv, lr, .nilsl, [], by omega, rfl, rfl, rfl, rfl, ⟨hD2, .inl ⟨rfl, rfl⟩, fun q hq => (by cases hq), (by simp only [OkS]; omega), by simp [begB], by simp, by simp, fun _ => ⟨rfl, by simp⟩⟩, by simp, by simp⟩
  rintro m T D σ ⟨rfl, t0, t1, t2, t7, t8, i, L, s, bv, dv, lr, pv, ps, hi, rfl, t9, t10, rfl, hA, hs, hps⟩
  refine G_start ?_
  by_cases hlt : i < l.length
  · have c1 : (i : Int) < (l.length : Int) := by omega
    have hv : v = .row (l.map (·.1)) l.length .unk := by
      rcases h.1 with ⟨_, rfl⟩ | rfl
      · simp at hlt
      · rfl
    have w1 : IntKind.wrap .i64 ((i : Int) + 1) = ((i + 1 : Nat) : Int) := by rw [B.wrap64 (by omega)]; omega
    simp -implicitDefEqProofs only [Za,Zc,Zd,Ze,Zf,Zg,Zh,Zi,Zj,Zk,Zl,Zm,Zn,Zo,Zp,Zq,Zr,Zs,Zt,Zu,Zv,Zw,Zx,Zy,Zz,ZA,ZB,ZC,ZD,ZE,ZF,ZG,ZH,ZI,ZJ,ZK,ZL,ZM,ZN,ZO,ZP,ZQ,ZR,ZS,ZT,ZU,ZV,ZW,ZX,ZY,ZZ,Z0,Z1,Z2,Z3,Z4,Z5,Z6,evalT,Z7,Nat.reduceLT,Nat.reduceEqDiff,if_true,if_false,reduceIte,true_and,Z8,Z9,map_ite',Ya,bind_ite',Yb,Yc,Yd,Ye,Yf,Yg,Yh,Yi,Yj,Yk,Yl,Ym,Yn,Yo,Yp,Yq,Yr,Ys,Yt,Yu,Yv,Yw,ofVal,ofCell,argT,ZL1,resT,Yx,Yy,Nat.mul_one,Yz,YA,YB,YC,YD,YE,YF,YG,YH,YI,YJ,setT,YK,YL,YM,YN,YO,List.append_eq,YP,YQ,YR,YS,YT,YU,YV,YW,YX,Nat.add_zero,YY,YZ,Y0,Y1,Y2,Y3,Int.toNat_natCast,Bool.false_eq_true,Int.reduceEq,Int.reduceLT,Int.reduceLE,Int.reduceNeg,not_false_eq_true,and_self,Y4,Y5,Int.natCast_one,Int.cast_ofNat_Int,not_true_eq_false,decide_true,decide_false,true_implies,false_implies,Int.toNat_zero,List.length_cons,List.length_nil,Nat.zero_add,mb,Nat.reduceBEq,Bool.false_and,Bool.and_false,Y6,tys,stb,Y7,Y8,Y9,Qa,Qb,Qc,ZB1,Qd,Qe,Va,storeList,Nat.reduceAdd,Nat.reduceLeDiff,t0,t10,u37,lA,c1]
    rw [Zb]
    refine turn5 _ rfl hA (by omega) (by omega) hlt (h.2 _ (List.getElem_mem hlt)) hsy (t0.trans hv) t1 t2 t7 t8 t9 t10 ?_ ?_
    · intro T' k6
      simp -implicitDefEqProofs only [Wa,Wb,Wc,Wd,We,Wf,Wg,Wh,Wi,Wj,Wk,Wl,Wm,Wn,Zo,Zp,evalT,Nat.reduceLT,Nat.reduceEqDiff,if_true,if_false,reduceIte,Ys,ofVal,ofCell,argT,resT,setT,Y0,Int.reduceEq,Int.reduceLT,Int.reduceLE,Int.reduceNeg,mb,Nat.reduceBEq,tys,stb,Va,storeList,Nat.reduceAdd,Nat.reduceLeDiff,k6]
      simp only [oneOr]
    · intro T' L' s' bv' dv' lr' pv' ps' k0 k1 k2 k7 k8 k9 k10 hA' hs' hps'
      simp -implicitDefEqProofs only [Wa,Wb,Wc,Wd,We,Wf,Wg,Wh,Wi,Wj,Wk,Wl,Wm,Wn,Zo,Zp,evalT,Nat.reduceLT,Nat.reduceEqDiff,if_true,if_false,reduceIte,Ys,ofVal,ofCell,argT,resT,setT,Y0,Int.reduceEq,Int.reduceLT,Int.reduceLE,Int.reduceNeg,mb,Nat.reduceBEq,tys,stb,Va,storeList,Nat.reduceAdd,Nat.reduceLeDiff,k10,t10,w1]
      exact ⟨l.length - (i + 1), by omega, k0.trans t0, k1.trans t1, k2.trans t2, k7.trans t7, k8.trans t8, i + 1, L', s', bv', dv', lr', pv', ps', by omega, rfl, k9, rfl, rfl, hA', by omega, by omega⟩
  · have c1 : ¬ (i : Int) < (l.length : Int) := by omega
    have hst := stopped_call (ts := []) hA.dk
    obtain ⟨v1, L1, hC1, hO1, hK1, hN1⟩ := all_call (ts := []) hA.dk (by omega)
    have l1 := hO1.rd.lenT 5
    have l2 := hA.own.rd.lenT 5
    cases hh : s.stop with
    | true =>
      rw [hh] at hst
      simp -implicitDefEqProofs only [Wa,Wb,Wc,Wd,We,Wf,Wg,Wh,Wi,Wj,Wk,Wl,Wm,Wn,Zo,Zp,evalT,Nat.reduceLT,Nat.reduceEqDiff,if_true,if_false,reduceIte,Ys,ofVal,ofCell,argT,resT,setT,Y0,Int.reduceEq,Int.reduceLT,Int.reduceLE,Int.reduceNeg,mb,Nat.reduceBEq,tys,stb,Va,storeList,Nat.reduceAdd,Nat.reduceLeDiff,t0,t7,t8,t9,t10,u37,lA,c1,hst]
      simp only [oneOr]
    | false =>
      rw [hh] at hst
      rw [(hA.fu.2.2.2 hh).1] at l1
      simp -implicitDefEqProofs only [Wa,Wb,Wc,Wd,We,Wf,Wg,Wh,Wi,Wj,Wk,Wl,Wm,Wn,Zo,Zp,evalT,Nat.reduceLT,Nat.reduceEqDiff,if_true,if_false,reduceIte,Ys,ofVal,ofCell,argT,resT,setT,Y0,Int.reduceEq,Int.reduceLT,Int.reduceLE,Int.reduceNeg,mb,Nat.reduceBEq,tys,stb,Va,storeList,Nat.reduceAdd,Nat.reduceLeDiff,t0,t7,t8,t9,t10,u37,lA,c1,hst,hC1,l1,l2]
      simp only [oneOr]
theorem tyd_BB {v : V} {k : Nat} (h : Tyd env.P (k + 3) 37 [v]) : ∃ l, IsBB v l := by
  rcases tyd_slice h u37 with h | ⟨vss, h, hl, _, ht⟩
  · simp only [List.cons.injEq, and_true] at h
    subst h
    exact ⟨[], .inl ⟨rfl, rfl⟩, fun a ha => by simp at ha⟩
  · simp only [List.cons.injEq, and_true] at h
    obtain ⟨cs, rfl⟩ := tyd_map (f := fun c : {a : V × List UInt8 // RowB a.1 a.2} => [c.1.1]) (fun x hx => by
      have hd1 : ∃ w, x = [w] := by
        rcases tyd_slice hx u26 with h | ⟨_, h, _⟩ <;> exact ⟨_, h⟩
      obtain ⟨w, rfl⟩ := hd1
      obtain ⟨s, hw, _⟩ := tyd_bytes hx
      refine ⟨⟨(w, s), ?_⟩, rfl⟩
      rcases hw with ⟨rfl, rfl⟩ | rfl
      · exact .inl ⟨rfl, rfl⟩
      · exact .inr ⟨_, rfl⟩) ht
    subst h
    refine ⟨cs.map (·.1), .inr ?_, fun a ha => by obtain ⟨x, _, rfl⟩ := List.mem_map.1 ha; exact x.2⟩
    have e : ∀ cs : List {a : V × List UInt8 // RowB a.1 a.2}, (cs.map fun c => [c.1.1]).flatten = (cs.map (·.1)).map (·.1) := fun cs => by
      induction cs with
      | nil => rfl
      | cons c cs ih => simp only [List.map_cons, List.flatten_cons] at ih ⊢; rw [ih]; rfl
    rw [e]; simp
theorem tyd_TT {v : V} {k : Nat} (h : Tyd env.P (k + 2) 38 [v]) : ∃ l, IsTT v l := by
  rcases tyd_slice h u38 with h | ⟨vss, h, hl, _, ht⟩
  · simp only [List.cons.injEq, and_true] at h
    exact ⟨[], .inl ⟨h, rfl⟩⟩
  · simp only [List.cons.injEq, and_true] at h
    obtain ⟨bs, rfl⟩ := tyd_map (f := fun b : Bool => [V.bool b]) (fun x hx => tyd_bool hx u4) ht
    subst h
    refine ⟨bs, .inr ?_⟩
    have e : ∀ bs : List Bool, (bs.map fun b => [V.bool b]).flatten = bs.map V.bool := fun bs => by
      induction bs with
      | nil => rfl
      | cons b bs ih => simp only [List.map_cons, List.flatten_cons, ih]; rfl
    rw [e]; simp
theorem fuses_foundt {u w z : V} (h : Tyd Tryd.prog 5 37 [u]) (h2 : Tyd Tryd.prog 5 3 [w]) (h3 : Tyd Tryd.prog 5 38 [z]) : Go.Ab.Found env 5 [u, w, z] := by
  obtain ⟨l, a1⟩ := tyd_BB (k := 2) h
  obtain ⟨n, e, _⟩ := tyd_int h2 u3
  obtain ⟨sy, a3⟩ := tyd_TT (k := 3) h3
  simp only [List.cons.injEq, and_true] at e
  subst e
  exact fuses_found a1 n a3
end Go.Proofs.YtncohjljeoknkaaDoor.D
