/- Proved here: the law. Conditions: those of each theorem; no statement of the seat is proved in this text. -/
import Derived.Test.YtncohjljeoknkaaDoorDkB
namespace Go.Proofs.YtncohjljeoknkaaDoor.D
open Go.Ab
set_option maxHeartbeats 8000000
set_option maxRecDepth 100000
set_option linter.unusedSimpArgs false
set_option linter.unusedVariables false
set_option linter.unusedSectionVars false
def Wr (L : List AObj) (v : V) (n : Nat) : Prop := (∀ e, vLenT (some (.slice e)) v = some (.int .i64 n)) ∧ (n = 0 ∨ ∃ b cap cs ex, v = .hsl b 0 n cap ex ∧ L[b]? = some (.cells cs 5) ∧ n ≤ cs.length)
theorem Wr.move {L L' : List AObj} {v : V} {n : Nat} (h : Wr L v n) (hq : ∀ q, blkOf v = some q → L'[q]? = L[q]?) : Wr L' v n := by
  obtain ⟨h1, h2⟩ := h
  refine ⟨h1, ?_⟩
  rcases h2 with h2 | ⟨b, cap, cs, ex, rfl, h2, h3⟩
  · exact .inl h2
  · exact .inr ⟨b, cap, cs, ex, rfl, by rw [hq b rfl]; exact h2, h3⟩
theorem Wr.put {L : List AObj} {v : V} {n : Nat} (h : Wr L v n) {i : Nat} (hi : i < n) (ts : List Nat) (x : Int) :
    ∃ b L', blkOf v = some b ∧ vIndexAddr 1 v (.int .i64 (i : Int)) = some (.ptr b i) ∧ storeAt ⟨L, ts⟩ [.int .u8 x] b i L[b]? = some ⟨L', ts⟩ ∧ Wr L' v n ∧ L'.length = L.length ∧ ∀ q, q ≠ b → L'[q]? = L[q]? := by
  obtain ⟨h1, h2⟩ := h
  rcases h2 with h2 | ⟨b, cap, cs, ex, rfl, h2, h3⟩
  · omega
  · refine ⟨b, L.set b (.cells (storeList cs i [.int .u8 x]) 5), rfl, ?_, ?_, ⟨h1, .inr ⟨b, cap, _, ex, rfl, List.getElem?_set_self (B.lt_get h2), ?_⟩⟩, by simp, fun q hq => by rw [List.getElem?_set_ne (Ne.symm hq)]⟩
    · rw [index_hsl, if_pos (by omega), Int.toNat_natCast, Nat.zero_add, Nat.mul_one]
    · rw [h2, YE, if_pos ⟨by simp; omega, by simp [V.isCell]⟩]; rfl
    · simp [storeList]; omega
theorem aread_conv (T : Tm) (s : S) (x : Operand) : aread env (evalT env T) s (.convert 26 9 x) = (evalT env T x).bind fun v => convR env s.heap (some (.slice 5)) (some .string) v := by
  simp only [aread, u26, u9]
  rfl
theorem Rd.convR {L : List AObj} {y : V} {t : List UInt8} (h : Rd L y t) : convR env L (some (.slice 5)) (some .string) y = some (.str t) := by
  have hv := h.vcells
  rcases h with ⟨rfl, rfl⟩ | ⟨b, off, cap, ex, cs, rfl, _⟩ | ⟨cells, cap, rfl, _⟩ <;> simp [Go.Ab.convR, u5, hv, bytesOf_cells]
end Go.Proofs.YtncohjljeoknkaaDoor.D
namespace Go.Proofs.YtncohjljeoknkaaDoor.D
open Go.Ab
set_option maxHeartbeats 8000000
set_option maxRecDepth 100000
set_option linter.unusedSimpArgs false
set_option linter.unusedVariables false
theorem Dk.move {L L' : List AObj} {d : Nat} {s : DS} {bv dv : V} {lr : Int} (h : Dk L d s bv dv lr) (hq : ∀ q, fp d bv dv q → L'[q]? = L[q]?) : Dk L' d s bv dv lr :=
  ⟨by rw [hq d (.inl rfl)]; exact h.cell, h.buf.move fun q k => hq q (.inr (.inl k)), h.dur.move fun q k => hq q (.inr (.inr k)), h.bd, h.dd, h.bdv⟩
theorem Dk.lt {L : List AObj} {d : Nat} {s : DS} {bv dv : V} {lr : Int} (h : Dk L d s bv dv lr) {q : Nat} (hq : fp d bv dv q) : q < L.length := by
  rcases hq with rfl | hq | hq
  · exact B.lt_get h.cell
  · exact h.buf.rd.lt hq
  · exact h.dur.rd.lt hq
theorem agg34 (h : List AObj) (p : V) : aload env h 34 p = (loadCellsV h 3 p).map .agg := by
  unfold aload
  rw [show aggT env 34 = some true by kernel_rfl, show sz env 34 = some 3 by kernel_rfl]
  rfl
theorem s34 : sz env 34 = some 3 := by kernel_rfl
theorem u31 : env.P.underlying 31 = some (.slice 34) := by kernel_rfl
theorem f34_0 : fldOff env 34 0 = some 0 := by kernel_rfl
structure At6 (L : List AObj) (d o : Nat) (s : DS) (bv dv : V) (lr : Int) : Prop where
  dk : Dk L d s bv dv lr
  rf : RefAt L o s
  sep : ¬ fp d bv dv o
  ok : OkS s
end Go.Proofs.YtncohjljeoknkaaDoor.D
namespace Go.Proofs.YtncohjljeoknkaaDoor.D
open Go.Ab
set_option maxHeartbeats 8000000
set_option maxRecDepth 100000
set_option linter.unusedSimpArgs false
set_option linter.unusedVariables false
theorem known_call (σ : S) : callFn env (ev env) 3 [] σ = some (.bool true, σ) := rfl
theorem neq_nilp (b o : Nat) (cc : Bool) : binO env 22 cc .eql (some (.ptr b o)) (some .nilptr) = some (.bool false) := by cases cc <;> kernel_rfl
theorem flatB1 : ∀ s : List UInt8, (s.map fun x => [V.int .u8 x.toNat]).flatten = byteCells s
  | [] => rfl
  | x :: s => by simp only [List.map_cons, List.flatten_cons, flatB1 s]; rfl
theorem tyd_bytes {w : V} {k : Nat} (h : Tyd env.P (k + 2) 26 [w]) : ∃ s : List UInt8, (w = .nilsl ∧ s = [] ∨ w = .row (byteCells s) s.length .unk) ∧ s.length ≤ maxLen := by
  rcases tyd_slice h u26 with h | ⟨vss, h, hl, _, ht⟩
  · simp only [List.cons.injEq, and_true] at h
    exact ⟨[], .inl ⟨h, rfl⟩, by simp⟩
  · simp only [List.cons.injEq, and_true] at h
    obtain ⟨ss, rfl⟩ := tyd_map (f := fun x : UInt8 => [V.int .u8 x.toNat]) (fun x hx => by
      obtain ⟨n, rfl, h1, h2⟩ := tyd_int hx u5
      have h1 : (0 : Int) ≤ n := h1
      have h2 : n ≤ 255 := h2
      refine ⟨UInt8.ofNat n.toNat, ?_⟩
      have : ((UInt8.ofNat n.toNat).toNat : Int) = n := by
        rw [UInt8.toNat_ofNat']; omega
      rw [this]) ht
    refine ⟨ss, .inr ?_, by simpa using hl⟩
    rw [h, flatB1]; simp
theorem fts34 : fieldTs env.P 34 = some [3, 3, 26] := by kernel_rfl
def GoodA (a : Act) : Prop := OkA a ∧ a.b.closed = true
theorem tyd_A {x : List V} {k : Nat} (h : Tyd env.P (k + 3) 34 x) : ∃ a : {a : Act // GoodA a}, x = actC a.1 := by
  have h := tyd_struct h fts34
  obtain ⟨a, r, rfl, ha, b, r2, rfl, hb, c, r3, rfl, hc, rfl⟩ := h
  obtain ⟨n, rfl, _⟩ := tyd_int ha u3
  obtain ⟨m, rfl, hm1, hm2⟩ := tyd_int hb u3
  have hd1 : ∃ w, c = [w] := by
    rcases tyd_slice hc u26 with h | ⟨_, h, _⟩ <;> exact ⟨_, h⟩
  obtain ⟨w, rfl⟩ := hd1
  obtain ⟨s, hw, _⟩ := tyd_bytes hc
  refine ⟨⟨⟨n, m, w, s⟩, ⟨?_, hm1, hm2⟩, ?_⟩, rfl⟩
  · rcases hw with ⟨rfl, rfl⟩ | rfl
    · exact .inl ⟨rfl, rfl⟩
    · exact .inr ⟨_, rfl⟩
  · exact closed_row (t := s) (hw.imp (·.1) id)
theorem closed_flatA : ∀ l : List Act, (∀ a ∈ l, a.b.closed = true) → V.closed.closedL (flatA l) = true
  | [], _ => rfl
  | a :: l, h => by
    have h1 := closed_flatA l fun x hx => h x (by simp [hx])
    have h2 := h a (by simp)
    simp only [flatA, List.flatMap_cons, actC, List.cons_append, List.nil_append] at h1 ⊢
    simp only [V.closed.closedL, V.closed, h2, Bool.true_and]
    exact h1
theorem tyd_AS {v : V} {k : Nat} (h : Tyd env.P (k + 4) 31 [v]) : ∃ l, IsA v l ∧ v.closed = true ∧ l.length ≤ maxLen := by
  rcases tyd_slice h u31 with h | ⟨vss, h, hl, _, ht⟩
  · simp only [List.cons.injEq, and_true] at h
    subst h
    exact ⟨[], ⟨.inl ⟨rfl, rfl⟩, fun a ha => by simp at ha⟩, rfl, by simp⟩
  · simp only [List.cons.injEq, and_true] at h
    obtain ⟨cs, rfl⟩ := tyd_map (f := fun c : {a : Act // GoodA a} => actC c.1) (fun x hx => tyd_A hx) ht
    have e : (cs.map fun c => actC c.1).flatten = flatA (cs.map (·.1)) := by simp only [flatA, List.flatMap, List.map_map]; rfl
    have hg : ∀ a ∈ cs.map (·.1), GoodA a := fun a ha => by
      obtain ⟨x, _, rfl⟩ := List.mem_map.1 ha; exact x.2
    subst h
    refine ⟨cs.map (·.1), ⟨.inr ?_, fun a ha => (hg a ha).1⟩, ?_, by simpa using hl⟩
    · rw [e]; simp
    · simp only [V.closed]
      rw [e]
      exact closed_flatA _ fun a ha => (hg a ha).2
end Go.Proofs.YtncohjljeoknkaaDoor.D
namespace Go.Proofs.YtncohjljeoknkaaDoor.D
open Go.Ab
set_option maxHeartbeats 8000000
set_option maxRecDepth 100000
set_option linter.unusedSimpArgs false
set_option linter.unusedVariables false
theorem at4 : env.P.funcs[4]? = some Tryd.f4 := by kernel_rfl
noncomputable def body4 : Code := (blkC 1 (bodyOf Tryd.f4)).getD .skip
theorem begB_app (s t : List UInt8) : begB s (s ++ t) = true := by simp [begB]
theorem begB_refl (s : List UInt8) : begB s s = true := by simp [begB]
theorem begB_take (s t : List UInt8) (k : Nat) : begB (s ++ t.take k) (s ++ t) = true := by
  have h : s ++ t = (s ++ t.take k) ++ t.drop k := by rw [List.append_assoc, List.take_append_drop]
  rw [h]; exact begB_app _ _
theorem keeps_law (s : DS) (a : Act) (h5 : a.kind ≠ 5) : begB s.D (actS s a).1.D = true ∧
    (a.kind = 4 → (actS s a).2 = 0 → begB (actS s a).1.D (s.D ++ s.P) = true ∧ (actS s a).1.P = [] ∧ (actS s a).1.stop = false) ∧
    (s.stop = true → ¬ (a.kind = 4 ∧ (actS s a).2 = 0) → (actS s a).1.D ++ (actS s a).1.P = s.D ++ s.P ∧ (actS s a).1.stop = true) := by
  unfold actS
  by_cases k01 : a.kind = 0 ∨ a.kind = 1
  · rw [if_pos k01]
    refine ⟨?_, fun k4 => by omega, fun hs _ => ?_⟩
    · unfold wrS
      split
      · exact begB_refl _
      · split
        · exact begB_refl _
        · split <;> exact begB_refl _
    · unfold wrS; rw [if_pos hs]; exact ⟨rfl, hs⟩
  rw [if_neg k01]
  by_cases k2 : a.kind = 2
  · rw [if_pos k2]
    refine ⟨?_, fun k4 => by omega, fun hs _ => ?_⟩
    · unfold syncS
      split
      · exact begB_refl _
      · split
        · exact begB_refl _
        · exact begB_app _ _
    · unfold syncS; rw [if_pos hs]; exact ⟨rfl, hs⟩
  rw [if_neg k2]
  by_cases k3 : a.kind = 3
  · rw [if_pos k3]
    refine ⟨?_, fun k4 => by omega, fun hs _ => ?_⟩
    · unfold fuseS
      split
      · exact begB_refl _
      · split <;> exact begB_refl _
    · unfold fuseS
      split
      · exact ⟨rfl, hs⟩
      · simp only [hs, if_true]; exact ⟨trivial, trivial⟩
  rw [if_neg k3]
  by_cases k4 : a.kind = 4
  · rw [if_pos k4]
    unfold crashS
    by_cases kn : a.n < 0
    · rw [if_pos kn]
      exact ⟨begB_refl _, fun _ h => by simp at h, fun hs _ => ⟨rfl, hs⟩⟩
    · rw [if_neg kn]
      exact ⟨begB_app _ _, fun _ _ => ⟨begB_take _ _ _, rfl, rfl⟩, fun hs h => absurd ⟨k4, rfl⟩ h⟩
  rw [if_neg k4, if_neg h5]
  exact ⟨begB_refl _, fun h => absurd h k4, fun hs _ => ⟨rfl, hs⟩⟩
theorem tail4 {Q : Post} {ks : List Kt} {L : List AObj} {ts : List Nat} {d : Nat} {s : DS} {bv dv v2 v3 : V} {lr : Int} {T : Tm} {all : List UInt8} {stopped cr : Bool} (c : Code) (hc : c = dropC 6 body4) (h : Dk L d s bv dv lr) (hl : s.D.length + s.P.length ≤ 2 ^ 38)
    (h2 : Rd L v2 all) (h3 : Rd L v3 s.D) (t4 : T 4 = .ptr d 0) (t7 : T 7 = v2) (t8 : T 8 = .bool stopped) (t10 : T 10 = v3) (t11 : T 11 = .bool cr)
    (g1 : cr = true → begB s.D all = true ∧ s.P = [] ∧ s.stop = false) (g2 : stopped = true → cr = false → s.D ++ s.P = all ∧ s.stop = true)
    (hk : ∀ T' L', T' 0 = T 0 → T' 3 = T 3 → T' 4 = T 4 → T' 5 = T 5 → Keep L L' → G env 4 none 104 Q ks .skip T' [] ⟨L', ts⟩) : G env 4 none 104 Q ks c T [] ⟨L, ts⟩ := by
  subst hc
  simp only [body4, bodyOf, Tryd.f4, Option.getD_some, blkC, Option.or, dropC, Nat.reduceEqDiff, if_false, if_true, reduceIte]
  have hB := begins_call (ts := ts) h3 h2
  obtain ⟨v5, L5, hC5, hO5, hK5, hN5⟩ := all_call (ts := ts) h hl
  have h5 := h.keep hK5
  have hS5 := stopped_call (ts := ts) h5
  have l5 := hO5.rd.lenT 5
  have l3 := h3.lenT 5
  cases cr with
  | true =>
    obtain ⟨e1, e2, e3⟩ := g1 rfl
    rw [e1] at hB
    rw [e3] at hS5
    rw [e2, List.append_nil] at l5
    have fin : ∀ T' : Tm, T' 0 = T 0 → T' 3 = T 3 → T' 4 = T 4 → T' 5 = T 5 → G env 4 none 104 Q ks .skip T' [] ⟨L5, ts⟩ := fun T' a b c d => hk T' L5 a b c d hK5
    have hlen : (s.D.length : Int) ≠ (s.D.length : Int) ↔ False := by simp
    cases stopped with
    | true =>
      simp -implicitDefEqProofs only [Wa,Wb,Wc,Wd,We,Wf,Wg,Wh,Wi,Wj,Wk,Wl,Wm,Wn,Zo,Zp,evalT,Nat.reduceLT,Nat.reduceEqDiff,if_true,if_false,reduceIte,Ys,ofVal,ofCell,argT,resT,setT,Y0,Int.reduceEq,Int.reduceLT,Int.reduceLE,Int.reduceNeg,mb,Nat.reduceBEq,tys,stb,Va,storeList,Nat.reduceAdd,Nat.reduceLeDiff,t4,t7,t8,t10,t11,hB,hC5,hS5,l5,l3,ne_eq,not_true_eq_false,decide_false]
      refine G_win rfl [(false, []), (false, []), (false, []), (false, []), (false, []), (false, []), (false, []), (true, []), (false, []), (false, []), (false, [0]), (false, []), (false, []), (false, []), (true, []), (false, []), (false, []), (false, [])] (fun _ _ => True) trivial (by kernel_rfl) (by kernel_rfl) ?_
      simp -implicitDefEqProofs only [Wa,Wb,Wc,Wd,We,Wf,Wg,Wh,Wi,Wj,Wk,Wl,Wm,Wn,Zo,Zp,evalT,Nat.reduceLT,Nat.reduceEqDiff,if_true,if_false,reduceIte,Ys,ofVal,ofCell,argT,resT,setT,Y0,Int.reduceEq,Int.reduceLT,Int.reduceLE,Int.reduceNeg,mb,Nat.reduceBEq,tys,stb,Va,storeList,Nat.reduceAdd,Nat.reduceLeDiff,t4,t7,t8,t10,t11,GW_nil,GW_op,GW_run,GW_pass,GW_none,guardV,Option.bind_some,Option.map_some,Bool.not_false,Bool.not_true,GWS_0,GWS_0n,GWS_1,GWS_1n,GWS_m,GWS_ite,GWS_nite,AllM_nil,AllM_cons]
      exact fin _ rfl rfl rfl rfl
    | false =>
      simp -implicitDefEqProofs only [Wa,Wb,Wc,Wd,We,Wf,Wg,Wh,Wi,Wj,Wk,Wl,Wm,Wn,Zo,Zp,evalT,Nat.reduceLT,Nat.reduceEqDiff,if_true,if_false,reduceIte,Ys,ofVal,ofCell,argT,resT,setT,Y0,Int.reduceEq,Int.reduceLT,Int.reduceLE,Int.reduceNeg,mb,Nat.reduceBEq,tys,stb,Va,storeList,Nat.reduceAdd,Nat.reduceLeDiff,t4,t7,t8,t10,t11,hB,hC5,hS5,l5,l3,ne_eq,not_true_eq_false,decide_false]
      refine G_win rfl [(false, []), (false, []), (false, []), (false, []), (false, []), (false, []), (false, []), (true, []), (false, []), (false, []), (false, [0]), (false, []), (false, []), (false, []), (true, []), (false, []), (false, []), (false, [])] (fun _ _ => True) trivial (by kernel_rfl) (by kernel_rfl) ?_
      simp -implicitDefEqProofs only [Wa,Wb,Wc,Wd,We,Wf,Wg,Wh,Wi,Wj,Wk,Wl,Wm,Wn,Zo,Zp,evalT,Nat.reduceLT,Nat.reduceEqDiff,if_true,if_false,reduceIte,Ys,ofVal,ofCell,argT,resT,setT,Y0,Int.reduceEq,Int.reduceLT,Int.reduceLE,Int.reduceNeg,mb,Nat.reduceBEq,tys,stb,Va,storeList,Nat.reduceAdd,Nat.reduceLeDiff,t4,t7,t8,t10,t11,GW_nil,GW_op,GW_run,GW_pass,GW_none,guardV,Option.bind_some,Option.map_some,Bool.not_false,Bool.not_true,GWS_0,GWS_0n,GWS_1,GWS_1n,GWS_m,GWS_ite,GWS_nite,AllM_nil,AllM_cons]
      exact fin _ rfl rfl rfl rfl
  | false =>
    cases stopped with
    | true =>
      obtain ⟨e1, e2⟩ := g2 rfl rfl
      rw [e2] at hS5
      have c5 := hO5.rd.str ts
      have c2 := (hK5.rd h2).str ts
      rw [e1] at c5
      simp -implicitDefEqProofs only [Wa,Wb,Wc,Wd,We,Wf,Wg,Wh,Wi,Wj,Wk,Wl,Wm,Wn,Zo,Zp,evalT,Nat.reduceLT,Nat.reduceEqDiff,if_true,if_false,reduceIte,Ys,ofVal,ofCell,argT,resT,setT,Y0,Int.reduceEq,Int.reduceLT,Int.reduceLE,Int.reduceNeg,mb,Nat.reduceBEq,tys,stb,Va,storeList,Nat.reduceAdd,Nat.reduceLeDiff,t4,t7,t8,t10,t11]
      refine G_win rfl [(false, []), (false, []), (false, []), (false, []), (false, []), (false, []), (false, []), (true, []), (false, []), (false, []), (false, [0]), (false, []), (false, []), (false, []), (true, []), (false, []), (false, []), (false, [])] (fun m s0 => m = 0 → s0.heap = L) (fun _ => rfl) (by kernel_rfl) (by kernel_rfl) ?_
      simp -implicitDefEqProofs only [Wa,Wb,Wc,Wd,We,Wf,Wg,Wh,Wi,Wj,Wk,Wl,Wm,Wn,Zo,Zp,evalT,Nat.reduceLT,Nat.reduceEqDiff,if_true,if_false,reduceIte,Ys,ofVal,ofCell,argT,resT,setT,Y0,Int.reduceEq,Int.reduceLT,Int.reduceLE,Int.reduceNeg,mb,Nat.reduceBEq,tys,stb,Va,storeList,Nat.reduceAdd,Nat.reduceLeDiff,t4,t7,t8,t10,t11,GW_nil,GW_op,GW_run,GW_pass,GW_none,guardV,Option.bind_some,Option.map_some,Bool.not_false,Bool.not_true,GWS_0,GWS_0n,GWS_1,GWS_1n,GWS_m,GWS_ite,GWS_nite,AllM_nil,AllM_cons,hC5,hS5,c5,c2,vBin_sneq,aread_conv]
      exact ⟨⟨fun s0 e => by rw [e]; exact h2.convR, trivial⟩, hk _ _ rfl rfl rfl rfl hK5⟩
    | false =>
      simp -implicitDefEqProofs only [Wa,Wb,Wc,Wd,We,Wf,Wg,Wh,Wi,Wj,Wk,Wl,Wm,Wn,Zo,Zp,evalT,Nat.reduceLT,Nat.reduceEqDiff,if_true,if_false,reduceIte,Ys,ofVal,ofCell,argT,resT,setT,Y0,Int.reduceEq,Int.reduceLT,Int.reduceLE,Int.reduceNeg,mb,Nat.reduceBEq,tys,stb,Va,storeList,Nat.reduceAdd,Nat.reduceLeDiff,t4,t7,t8,t10,t11]
      refine G_win rfl [(false, []), (false, []), (false, []), (false, []), (false, []), (false, []), (false, []), (true, []), (false, []), (false, []), (false, [0]), (false, []), (false, []), (false, []), (true, []), (false, []), (false, []), (false, [])] (fun _ _ => True) trivial (by kernel_rfl) (by kernel_rfl) ?_
      simp -implicitDefEqProofs only [Wa,Wb,Wc,Wd,We,Wf,Wg,Wh,Wi,Wj,Wk,Wl,Wm,Wn,Zo,Zp,evalT,Nat.reduceLT,Nat.reduceEqDiff,if_true,if_false,reduceIte,Ys,ofVal,ofCell,argT,resT,setT,Y0,Int.reduceEq,Int.reduceLT,Int.reduceLE,Int.reduceNeg,mb,Nat.reduceBEq,tys,stb,Va,storeList,Nat.reduceAdd,Nat.reduceLeDiff,t4,t7,t8,t10,t11,GW_nil,GW_op,GW_run,GW_pass,GW_none,guardV,Option.bind_some,Option.map_some,Bool.not_false,Bool.not_true,GWS_0,GWS_0n,GWS_1,GWS_1n,GWS_m,GWS_ite,GWS_nite,AllM_nil,AllM_cons]
      exact hk _ _ rfl rfl rfl rfl (Keep.refl _)
theorem turn4 {Q : Post} {ks : List Kt} {L : List AObj} {ts : List Nat} {d i : Nat} {s : DS} {bv dv : V} {lr : Int} {T : Tm} {l : List Act} (c : Code) (hc : c = body4) (hD : Dk L d s bv dv lr) (hok : OkS s) (hl : s.D.length + s.P.length ≤ 2 ^ 37) (hi : i < l.length) (ha : OkA l[i]) (hab : l[i].bs.length ≤ 200)
    (t0 : T 0 = .row (flatA l) l.length .unk) (t4 : T 4 = .ptr d 0) (t5 : T 5 = .int .i64 i)
    (hx : ∀ T', T' 0 = T 0 → T' 3 = T 3 → T' 4 = T 4 → T' 5 = T 5 → G env 4 none 104 Q ks (.exit 1) T' [] ⟨L, ts⟩)
    (hk : ∀ T' L' s' bv' dv' lr', T' 0 = T 0 → T' 3 = T 3 → T' 4 = T 4 → T' 5 = T 5 → Dk L' d s' bv' dv' lr' → OkS s' → s'.D.length + s'.P.length ≤ s.D.length + s.P.length + 200 → G env 4 none 104 Q ks .skip T' [] ⟨L', ts⟩) : G env 4 none 104 Q ks c T [] ⟨L, ts⟩ := by
  subst hc
  rw [G_cut 6]
  generalize hR : dropC 6 body4 = R
  simp only [body4, bodyOf, Tryd.f4, Option.getD_some, blkC, Option.or, takeC, Nat.reduceEqDiff, if_false, if_true, reduceIte]
  have c1 : (i : Int) < (l.length : Int) := by omega
  have hi0 : (0 : Int) ≤ (i : Int) := by omega
  have hidx : vIndexAddr 3 (.row (flatA l) l.length .unk) (.int .i64 (i : Int)) = some (.rptr ((flatA l).drop (i * 3))) := by
    rw [Ys, if_pos (by omega), Int.toNat_natCast]
  have hld : ∀ h, loadCellsV h 3 (.rptr ((flatA l).drop (i * 3))) = some (actC l[i]) := fun h => by
    rw [flatA_drop l i hi]; simp [loadCellsV, actC]
  have hfk : vFieldAddr 0 (.rptr ((flatA l).drop (i * 3))) = some (.rptr ((flatA l).drop (i * 3))) := rfl
  have hlk : ∀ h, (loadCellsV h 1 (.rptr ((flatA l).drop (i * 3)))).bind (·[0]?) = some (.int .i64 l[i].kind) := fun h => by
    rw [flatA_drop l i hi]; rfl
  generalize l[i] = a at *
  by_cases k5 : a.kind = 5
  · have k5' := eq_true k5
    simp -implicitDefEqProofs only [Wa,Wb,Wc,Wd,We,Wf,Wg,Wh,Wi,Wj,Wk,Wl,Wm,Wn,Zo,Zp,evalT,Nat.reduceLT,Nat.reduceEqDiff,if_true,if_false,reduceIte,Ys,ofVal,ofCell,argT,resT,setT,Y0,Int.reduceEq,Int.reduceLT,Int.reduceLE,Int.reduceNeg,mb,Nat.reduceBEq,tys,stb,Va,storeList,Nat.reduceAdd,Nat.reduceLeDiff,t0,t4,t5,u31,s34,c1,hi0,hidx,f34_0,hfk,hlk,k5',List.drop_zero]
    exact hx _ rfl rfl rfl rfl
  have k5' := eq_false k5
  obtain ⟨q1, q2, q3⟩ := keeps_law s a k5
  obtain ⟨v1, L1, hC1, hO1, hK1, hN1⟩ := durable_call (ts := ts) hD (by omega)
  have h1 := hD.keep hK1
  obtain ⟨v2, L2, hC2, hO2, hK2, hN2⟩ := all_call (ts := ts) h1 (by omega)
  have h2 := h1.keep hK2
  have hKA := hK1.trans hK2
  have hC3 := stopped_call (ts := ts) h2
  have hO1' : Own L2 v1 s.D := hO1.move fun q hq => hK2.2 q (hO1.rd.lt hq)
  obtain ⟨L3, bv', dv', lr', hA, hD3, hS⟩ := act_call (ts := ts) a ha h2 hok (by omega)
  have hlen := actS_len s a
  have hok2 := actS_ok hok ha (by omega)
  have hm1 : ∀ q, blkOf v1 = some q → L3[q]? = L2[q]? := fun q hq => hS.2.1 q (hO1'.rd.lt hq) (fun hf => by have := hN1 q hq; have := hD.lt hf; omega)
  have hm2 : ∀ q, blkOf v2 = some q → L3[q]? = L2[q]? := fun q hq => hS.2.1 q (hO2.rd.lt hq) (fun hf => by have := hN2 q hq; have := hD.lt hf; have := hK1.1; omega)
  have r1 := hO1'.rd.move hm1
  have r2 := hO2.rd.move hm2
  obtain ⟨v3, L4, hC4, hO4, hK4, hN4⟩ := durable_call (ts := ts) hD3 (by omega)
  have h4 := hD3.keep hK4
  have hB1 := begins_call (ts := ts) (hK4.rd r1) hO4.rd
  obtain ⟨v4, L5, hC5, hO5, hK5, hN5⟩ := all_call (ts := ts) h4 (by omega)
  have hB2 := begins_call (ts := ts) (hK5.rd hO4.rd) hO5.rd
  rw [q1] at hB1
  rw [begB_app] at hB2
  have h5 := h4.keep hK5
  have hR5 := hK5.rd (hK4.rd r2)
  have fin : ∀ (T' : Tm) (cr : Bool), T' 0 = T 0 → T' 3 = T 3 → T' 4 = T 4 → T' 5 = T 5 → T' 7 = v2 → T' 8 = .bool s.stop → T' 10 = v3 → T' 11 = .bool cr → (cr = true ↔ a.kind = 4 ∧ (actS s a).2 = 0) → G env 4 none 104 Q ks R T' [] ⟨L5, ts⟩ := by
    intro T' cr k0 k3 k4 k5 k7 k8 k10 k11 hcr
    refine tail4 R hR.symm h5 (by omega) hR5 (hK5.rd hO4.rd) (k4.trans t4) k7 k8 k10 k11 (fun e => q2 (hcr.1 e).1 (hcr.1 e).2) (fun e e2 => q3 e (fun h => by rw [hcr.2 h] at e2; cases e2)) fun T'' L' j0 j3 j4 j5 hK => ?_
    exact hk T'' L' _ bv' dv' lr' (j0.trans k0) (j3.trans k3) (j4.trans k4) (j5.trans k5) (h5.keep hK) hok2 (by omega)
  by_cases k4 : a.kind = 4
  · have k4' := eq_true k4
    simp -implicitDefEqProofs only [Wa,Wb,Wc,Wd,We,Wf,Wg,Wh,Wi,Wj,Wk,Wl,Wm,Wn,Zo,Zp,evalT,Nat.reduceLT,Nat.reduceEqDiff,if_true,if_false,reduceIte,Ys,ofVal,ofCell,argT,resT,setT,Y0,Int.reduceEq,Int.reduceLT,Int.reduceLE,Int.reduceNeg,mb,Nat.reduceBEq,tys,stb,Va,storeList,Nat.reduceAdd,Nat.reduceLeDiff,t0,t4,t5,u31,s34,c1,hi0,hidx,hld,agg34,f34_0,hfk,hlk,k5',k4',List.drop_zero,hC1,hC2,hC3,hA,hC4,hC5,hB1,hB2]
    exact fin _ _ rfl rfl rfl rfl rfl rfl rfl rfl (by simp [k4])
  · have k4' := eq_false k4
    simp -implicitDefEqProofs only [Wa,Wb,Wc,Wd,We,Wf,Wg,Wh,Wi,Wj,Wk,Wl,Wm,Wn,Zo,Zp,evalT,Nat.reduceLT,Nat.reduceEqDiff,if_true,if_false,reduceIte,Ys,ofVal,ofCell,argT,resT,setT,Y0,Int.reduceEq,Int.reduceLT,Int.reduceLE,Int.reduceNeg,mb,Nat.reduceBEq,tys,stb,Va,storeList,Nat.reduceAdd,Nat.reduceLeDiff,t0,t4,t5,u31,s34,c1,hi0,hidx,hld,agg34,f34_0,hfk,hlk,k5',k4',List.drop_zero,hC1,hC2,hC3,hA,hC4,hC5,hB1,hB2]
    exact fin _ _ rfl rfl rfl rfl rfl rfl rfl rfl (by simp [k4])
theorem keeps_found {v : V} {l : List Act} (h : IsA v l) (hc : v.closed = true) (hln : l.length ≤ maxLen) : Go.Ab.Found env 4 [v] := by
  refine found_of_wp at4 rfl (by simp [Tryd.f4]) (by simp [Tryd.f4]) (G_start ?_)
  obtain ⟨b, hL, hb⟩ := large_call h hc hln
  cases b with
  | true =>
    simp -implicitDefEqProofs only [Tryd.f4,Wa,Wb,Wc,Wd,We,Wf,Wg,Wh,Wi,Wj,Wk,Wl,Wm,Wn,Zo,Zp,evalT,Nat.reduceLT,Nat.reduceEqDiff,if_true,if_false,reduceIte,Ys,ofVal,ofCell,argT,resT,setT,Y0,Int.reduceEq,Int.reduceLT,Int.reduceLE,Int.reduceNeg,mb,Nat.reduceBEq,tys,stb,hL,known_call]
    simp only [oneOr]
  | false =>
    obtain ⟨hl60, h200⟩ := hb rfl
    obtain ⟨L1, hC1, hD1, hK1⟩ := new_call [] []
    simp only [List.length_nil] at hC1 hD1
    simp -implicitDefEqProofs only [Tryd.f4,Wa,Wb,Wc,Wd,We,Wf,Wg,Wh,Wi,Wj,Wk,Wl,Wm,Wn,Zo,Zp,evalT,Nat.reduceLT,Nat.reduceEqDiff,if_true,if_false,reduceIte,Ys,ofVal,ofCell,argT,resT,setT,Y0,Int.reduceEq,Int.reduceLT,Int.reduceLE,Int.reduceNeg,mb,Nat.reduceBEq,tys,stb,hL,S.empty,hC1,neq_nilp,known_call]
    refine loop_rule (fun m T D σ => D = [] ∧ T 0 = v ∧ T 3 = .bool true ∧ T 4 = .ptr 0 0 ∧ ∃ (i : Nat) (L : List AObj) (s : DS) (bv dv : V) (lr : Int), i ≤ l.length ∧ m = l.length - i ∧ T 5 = .int .i64 i ∧ σ = ⟨L, []⟩ ∧ Dk L 0 s bv dv lr ∧ OkS s ∧ s.D.length + s.P.length ≤ 200 * i) ?_ l.length _ _ _ ⟨rfl, rfl, rfl, rfl, 0, L1, _, _, _, _, by omega, rfl, rfl, rfl, hD1, by simp [OkS], by simp⟩
    rintro m T D σ ⟨rfl, t0, t3, t4, i, L, s, bv, dv, lr, hi, rfl, t5, rfl, hA, hok, hs⟩
    refine G_start ?_
    have lA := h.len 34
    by_cases hlt : i < l.length
    · have c1 : (i : Int) < (l.length : Int) := by omega
      have hv : v = .row (flatA l) l.length .unk := by
        rcases h.1 with ⟨_, rfl⟩ | rfl
        · simp at hlt
        · rfl
      have w1 : IntKind.wrap .i64 ((i : Int) + 1) = ((i + 1 : Nat) : Int) := by rw [B.wrap64 (by omega)]; omega
      simp -implicitDefEqProofs only [Za,Zc,Zd,Ze,Zf,Zg,Zh,Zi,Zj,Zk,Zl,Zm,Zn,Zo,Zp,Zq,Zr,Zs,Zt,Zu,Zv,Zw,Zx,Zy,Zz,ZA,ZB,ZC,ZD,ZE,ZF,ZG,ZH,ZI,ZJ,ZK,ZL,ZM,ZN,ZO,ZP,ZQ,ZR,ZS,ZT,ZU,ZV,ZW,ZX,ZY,ZZ,Z0,Z1,Z2,Z3,Z4,Z5,Z6,evalT,Z7,Nat.reduceLT,Nat.reduceEqDiff,if_true,if_false,reduceIte,true_and,Z8,Z9,map_ite',Ya,bind_ite',Yb,Yc,Yd,Ye,Yf,Yg,Yh,Yi,Yj,Yk,Yl,Ym,Yn,Yo,Yp,Yq,Yr,Ys,Yt,Yu,Yv,Yw,ofVal,ofCell,argT,ZL1,resT,Yx,Yy,Nat.mul_one,Yz,YA,YB,YC,YD,YE,YF,YG,YH,YI,YJ,setT,YK,YL,YM,YN,YO,List.append_eq,YP,YQ,YR,YS,YT,YU,YV,YW,YX,Nat.add_zero,YY,YZ,Y0,Y1,Y2,Y3,Int.toNat_natCast,Bool.false_eq_true,Int.reduceEq,Int.reduceLT,Int.reduceLE,Int.reduceNeg,not_false_eq_true,and_self,Y4,Y5,Int.natCast_one,Int.cast_ofNat_Int,not_true_eq_false,decide_true,decide_false,true_implies,false_implies,Int.toNat_zero,List.length_cons,List.length_nil,Nat.zero_add,mb,Nat.reduceBEq,Bool.false_and,Bool.and_false,Y6,tys,stb,Y7,Y8,Y9,Qa,Qb,Qc,ZB1,Qd,Qe,Va,storeList,Nat.reduceAdd,Nat.reduceLeDiff,t0,t5,u31,lA,c1]
      rw [Zb]
      refine turn4 _ rfl hA hok (by omega) hlt (h.2 _ (List.getElem_mem hlt)) (h200 _ (List.getElem_mem hlt)) (t0.trans hv) t4 t5 ?_ ?_
      · intro T' k0 k3 k4 k5
        simp -implicitDefEqProofs only [Wa,Wb,Wc,Wd,We,Wf,Wg,Wh,Wi,Wj,Wk,Wl,Wm,Wn,Zo,Zp,evalT,Nat.reduceLT,Nat.reduceEqDiff,if_true,if_false,reduceIte,Ys,ofVal,ofCell,argT,resT,setT,Y0,Int.reduceEq,Int.reduceLT,Int.reduceLE,Int.reduceNeg,mb,Nat.reduceBEq,tys,stb,Va,storeList,Nat.reduceAdd,Nat.reduceLeDiff,k5,t5,w1]
        exact ⟨l.length - (i + 1), by omega, k0.trans t0, k3.trans t3, k4.trans t4, i + 1, L, s, bv, dv, lr, by omega, rfl, rfl, rfl, hA, hok, by omega⟩
      · intro T' L' s' bv' dv' lr' k0 k3 k4 k5 hA' hok' hs'
        simp -implicitDefEqProofs only [Wa,Wb,Wc,Wd,We,Wf,Wg,Wh,Wi,Wj,Wk,Wl,Wm,Wn,Zo,Zp,evalT,Nat.reduceLT,Nat.reduceEqDiff,if_true,if_false,reduceIte,Ys,ofVal,ofCell,argT,resT,setT,Y0,Int.reduceEq,Int.reduceLT,Int.reduceLE,Int.reduceNeg,mb,Nat.reduceBEq,tys,stb,Va,storeList,Nat.reduceAdd,Nat.reduceLeDiff,k5,t5,w1]
        exact ⟨l.length - (i + 1), by omega, k0.trans t0, k3.trans t3, k4.trans t4, i + 1, L', s', bv', dv', lr', by omega, rfl, rfl, rfl, hA', hok', by omega⟩
    · have c1 : ¬ (i : Int) < (l.length : Int) := by omega
      simp -implicitDefEqProofs only [Wa,Wb,Wc,Wd,We,Wf,Wg,Wh,Wi,Wj,Wk,Wl,Wm,Wn,Zo,Zp,evalT,Nat.reduceLT,Nat.reduceEqDiff,if_true,if_false,reduceIte,Ys,ofVal,ofCell,argT,resT,setT,Y0,Int.reduceEq,Int.reduceLT,Int.reduceLE,Int.reduceNeg,mb,Nat.reduceBEq,tys,stb,Va,storeList,Nat.reduceAdd,Nat.reduceLeDiff,t0,t3,t5,u31,lA,c1]
      simp only [oneOr]
theorem keeps_foundt {u : V} (h : Tyd Tryd.prog 5 31 [u]) : Go.Ab.Found env 4 [u] := by
  obtain ⟨l, h1, h2, h3⟩ := tyd_AS (k := 1) h
  exact keeps_found h1 h2 h3
end Go.Proofs.YtncohjljeoknkaaDoor.D
