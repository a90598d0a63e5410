/- Proved here: the law. Conditions: those of each theorem; no statement of the seat is proved in this text. -/
import Derived.Test.YtncohjljeoknkaaJnB
namespace Go.Proofs.Ytncohjljeoknkaa.D
open Go.Ab
set_option linter.unusedVariables false
set_option linter.unusedSectionVars false
set_option linter.unusedSimpArgs false
theorem numF_four (n : Nat) (h : n < 2 ^ 32) : numF (fourB n) = n := by
  simp only [numF, fourB, List.foldl_cons, List.foldl_nil, UInt8.toNat_ofNat']
  omega
theorem numF_two (n : Nat) (h : n < 2 ^ 16) : numF (twoB n) = n := by
  simp only [numF, twoB, List.foldl_cons, List.foldl_nil, UInt8.toNat_ofNat']
  omega
theorem fields_enc : ∀ (fs : List (List UInt8)) (tail : List UInt8), (∀ f ∈ fs, f.length < 2 ^ 16) → fieldsR fs.length (fs.flatMap fldB ++ tail) = some (fs, tail)
  | [], tail, _ => rfl
  | f :: fs, tail, h => by
    have hf := h f (by simp)
    have ih := fields_enc fs tail fun g hg => h g (by simp [hg])
    have e : (f :: fs).flatMap fldB ++ tail = twoB f.length ++ (f ++ (fs.flatMap fldB ++ tail)) := by simp [fldB]
    have e1 : (twoB f.length ++ (f ++ (fs.flatMap fldB ++ tail))).take 2 = twoB f.length := List.take_left' rfl
    have e2 : (twoB f.length ++ (f ++ (fs.flatMap fldB ++ tail))).drop 2 = f ++ (fs.flatMap fldB ++ tail) := List.drop_left' rfl
    rw [e, List.length_cons, fieldsR, e1, e2, numF_two _ hf, if_neg (by simp [twoB]), if_neg (by simp), List.take_left' rfl, List.drop_left' rfl, ih]
    rfl
theorem pay_enc {r : Rec} (h : chkR r = 0) : payR (payB r) = some r := by
  obtain ⟨h1, h2, h3, h4, h5⟩ := chk0 h
  have hs : ∀ f ∈ r.fs, f.length < 2 ^ 16 := fun f hf => by
    simp only [longF, List.any_eq_false, decide_eq_true_eq] at h4
    have := h4 f hf
    omega
  have hfe := fields_enc r.fs [] hs
  rw [List.append_nil] at hfe
  have hk : (UInt8.ofNat r.k.toNat).toNat = r.k.toNat := by rw [UInt8.toNat_ofNat']; omega
  have hl : (UInt8.ofNat r.fs.length).toNat = r.fs.length := by rw [UInt8.toNat_ofNat']; omega
  have hlen := payB_len r
  have hp : 2 ≤ payN r.fs := by unfold payN; omega
  unfold payR
  rw [if_neg (by omega)]
  have e1 : (payB r).getD 1 0 = UInt8.ofNat r.fs.length := rfl
  have e0 : (payB r).getD 0 0 = UInt8.ofNat r.k.toNat := rfl
  have e2 : (payB r).drop 2 = r.fs.flatMap fldB := rfl
  rw [e1, e0, e2, hl, hk, hfe]
  have : ((r.k.toNat : Nat) : Int) = r.k := by omega
  rw [this]
theorem one_enc {r : Rec} (h : chkR r = 0) (rest : List UInt8) : oneR (bytR r ++ rest) = some (r, (bytR r).length) := by
  obtain ⟨h1, h2, h3, h4, h5⟩ := chk0 h
  obtain ⟨n1, n2⟩ := sumF_nat (payB r)
  have e : bytR r ++ rest = fourB (payN r.fs) ++ (payB r ++ (fourB (sumF (payB r)).toNat ++ rest)) := by simp [bytR]
  have e1 : (fourB (payN r.fs) ++ (payB r ++ (fourB (sumF (payB r)).toNat ++ rest))).take 4 = fourB (payN r.fs) := List.take_left' rfl
  have e2 : (fourB (payN r.fs) ++ (payB r ++ (fourB (sumF (payB r)).toNat ++ rest))).drop 4 = payB r ++ (fourB (sumF (payB r)).toNat ++ rest) := List.drop_left' rfl
  have e3 : (payB r ++ (fourB (sumF (payB r)).toNat ++ rest)).take (payN r.fs) = payB r := List.take_left' (payB_len r)
  have e4 : (payB r ++ (fourB (sumF (payB r)).toNat ++ rest)).drop (payN r.fs) = fourB (sumF (payB r)).toNat ++ rest := List.drop_left' (payB_len r)
  have e5 : (fourB (sumF (payB r)).toNat ++ rest).take 4 = fourB (sumF (payB r)).toNat := List.take_left' rfl
  have l1 := payB_len r
  unfold oneR
  rw [e, e1, e2, numF_four _ (by omega), e3, e4, e5, numF_four _ n2, pay_enc h, n1]
  have l4 : (fourB (payN r.fs)).length = 4 := rfl
  have l5 : (fourB (sumF (payB r)).toNat).length = 4 := rfl
  rw [if_neg (by simp only [List.length_append]; omega), if_neg (by simp only [List.length_append]; omega), if_neg (by simp only [List.length_append]; omega)]
  simp only [h, and_self, if_true, bytR_len]
theorem read_enc : ∀ (rs : List Rec) (part : List UInt8), (∀ r ∈ rs, chkR r = 0) → oneR part = none → ∀ f, (rs.flatMap bytR ++ part).length ≤ f → readN f (rs.flatMap bytR ++ part) = (rs, (rs.flatMap bytR).length)
  | [], part, _, hp, f, _ => by
    cases f with
    | zero => rfl
    | succ f => simp only [List.flatMap_nil, List.nil_append, readN, hp]; rfl
  | r :: rs, part, h, hp, f, hf => by
    have hr := h r (by simp)
    have e : (r :: rs).flatMap bytR ++ part = bytR r ++ (rs.flatMap bytR ++ part) := by simp
    rw [e] at hf ⊢
    have hl := bytR_len r
    rw [List.length_append] at hf
    obtain ⟨f, rfl⟩ : ∃ f', f = f' + 1 := ⟨f - 1, by omega⟩
    have ih := read_enc rs part (fun q hq => h q (by simp [hq])) hp f (by omega)
    simp only [readN, one_enc hr, List.drop_left' rfl, ih]
    simp
theorem readR_enc {rs : List Rec} {part : List UInt8} (h : ∀ r ∈ rs, chkR r = 0) (hp : oneR part = none) : readR (rs.flatMap bytR ++ part) = (rs, (rs.flatMap bytR).length) := read_enc rs part h hp _ (Nat.le_refl _)
end Go.Proofs.Ytncohjljeoknkaa.D
namespace Go.Proofs.Ytncohjljeoknkaa.D
open Go.Ab
set_option maxHeartbeats 8000000
set_option maxRecDepth 100000
set_option linter.unusedSimpArgs false
set_option linter.unusedVariables false
end Go.Proofs.Ytncohjljeoknkaa.D
namespace Go.Proofs.Ytncohjljeoknkaa.D
open Go.Ab
set_option maxHeartbeats 8000000
set_option maxRecDepth 100000
set_option linter.unusedSimpArgs false
set_option linter.unusedVariables false
def tokOf : V → Option Nat
  | .row _ _ (.tok k _ _) => some k
  | _ => none
theorem RowT.other {ts ts' : List Nat} {w n : Nat} {u : V} {cs : List V} (r : RowT ts w u n cs) (h : ∀ k, tokOf u = some k → k < ts.length → ts'[k]? = ts[k]?) : RowT ts' w u n cs := by
  obtain ⟨hl, h1 | ⟨cap, rfl, h2 | ⟨k, e, rfl, h3⟩⟩⟩ := r
  · exact ⟨hl, .inl h1⟩
  · exact ⟨hl, .inr ⟨cap, rfl, .inl h2⟩⟩
  · exact ⟨hl, .inr ⟨_, rfl, .inr ⟨k, e, rfl, by rw [h k rfl (List.getElem?_eq_some_iff.1 h3).1]; exact h3⟩⟩⟩
structure Two (ts : List Nat) (a : V) (s : List UInt8) (b : V) (rs : List Rec) : Prop where
  ra : RowT ts 1 a s.length (byteCells s)
  rb : ∃ cs, RowT ts 2 b rs.length cs ∧ RecC rs cs
  ne : ∀ k, tokOf a = some k → tokOf b ≠ some k
structure ARec where
  r : Rec
  fv : V
  ok : (fv = .nilsl ∧ r.fs = []) ∨ fv = .row (r.fs.map .str) r.fs.length .unk
  b : IntKind.i64.min ≤ r.k ∧ r.k ≤ IntKind.i64.max ∧ r.fs.length ≤ maxLen ∧ ∀ f ∈ r.fs, f.length ≤ maxLen
def ARec.cs (a : ARec) : List V := [.int .i64 a.r.k, a.fv]
theorem ARec.fld (a : ARec) : Fld a.fv a.r.fs := a.ok.imp id fun h => ⟨_, h⟩
end Go.Proofs.Ytncohjljeoknkaa.D
namespace Go.Proofs.Ytncohjljeoknkaa.D
open Go.Ab
set_option maxHeartbeats 8000000
set_option maxRecDepth 100000
set_option linter.unusedSimpArgs false
set_option linter.unusedVariables false
theorem known7 (σ : S) : callFn env (ev env) 7 [] σ = some (.bool true, σ) := rfl
end Go.Proofs.Ytncohjljeoknkaa.D
namespace Go.Proofs.Ytncohjljeoknkaa.D
open Go.Ab
set_option maxHeartbeats 8000000
set_option maxRecDepth 100000
set_option linter.unusedSimpArgs false
set_option linter.unusedVariables false
theorem at5 : env.P.funcs[5]? = some Try.f5 := by kernel_rfl
theorem at16 : env.P.funcs[16]? = some Try.f16 := by kernel_rfl
theorem taken_call {L : List AObj} {ts : List Nat} {r : Rec} {fv : V} (hf : Fld fv r.fs) (hl : r.fs.length ≤ 64) (hc : chkR r = 0 ∨ chkR r = 4) :
    ∃ L' ts', callFn env (ev env) 16 [.agg [.int .i64 r.k, fv]] ⟨L, ts⟩ = some (.bool (decide (chkR r = 0)), ⟨L', ts'⟩) ∧ Keep L L' := by
  have k0 := Keep.app L [.cells [.int .i64 r.k, fv] 24]
  have l0 : ∀ (H : List AObj), Keep (L ++ [.cells [.int .i64 r.k, fv] 24]) H → aload env H 24 (.ptr L.length 0) = some (.agg [.int .i64 r.k, fv]) := fun H hk => l55 (hk.get (by simp))
  have q0 := l0 _ (Keep.refl _)
  obtain ⟨u, L1, hB, hK1, hU⟩ := bytes_rec (L := L ++ [.cells [.int .i64 r.k, fv] 24]) (ts := ts) hf (by omega)
  rcases hc with h0 | h4
  · rw [if_pos h0] at hU
    rw [h0] at hB
    have hR := readR_enc (rs := [r]) (part := []) (fun q hq => by rw [List.mem_singleton.1 hq]; exact h0) rfl
    have e : [r].flatMap bytR ++ [] = bytR r := by simp
    have e2 : ([r].flatMap bytR).length = (bytR r).length := by simp
    rw [e, e2] at hR
    have hbl := bytR_len r
    obtain ⟨_, _, _, _, h5⟩ := chk0 h0
    obtain ⟨lv, L2, ts2, hC, hK2, hT2, hrow⟩ := read_call (ts := ts) hU.1.rd (by omega)
    rw [hR] at hC hrow
    simp only at hC hrow
    have hlen := hU.1.rd.lenT 5
    have q2 := l0 _ (hK1.trans hK2)
    have hr58 := row58 (.int .i64 r.k) fv rfl hf.cells
    have hS := same_call (L := L2) (ts := ts2) (hrow.rd L2) (v := .row [.int .i64 r.k, fv] 1 .full) (rs := [r]) ⟨[.int .i64 r.k, fv], RdS.row L2 2 _ 1 .full rfl, ⟨fv, [], rfl, hf, rfl⟩⟩ (by simp) (fun q hq => by rw [List.mem_singleton.1 hq]; omega)
    refine ⟨L2, ts2, ?_, (k0.trans hK1).trans hK2⟩
    refine callFn_eq rfl rfl at16 rfl (by simp [Try.f16]) (by simp [Try.f16]) (G_start ?_)
    simp -implicitDefEqProofs only [Try.f16,Wa,Wb,Wc,Wd,We,Wf,Wg,Wh,Wi,Wj,Wk,Wl,Wm,Wn,Zo,Zp,evalT,Nat.reduceLT,Nat.reduceEqDiff,if_true,if_false,reduceIte,Ys,ofVal,ofCell,argT,resT,setT,Y0,Int.reduceEq,Int.reduceLT,Int.reduceLE,Int.reduceNeg,mb,Nat.reduceBEq,tys,stb,Va,storeList,Nat.reduceAdd,Nat.reduceLeDiff,tyj,vBin_xor,vBin_or,vBin_shl,vBin_shr,q0,hf.cells,hB,hC,hlen,q2,opT_rowB,hr58,hS]
    exact ⟨by rw [decide_eq_true h0]; rfl, trivial⟩
  · have hn : ¬ chkR r = 0 := by omega
    rw [if_neg hn] at hU
    subst hU
    rw [h4] at hB
    have hlen := (Rd.nil L1).lenT 5
    refine ⟨L1, ts, ?_, k0.trans hK1⟩
    refine callFn_eq rfl rfl at16 rfl (by simp [Try.f16]) (by simp [Try.f16]) (G_start ?_)
    simp -implicitDefEqProofs only [Try.f16,Wa,Wb,Wc,Wd,We,Wf,Wg,Wh,Wi,Wj,Wk,Wl,Wm,Wn,Zo,Zp,evalT,Nat.reduceLT,Nat.reduceEqDiff,if_true,if_false,reduceIte,Ys,ofVal,ofCell,argT,resT,setT,Y0,Int.reduceEq,Int.reduceLT,Int.reduceLE,Int.reduceNeg,mb,Nat.reduceBEq,tys,stb,Va,storeList,Nat.reduceAdd,Nat.reduceLeDiff,tyj,vBin_xor,vBin_or,vBin_shl,vBin_shr,q0,hf.cells,hB,hlen]
    exact ⟨by rw [decide_eq_false hn]; rfl, trivial⟩
theorem mk0 (n : Nat) (h0 : 0 < n) (hn : n ≤ 2 ^ 20) : ∃ z : List UInt8, z.length = n ∧ ∀ σ, makeO env false σ 25 (.int .i64 (n : Int)) (.int .i64 (n : Int)) = some (.row (byteCells z) z.length .full, σ) := by
  refine ⟨List.replicate n 0, by simp, fun σ => ?_⟩
  have h1 : (n : Int) ≤ (lim : Nat) := by unfold lim; omega
  have h2 : (n : Int) * ((1 : Nat) : Int) ≤ (lim : Nat) := by unfold lim; omega
  have h3 : (List.replicate n [V.int .u8 0]).flatten = byteCells (List.replicate n 0) := by
    clear h0 hn h1 h2
    induction n with
    | zero => rfl
    | succ n ih => rw [List.replicate_succ, List.flatten_cons, ih, List.replicate_succ]; rfl
  have h4 : ¬ n * 1 = 0 := by omega
  have hc : (V.int IntKind.u8 0).cells = [.int .u8 0] := rfl
  simp only [makeO, e26, s5, b5, zv5, Option.bind_some, Int.toNat_natCast, h4, if_false, hc, h3, Bool.false_eq_true, if_true, List.length_replicate, List.length_singleton, true_or]
  rw [if_pos ⟨by omega, by omega, h1, h2⟩]
theorem row22_1 (s : List UInt8) : rowO env 22 1 [(0, .str s)] = some (.row [.str s] 1 .full) := row53 s
theorem row22_4 (a b c d : List UInt8) : rowO env 22 4 [(0, .str a), (1, .str b), (2, .str c), (3, .str d)] = some (.row [.str a, .str b, .str c, .str d] 4 .full) :=
  rowN (z := .str []) (vs := [.str a, .str b, .str c, .str d]) e53 s9 (by kernel_rfl) rfl (by simp [V.cells]) (by simp) (by simp) _ rfl
theorem bd24 (k : Int) (v : V) (hv : v.cells = [v]) : buildO env 24 [(0, .int .i64 k), (1, v)] = some (.agg [.int .i64 k, v]) := by
  have z : zeroV env 24 = some (.agg [.int .i64 0, .nilsl]) := by kernel_rfl
  obtain ⟨pl, hp, h0, h1⟩ : ∃ pl, placesOf env 24 = some pl ∧ pl 0 = some (0, 1) ∧ pl 1 = some (1, 1) := ⟨_, rfl, by kernel_rfl, by kernel_rfl⟩
  unfold buildO
  simp [z, hp, vFill, h0, h1, hv, YW, Y6]
theorem chk_one {z : List UInt8} {m : Nat} (hm : m < 5) (hz : z.length = 59998 + m) : (chkR ⟨1, [z]⟩ = 0 ∨ chkR ⟨1, [z]⟩ = 4) ∧ decide (chkR ⟨1, [z]⟩ = 0) = decide ((m : Int) - 2 ≤ 0) := by
  by_cases h : 60000 < z.length
  · have e : chkR ⟨1, [z]⟩ = 4 := by simp [chkR, longF, h]
    rw [e]
    exact ⟨.inr rfl, by rw [decide_eq_false (by omega), decide_eq_false (by omega)]⟩
  · have e : chkR ⟨1, [z]⟩ = 0 := by simp [chkR, longF, h, payN]; omega
    rw [e]
    exact ⟨.inl rfl, by rw [decide_eq_true rfl, decide_eq_true (by omega)]⟩
theorem chk_many {a z : List UInt8} {m : Nat} (hm : m < 5) (ha : a.length = 50000) (hz : z.length = 49980 + m) : (chkR ⟨2, [a, a, a, z]⟩ = 0 ∨ chkR ⟨2, [a, a, a, z]⟩ = 4) ∧ decide (chkR ⟨2, [a, a, a, z]⟩ = 0) = decide ((m : Int) - 2 ≤ 0) := by
  have h1 : ¬ 60000 < a.length := by omega
  have h2 : ¬ 60000 < z.length := by omega
  have hp : payN [a, a, a, z] = 199990 + m := by simp [payN]; omega
  by_cases h : 200000 < payN [a, a, a, z] + 8
  · have e : chkR ⟨2, [a, a, a, z]⟩ = 4 := by simp only [chkR]; simp [longF, h1, h2, h]
    rw [e]
    exact ⟨.inr rfl, by rw [decide_eq_false (by omega), decide_eq_false (by omega)]⟩
  · have e : chkR ⟨2, [a, a, a, z]⟩ = 0 := by simp only [chkR]; simp [longF, h1, h2, h]
    rw [e]
    exact ⟨.inl rfl, by rw [decide_eq_true rfl, decide_eq_true (by omega)]⟩
theorem cutN (c : Int) (n : Nat) (h : 0 < n) (hn : n ≤ 2 ^ 38) : ∃ m : Nat, m < n ∧ (IntKind.i64.wrap (c.tmod n + n)).tmod n = (m : Int) := by
  have h1 : -(n : Int) < c.tmod n := by
    have := Int.lt_tmod_of_pos c (b := (n : Int)) (by omega)
    exact this
  have h2 : c.tmod n < (n : Int) := Int.tmod_lt_of_pos c (by omega)
  rw [B.wrap64 (by omega)]
  have h3 : (c.tmod n + n).tmod n = (c.tmod n + n) % n := by rw [Int.tmod_eq_emod_of_nonneg (by omega)]
  have h4 := Int.emod_nonneg (c.tmod n + n) (b := (n : Int)) (by omega)
  have h5 := Int.emod_lt_of_pos (c.tmod n + n) (b := (n : Int)) (by omega)
  exact ⟨((c.tmod n + n) % n).toNat, by omega, by rw [h3]; omega⟩
theorem mb5 (r : Nat) : env.mutb 5 r = false := rfl
theorem large_found (a b : Int) : Go.Ab.Found env 5 [.int .i64 a, .int .i64 b] := by
  refine found_of_wp at5 rfl (by simp [Try.f5]) (by simp [Try.f5]) (G_start ?_)
  obtain ⟨m, hm, e1⟩ := cutN a 5 (by omega) (by omega)
  obtain ⟨k, hk, e2⟩ := cutN b 5 (by omega) (by omega)
  have i5 : ((5 : Nat) : Int) = 5 := rfl
  rw [i5] at e1 e2
  obtain ⟨z1, l1, M1⟩ := mk0 (59998 + m) (by omega) (by omega)
  obtain ⟨z5, l5, M5⟩ := mk0 50000 (by omega) (by omega)
  obtain ⟨z4, l4, M4⟩ := mk0 (49980 + k) (by omega) (by omega)
  have i50 : ((50000 : Nat) : Int) = 50000 := rfl
  rw [i50] at M5
  have w1 : IntKind.i64.wrap ((m : Int) - 2) = (m : Int) - 2 := B.wrap64 (by omega)
  have w2 : IntKind.i64.wrap ((k : Int) - 2) = (k : Int) - 2 := B.wrap64 (by omega)
  have w3 : IntKind.i64.wrap (60000 + ((m : Int) - 2)) = ((59998 + m : Nat) : Int) := by rw [B.wrap64 (by omega)]; omega
  have w4 : IntKind.i64.wrap (49982 + ((k : Int) - 2)) = ((49980 + k : Nat) : Int) := by rw [B.wrap64 (by omega)]; omega
  have n5 : ¬ (5 : Int) = 0 := by omega
  have z24 : zeroV env 24 = some (.agg [.int .i64 0, .nilsl]) := by kernel_rfl
  have c1 : ∀ σ, convO env σ 25 9 (some (.slice 5)) (some .string) (.row (byteCells z1) z1.length .full) = some (.str z1, σ) := fun σ => (Rd.row σ.heap z1 .full).str σ.toks
  have c5 : ∀ σ, convO env σ 25 9 (some (.slice 5)) (some .string) (.row (byteCells z5) z5.length .full) = some (.str z5, σ) := fun σ => (Rd.row σ.heap z5 .full).str σ.toks
  have c4 : ∀ σ, convO env σ 25 9 (some (.slice 5)) (some .string) (.row (byteCells z4) z4.length .full) = some (.str z4, σ) := fun σ => (Rd.row σ.heap z4 .full).str σ.toks
  have b1 := bd24 1 (.row [.str z1] 1 .full) rfl
  have b4 := bd24 2 (.row [.str z5, .str z5, .str z5, .str z4] 4 .full) rfl
  simp -implicitDefEqProofs only [Try.f5,Wa,Wb,Wc,Wd,We,Wf,Wg,Wh,Wi,Wj,Wk,Wl,Wm,Wn,Zo,Zp,evalT,Nat.reduceLT,Nat.reduceEqDiff,if_true,if_false,reduceIte,Ys,ofVal,ofCell,argT,resT,setT,Y0,Int.reduceEq,Int.reduceLT,Int.reduceLE,Int.reduceNeg,mb,Nat.reduceBEq,tys,stb,Va,storeList,Nat.reduceAdd,Nat.reduceLeDiff,tyj,vBin_xor,vBin_or,vBin_shl,vBin_shr,S.empty,n5,e1,e2,w1,w2,w3,opT_makeSlice,mb5,M1,c1,opT_rowB,row22_1,b1,z24]
  obtain ⟨St, hSt⟩ : ∃ St : Nat → S, ∀ c, St c = ⟨[AObj.cells [.int .i64 1, .row [.str z1] 1 .full] 24] ++ [if c.testBit 13 = true then AObj.cells [.int .i64 2, .row [.str z5, .str z5, .str z5, .str z4] 4 .full] 24 else if c.testBit 12 = true then AObj.cells [.int .i64 0, .nilsl] 24 else .resv], []⟩ := ⟨_, fun c => rfl⟩
  have hI : ∀ j, j ≠ 12 → j ≠ 13 → ∀ c, St (c ||| 2 ^ j) = St c := fun j h1 h2 c => by
    rw [hSt, hSt]
    simp only [tb_or, h1, h2, decide_false, Bool.or_false]
  refine ⟨rfl, ?_⟩
  refine G_set rfl St (L := [.cells [.int .i64 0, .nilsl] 24]) (masks := [0, 1, 0, 4, 0, 16, 0, 64, 192, 448, 1023, 2047, 0, 8191]) (by kernel_rfl) (by kernel_rfl) (by kernel_rfl) (by kernel_rfl) (by kernel_rfl) (by rw [hSt]; simp) ?_
  simp only [List.length_cons, List.length_nil, Nat.zero_add, List.cons_append, List.nil_append]
  have ja1 : ∀ t l c, isAlloc (.makeSlice t l c) = false := fun _ _ _ => rfl
  have ja2 : ∀ t l c, isAlloc (.convert t l c) = false := fun _ _ _ => rfl
  have ja3 : ∀ t l c, isAlloc (.buildSlice t l c) = false := fun _ _ _ => rfl
  have ja4 : ∀ t c, isAlloc (.build t c) = false := fun _ _ => rfl
  have ja5 : ∀ c, isAlloc (.move c) = false := fun _ => rfl
  have ja6 : ∀ a b c d e, isAlloc (.binOp a b c d e) = false := fun _ _ _ _ _ => rfl
  have ja7 : ∀ t a b, isAlloc (.store t a b) = false := fun _ _ _ => rfl
  have i0_ := hI 0 (by decide) (by decide)
  have i1_ := hI 1 (by decide) (by decide)
  have i2_ := hI 2 (by decide) (by decide)
  have i3_ := hI 3 (by decide) (by decide)
  have i4_ := hI 4 (by decide) (by decide)
  have i5_ := hI 5 (by decide) (by decide)
  have i6_ := hI 6 (by decide) (by decide)
  have i7_ := hI 7 (by decide) (by decide)
  have i8_ := hI 8 (by decide) (by decide)
  have i9_ := hI 9 (by decide) (by decide)
  have i10_ := hI 10 (by decide) (by decide)
  have i11_ := hI 11 (by decide) (by decide)
  simp -implicitDefEqProofs only [Wa,Wb,Wc,Wd,We,Wf,Wg,Wh,Wi,Wj,Wk,Wl,Wm,Wn,Zo,Zp,evalT,Nat.reduceLT,Nat.reduceEqDiff,if_true,if_false,reduceIte,Ys,ofVal,ofCell,argT,resT,setT,Y0,Int.reduceEq,Int.reduceLT,Int.reduceLE,Int.reduceNeg,mb,Nat.reduceBEq,tys,stb,Va,storeList,Nat.reduceAdd,Nat.reduceLeDiff,tyj,vBin_xor,vBin_or,vBin_shl,vBin_shr,GZ_nil,GZ_alloc,GZ_op,GZS_some,GZS_none,GZS_ite,GZS_nite,ja1,ja2,ja3,ja4,ja5,ja6,ja7,opT_makeSlice,mb5,M5,M4,c5,c4,w4,opT_rowB,row22_4,b4,i0_,i1_,i2_,i3_,i4_,i5_,i6_,i7_,i8_,i9_,i10_,i11_]
  have tt1 : Nat.testBit 4096 13 = false := by decide
  have tt2 : Nat.testBit 4096 12 = true := by decide
  have tt3 : Nat.testBit 8192 13 = true := by decide
  have hf1 : Fld (.row [.str z1] 1 .full) [z1] := .inr ⟨.full, rfl⟩
  have hf2 : Fld (.row [.str z5, .str z5, .str z5, .str z4] 4 .full) [z5, z5, z5, z4] := .inr ⟨.full, rfl⟩
  obtain ⟨o1, d1⟩ := chk_one hm l1
  obtain ⟨o2, d2⟩ := chk_many hk l5 l4
  obtain ⟨L1, ts1, hT1, hK1⟩ := taken_call (L := [AObj.cells [.int .i64 1, .row [.str z1] 1 .full] 24, AObj.cells [.int .i64 2, .row [.str z5, .str z5, .str z5, .str z4] 4 .full] 24]) (ts := []) (r := ⟨1, [z1]⟩) hf1 (by simp) o1
  obtain ⟨L2, ts2, hT2, hK2⟩ := taken_call (L := L1) (ts := ts1) (r := ⟨2, [z5, z5, z5, z4]⟩) hf2 (by simp) o2
  rw [d1] at hT1
  rw [d2] at hT2
  have q1 : aload env [AObj.cells [.int .i64 1, .row [.str z1] 1 .full] 24, AObj.cells [.int .i64 2, .row [.str z5, .str z5, .str z5, .str z4] 4 .full] 24] 24 (.ptr 0 0) = some (.agg [.int .i64 1, .row [.str z1] 1 .full]) := l55 rfl
  have q2 : aload env L1 24 (.ptr 1 0) = some (.agg [.int .i64 2, .row [.str z5, .str z5, .str z5, .str z4] 4 .full]) := l55 (hK1.get rfl)
  clear d1 d2 o1 o2 hK1 hK2
  refine ⟨fun _ _ _ => trivial, fun _ _ _ => trivial, fun _ _ _ => trivial, fun _ _ _ => trivial, fun _ _ _ => trivial, fun _ _ _ => trivial, fun _ _ _ => trivial, fun _ _ _ => trivial, fun _ _ _ => trivial, fun _ _ _ => trivial, fun _ _ _ => trivial, fun _ _ _ => trivial, ?_, rfl, ?_, ?_, ?_⟩
  · rintro c _ ⟨a1, a2, a3⟩
    have b13 : c.testBit 13 = false := a3 13 (by decide)
    refine ⟨24, _, rfl, z24, ?_, ?_⟩
    · rw [hSt]; simp [a1, b13]
    · rw [hSt, hSt]; simp [tb_or, a1, b13, S.set, YW, tt1, tt2]
  · rintro c _ ⟨a1, a2, a3⟩
    have b12 : c.testBit 12 = true := a2 12 (by decide) (by decide)
    rw [hSt, hSt]
    simp [tb_or, a1, b12, tt3, storeAt, S.set, storeList, V.isCell]
  · intro c hc
    rw [hSt]; simp [hc 13 (by decide)]
  · simp -implicitDefEqProofs only [Wa,Wb,Wc,Wd,We,Wf,Wg,Wh,Wi,Wj,Wk,Wl,Wm,Wn,Zo,Zp,evalT,Nat.reduceLT,Nat.reduceEqDiff,if_true,if_false,reduceIte,Ys,ofVal,ofCell,argT,resT,setT,Y0,Int.reduceEq,Int.reduceLT,Int.reduceLE,Int.reduceNeg,mb,Nat.reduceBEq,tys,stb,Va,storeList,Nat.reduceAdd,Nat.reduceLeDiff,tyj,vBin_xor,vBin_or,vBin_shl,vBin_shr,q1,q2,hT1,hT2,known7]
    first | exact ⟨fun _ => rfl, fun h => absurd rfl h⟩ | rfl | simp only [oneOr]
theorem large_foundt {u w : V} (h : Tyd Try.prog 5 3 [u]) (h2 : Tyd Try.prog 5 3 [w]) : Go.Ab.Found env 5 [u, w] := by
  obtain ⟨a, e, _⟩ := tyd_int h u3
  obtain ⟨b, e2, _⟩ := tyd_int h2 u3
  simp only [List.cons.injEq, and_true] at e e2
  subst e e2
  exact large_found a b
end Go.Proofs.Ytncohjljeoknkaa.D
