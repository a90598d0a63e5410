/- Proved here: the law. Conditions: those of each theorem; no statement of the seat is proved in this text. -/
import Derived.Test.YtncohjljeoknkaaJnB
namespace Go.Proofs.Ytncohjljeoknkaa.D
open Go.Ab
set_option linter.unusedVariables false
set_option linter.unusedSectionVars false
set_option linter.unusedSimpArgs false
end Go.Proofs.Ytncohjljeoknkaa.D
namespace Go.Proofs.Ytncohjljeoknkaa.D
open Go.Ab
set_option maxHeartbeats 8000000
set_option maxRecDepth 100000
set_option linter.unusedSimpArgs false
set_option linter.unusedVariables false
theorem flatB1 : ∀ s : List UInt8, (s.map fun x => [V.int .u8 x.toNat]).flatten = byteCells s
  | [] => rfl
  | x :: s => by simp only [List.map_cons, List.flatten_cons, flatB1 s]; rfl
theorem tyd_bytes {w : V} {k : Nat} (h : Tyd env.P (k + 2) 25 [w]) : ∃ s : List UInt8, (w = .nilsl ∧ s = [] ∨ w = .row (byteCells s) s.length .unk) ∧ s.length ≤ maxLen := by
  rcases tyd_slice h u26 with h | ⟨vss, h, hl, _, ht⟩
  · simp only [List.cons.injEq, and_true] at h
    exact ⟨[], .inl ⟨h, rfl⟩, by simp⟩
  · simp only [List.cons.injEq, and_true] at h
    obtain ⟨ss, rfl⟩ := tyd_map (f := fun x : UInt8 => [V.int .u8 x.toNat]) (fun x hx => by
      obtain ⟨n, rfl, h1, h2⟩ := tyd_int hx u5
      have h1 : (0 : Int) ≤ n := h1
      have h2 : n ≤ 255 := h2
      refine ⟨UInt8.ofNat n.toNat, ?_⟩
      have : ((UInt8.ofNat n.toNat).toNat : Int) = n := by
        rw [UInt8.toNat_ofNat']; omega
      rw [this]) ht
    refine ⟨ss, .inr ?_, by simpa using hl⟩
    rw [h, flatB1]; simp
end Go.Proofs.Ytncohjljeoknkaa.D
namespace Go.Proofs.Ytncohjljeoknkaa.D
open Go.Ab
set_option maxHeartbeats 8000000
set_option maxRecDepth 100000
set_option linter.unusedSimpArgs false
set_option linter.unusedVariables false
def tokOf : V → Option Nat
  | .row _ _ (.tok k _ _) => some k
  | _ => none
theorem RowT.other {ts ts' : List Nat} {w n : Nat} {u : V} {cs : List V} (r : RowT ts w u n cs) (h : ∀ k, tokOf u = some k → k < ts.length → ts'[k]? = ts[k]?) : RowT ts' w u n cs := by
  obtain ⟨hl, h1 | ⟨cap, rfl, h2 | ⟨k, e, rfl, h3⟩⟩⟩ := r
  · exact ⟨hl, .inl h1⟩
  · exact ⟨hl, .inr ⟨cap, rfl, .inl h2⟩⟩
  · exact ⟨hl, .inr ⟨_, rfl, .inr ⟨k, e, rfl, by rw [h k rfl (List.getElem?_eq_some_iff.1 h3).1]; exact h3⟩⟩⟩
structure Two (ts : List Nat) (a : V) (s : List UInt8) (b : V) (rs : List Rec) : Prop where
  ra : RowT ts 1 a s.length (byteCells s)
  rb : ∃ cs, RowT ts 2 b rs.length cs ∧ RecC rs cs
  ne : ∀ k, tokOf a = some k → tokOf b ≠ some k
theorem fts55 : fieldTs env.P 24 = some [3, 22] := by kernel_rfl
theorem flatS1 : ∀ s : List (List UInt8), (s.map fun x => [V.str x]).flatten = s.map V.str
  | [] => rfl
  | x :: s => by simp only [List.map_cons, List.flatten_cons, flatS1 s]; rfl
structure ARec where
  r : Rec
  fv : V
  ok : (fv = .nilsl ∧ r.fs = []) ∨ fv = .row (r.fs.map .str) r.fs.length .unk
  b : IntKind.i64.min ≤ r.k ∧ r.k ≤ IntKind.i64.max ∧ r.fs.length ≤ maxLen ∧ ∀ f ∈ r.fs, f.length ≤ maxLen
def ARec.cs (a : ARec) : List V := [.int .i64 a.r.k, a.fv]
theorem ARec.fld (a : ARec) : Fld a.fv a.r.fs := a.ok.imp id fun h => ⟨_, h⟩
theorem tyd_R {x : List V} {k : Nat} (h : Tyd env.P (k + 3) 24 x) : ∃ a : ARec, x = a.cs := by
  obtain ⟨a, r, rfl, ha, c, r3, rfl, hc, rfl⟩ := tyd_struct h fts55
  obtain ⟨n, rfl, hn1, hn2⟩ := tyd_int ha u3
  rcases tyd_slice hc u53 with h | ⟨vss, h, hl, _, ht⟩
  · subst h
    exact ⟨⟨⟨n, []⟩, .nilsl, .inl ⟨rfl, rfl⟩, hn1, hn2, by simp, by simp⟩, rfl⟩
  · obtain ⟨ss, rfl⟩ := tyd_map (f := fun s : {s : List UInt8 // s.length ≤ maxLen} => [V.str s.1]) (fun x hx => by
      obtain ⟨s, rfl, hs⟩ := tyd_str hx u9
      exact ⟨⟨s, hs⟩, rfl⟩) ht
    subst h
    have e : (ss.map fun s => [V.str s.1]).flatten = (ss.map (·.1)).map V.str := by rw [← flatS1, List.map_map]; rfl
    exact ⟨⟨⟨n, ss.map (·.1)⟩, _, .inr rfl, hn1, hn2, by simpa using hl, fun f hf => by obtain ⟨x, _, rfl⟩ := List.mem_map.1 hf; exact x.2⟩, by simp only [ARec.cs, e, List.length_map]; rfl⟩
end Go.Proofs.Ytncohjljeoknkaa.D
namespace Go.Proofs.Ytncohjljeoknkaa.D
open Go.Ab
set_option maxHeartbeats 8000000
set_option maxRecDepth 100000
set_option linter.unusedSimpArgs false
set_option linter.unusedVariables false
theorem at3 : env.P.funcs[3]? = some Try.f3 := by kernel_rfl
theorem known7 (σ : S) : callFn env (ev env) 7 [] σ = some (.bool true, σ) := rfl
theorem vBin_seq (us : Option TypeDesc) (c : Bool) (a : List UInt8) : vBinT us c .eql (.str a) (.str a) = some (.bool true) := by simp [vBinT, vBin, vStrOp, vEq]
theorem long_ok {r : Rec} (h : longR r = false) : r.fs.length ≤ 70 := by
  unfold longR at h
  rw [Bool.or_eq_false_iff, decide_eq_false_iff_not] at h
  omega
theorem bytes_found {r : Rec} {fv y : V} {t : List UInt8} (hf : Fld fv r.fs) (hy : ∀ L, Rd L y t) : Go.Ab.Found env 3 [.agg [.int .i64 r.k, fv], y] := by
  refine found_of_wp at3 rfl (by simp [Try.f3]) (by simp [Try.f3]) (G_start ?_)
  have hlen := (hy []).lenT 5
  have hL := long_call (L := [.cells [.int .i64 r.k, fv] 24]) (ts := []) hf
  have l0 : ∀ (L : List AObj), Keep [.cells [.int .i64 r.k, fv] 24] L → aload env L 24 (.ptr 0 0) = some (.agg [.int .i64 r.k, fv]) := fun L hk => l55 (hk.get rfl)
  have q0 := l0 _ (Keep.refl _)
  cases hlg : longR r with
  | true =>
    rw [hlg] at hL
    simp -implicitDefEqProofs only [Try.f3,Wa,Wb,Wc,Wd,We,Wf,Wg,Wh,Wi,Wj,Wk,Wl,Wm,Wn,Zo,Zp,evalT,Nat.reduceLT,Nat.reduceEqDiff,if_true,if_false,reduceIte,Ys,ofVal,ofCell,argT,resT,setT,Y0,Int.reduceEq,Int.reduceLT,Int.reduceLE,Int.reduceNeg,mb,Nat.reduceBEq,tys,stb,Va,storeList,Nat.reduceAdd,Nat.reduceLeDiff,tyj,vBin_xor,vBin_or,vBin_shl,vBin_shr,S.empty,q0,hL,known7,hf.cells]
    simp only [oneOr]
  | false =>
    rw [hlg] at hL
    have h70 := long_ok hlg
    by_cases h5 : 2000 < t.length
    · have c1 : (2000 : Int) < (t.length : Int) := by omega
      simp -implicitDefEqProofs only [Try.f3,Wa,Wb,Wc,Wd,We,Wf,Wg,Wh,Wi,Wj,Wk,Wl,Wm,Wn,Zo,Zp,evalT,Nat.reduceLT,Nat.reduceEqDiff,if_true,if_false,reduceIte,Ys,ofVal,ofCell,argT,resT,setT,Y0,Int.reduceEq,Int.reduceLT,Int.reduceLE,Int.reduceNeg,mb,Nat.reduceBEq,tys,stb,Va,storeList,Nat.reduceAdd,Nat.reduceLeDiff,tyj,vBin_xor,vBin_or,vBin_shl,vBin_shr,S.empty,q0,hL,hlen,c1,known7,hf.cells]
      simp only [oneOr]
    · have c1 : ¬ (2000 : Int) < (t.length : Int) := by omega
      have k1 := Keep.app [AObj.cells [.int .i64 r.k, fv] 24] [.cells [.int .i64 r.k, fv] 24]
      obtain ⟨u, L1, hB, hK1, hU⟩ := bytes_rec (L := [AObj.cells [.int .i64 r.k, fv] 24] ++ [.cells [.int .i64 r.k, fv] 24]) (ts := []) hf (by omega)
      have k2 := k1.trans hK1
      obtain ⟨v, L2, ts2, hB2, hK2, hV⟩ := bytes_ref (L := L1) (ts := []) hf (by omega)
      have k3 := k2.trans hK2
      obtain ⟨L3, hC, hK3⟩ := check_call (L := L2) (ts := ts2) hf (by omega)
      have k4 := k3.trans hK3
      have q1 := l0 _ k1
      have q2 := l0 _ k2
      have q3 := l0 _ k3
      have hs1 := sum_call (ts := ts2) (hy L3) (by omega)
      have hs2 := rsum_call (ts := ts2) (hy L3) (by omega)
      have hstr : ∃ s, convO env ⟨L2, ts2⟩ 25 9 (some (.slice 5)) (some .string) u = some (.str s, ⟨L2, ts2⟩) ∧ convO env ⟨L2, ts2⟩ 25 9 (some (.slice 5)) (some .string) v = some (.str s, ⟨L2, ts2⟩) := by
        by_cases h0 : chkR r = 0
        · rw [if_pos h0] at hU hV
          exact ⟨_, (hK2.rd hU.1.rd).str ts2, (hV.bytes L2).str ts2⟩
        · rw [if_neg h0] at hU hV
          subst hU hV
          exact ⟨_, (Rd.nil L2).str ts2, (Rd.nil L2).str ts2⟩
      obtain ⟨s, e1, e2⟩ := hstr
      simp only [List.cons_append, List.nil_append] at hB q1
      simp -implicitDefEqProofs only [Try.f3,Wa,Wb,Wc,Wd,We,Wf,Wg,Wh,Wi,Wj,Wk,Wl,Wm,Wn,Zo,Zp,evalT,Nat.reduceLT,Nat.reduceEqDiff,if_true,if_false,reduceIte,Ys,ofVal,ofCell,argT,resT,setT,Y0,Int.reduceEq,Int.reduceLT,Int.reduceLE,Int.reduceNeg,mb,Nat.reduceBEq,tys,stb,Va,storeList,Nat.reduceAdd,Nat.reduceLeDiff,tyj,vBin_xor,vBin_or,vBin_shl,vBin_shr,S.empty,q0,hL,hlen,c1,known7,hf.cells,q1,hB,q2,hB2,q3,e1,e2,vBin_seq,hC,hs1,hs2]
      simp only [oneOr]
theorem rd_arg {y : V} {t : List UInt8} (h : y = .nilsl ∧ t = [] ∨ y = .row (byteCells t) t.length .unk) : ∀ L, Rd L y t := fun L => by
  rcases h with ⟨rfl, rfl⟩ | rfl
  · exact Rd.nil L
  · exact Rd.row L t .unk
theorem bytes_foundt {u : List V} {w : V} (h : Tyd Try.prog 5 24 u) (h2 : Tyd Try.prog 5 25 [w]) : Go.Ab.Found env 3 [.agg u, w] := by
  obtain ⟨a, rfl⟩ := tyd_R (k := 2) h
  obtain ⟨t, h1, _⟩ := tyd_bytes (k := 3) h2
  exact bytes_found a.fld (rd_arg h1)
end Go.Proofs.Ytncohjljeoknkaa.D
