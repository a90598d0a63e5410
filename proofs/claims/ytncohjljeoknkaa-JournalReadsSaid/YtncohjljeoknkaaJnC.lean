/- Proved here: the law. Conditions: those of each theorem; no statement of the seat is proved in this text. -/
import Derived.Test.YtncohjljeoknkaaJnB
namespace Go.Proofs.Ytncohjljeoknkaa.D
open Go.Ab
set_option linter.unusedVariables false
set_option linter.unusedSectionVars false
set_option linter.unusedSimpArgs false
end Go.Proofs.Ytncohjljeoknkaa.D
namespace Go.Proofs.Ytncohjljeoknkaa.D
open Go.Ab
set_option maxHeartbeats 8000000
set_option maxRecDepth 100000
set_option linter.unusedSimpArgs false
set_option linter.unusedVariables false
theorem flatB1 : ∀ s : List UInt8, (s.map fun x => [V.int .u8 x.toNat]).flatten = byteCells s
  | [] => rfl
  | x :: s => by simp only [List.map_cons, List.flatten_cons, flatB1 s]; rfl
theorem tyd_bytes {w : V} {k : Nat} (h : Tyd env.P (k + 2) 25 [w]) : ∃ s : List UInt8, (w = .nilsl ∧ s = [] ∨ w = .row (byteCells s) s.length .unk) ∧ s.length ≤ maxLen := by
  rcases tyd_slice h u26 with h | ⟨vss, h, hl, _, ht⟩
  · simp only [List.cons.injEq, and_true] at h
    exact ⟨[], .inl ⟨h, rfl⟩, by simp⟩
  · simp only [List.cons.injEq, and_true] at h
    obtain ⟨ss, rfl⟩ := tyd_map (f := fun x : UInt8 => [V.int .u8 x.toNat]) (fun x hx => by
      obtain ⟨n, rfl, h1, h2⟩ := tyd_int hx u5
      have h1 : (0 : Int) ≤ n := h1
      have h2 : n ≤ 255 := h2
      refine ⟨UInt8.ofNat n.toNat, ?_⟩
      have : ((UInt8.ofNat n.toNat).toNat : Int) = n := by
        rw [UInt8.toNat_ofNat']; omega
      rw [this]) ht
    refine ⟨ss, .inr ?_, by simpa using hl⟩
    rw [h, flatB1]; simp
end Go.Proofs.Ytncohjljeoknkaa.D
namespace Go.Proofs.Ytncohjljeoknkaa.D
open Go.Ab
set_option maxHeartbeats 8000000
set_option maxRecDepth 100000
set_option linter.unusedSimpArgs false
set_option linter.unusedVariables false
def tokOf : V → Option Nat
  | .row _ _ (.tok k _ _) => some k
  | _ => none
theorem RowT.other {ts ts' : List Nat} {w n : Nat} {u : V} {cs : List V} (r : RowT ts w u n cs) (h : ∀ k, tokOf u = some k → k < ts.length → ts'[k]? = ts[k]?) : RowT ts' w u n cs := by
  obtain ⟨hl, h1 | ⟨cap, rfl, h2 | ⟨k, e, rfl, h3⟩⟩⟩ := r
  · exact ⟨hl, .inl h1⟩
  · exact ⟨hl, .inr ⟨cap, rfl, .inl h2⟩⟩
  · exact ⟨hl, .inr ⟨_, rfl, .inr ⟨k, e, rfl, by rw [h k rfl (List.getElem?_eq_some_iff.1 h3).1]; exact h3⟩⟩⟩
structure Two (ts : List Nat) (a : V) (s : List UInt8) (b : V) (rs : List Rec) : Prop where
  ra : RowT ts 1 a s.length (byteCells s)
  rb : ∃ cs, RowT ts 2 b rs.length cs ∧ RecC rs cs
  ne : ∀ k, tokOf a = some k → tokOf b ≠ some k
structure ARec where
  r : Rec
  fv : V
  ok : (fv = .nilsl ∧ r.fs = []) ∨ fv = .row (r.fs.map .str) r.fs.length .unk
  b : IntKind.i64.min ≤ r.k ∧ r.k ≤ IntKind.i64.max ∧ r.fs.length ≤ maxLen ∧ ∀ f ∈ r.fs, f.length ≤ maxLen
def ARec.cs (a : ARec) : List V := [.int .i64 a.r.k, a.fv]
theorem ARec.fld (a : ARec) : Fld a.fv a.r.fs := a.ok.imp id fun h => ⟨_, h⟩
end Go.Proofs.Ytncohjljeoknkaa.D
namespace Go.Proofs.Ytncohjljeoknkaa.D
open Go.Ab
set_option maxHeartbeats 8000000
set_option maxRecDepth 100000
set_option linter.unusedSimpArgs false
set_option linter.unusedVariables false
theorem at4 : env.P.funcs[4]? = some Try.f4 := by kernel_rfl
theorem known7 (σ : S) : callFn env (ev env) 7 [] σ = some (.bool true, σ) := rfl
theorem readN_ok : ∀ (f : Nat) (t : List UInt8), ∀ r ∈ (readN f t).1, chkR r = 0
  | 0, t, r, h => by simp [readN] at h
  | f + 1, t, r, h => by
    unfold readN at h
    cases ho : oneR t with
    | none => rw [ho] at h; simp at h
    | some x =>
      obtain ⟨r', n⟩ := x
      rw [ho] at h
      simp only [List.mem_cons] at h
      rcases h with rfl | h
      · exact (oneR_le ho).2.2
      · exact readN_ok f _ r h
theorem readN_len : ∀ (f : Nat) (t : List UInt8), t.length ≤ f → (readN f t).1.length ≤ t.length ∧ (readN f t).2 ≤ t.length
  | 0, t, _ => by simp [readN]
  | f + 1, t, hf => by
    unfold readN
    cases ho : oneR t with
    | none => simp
    | some x =>
      obtain ⟨r, n⟩ := x
      obtain ⟨h1, h2, _⟩ := oneR_le ho
      have ih := readN_len f (t.drop n) (by rw [List.length_drop]; omega)
      rw [List.length_drop] at ih
      simp only [List.length_cons]
      omega
theorem reads_found {y : V} {t : List UInt8} (hy : ∀ L, Rd L y t) : Go.Ab.Found env 4 [y] := by
  refine found_of_wp at4 rfl (by simp [Try.f4]) (by simp [Try.f4]) (G_start ?_)
  have hlen := (hy []).lenT 5
  by_cases h5 : 5000 < t.length
  · have c1 : (5000 : Int) < (t.length : Int) := by omega
    simp -implicitDefEqProofs only [Try.f4,Wa,Wb,Wc,Wd,We,Wf,Wg,Wh,Wi,Wj,Wk,Wl,Wm,Wn,Zo,Zp,evalT,Nat.reduceLT,Nat.reduceEqDiff,if_true,if_false,reduceIte,Ys,ofVal,ofCell,argT,resT,setT,Y0,Int.reduceEq,Int.reduceLT,Int.reduceLE,Int.reduceNeg,mb,Nat.reduceBEq,tys,stb,Va,storeList,Nat.reduceAdd,Nat.reduceLeDiff,tyj,vBin_xor,vBin_or,vBin_shl,vBin_shr,hlen,c1,known7]
    simp only [oneOr]
  · have c1 : ¬ (5000 : Int) < (t.length : Int) := by omega
    obtain ⟨u, L1, ts1, hR, hK1, hT1, hrow1⟩ := read_call (ts := []) (hy []) (by omega)
    obtain ⟨v, L2, ts2, hR2, hK2, hT2, hrow2⟩ := rread_call (ts := ts1) (hy L1) (by omega)
    have hf : ∀ r ∈ (readR t).1, r.fs.length ≤ 2 ^ 38 := fun r hr => by
      have h1 := readN_ok _ _ r hr
      have := (chk0 h1).2.2.1
      omega
    have hlr := readN_len t.length t (Nat.le_refl _)
    have hS := same_call (L := L2) (ts := ts2) (hrow1.rd L2) (hrow2.rd L2) (by show (readN t.length t).1.length ≤ _; omega) hf
    simp -implicitDefEqProofs only [Try.f4,Wa,Wb,Wc,Wd,We,Wf,Wg,Wh,Wi,Wj,Wk,Wl,Wm,Wn,Zo,Zp,evalT,Nat.reduceLT,Nat.reduceEqDiff,if_true,if_false,reduceIte,Ys,ofVal,ofCell,argT,resT,setT,Y0,Int.reduceEq,Int.reduceLT,Int.reduceLE,Int.reduceNeg,mb,Nat.reduceBEq,tys,stb,Va,storeList,Nat.reduceAdd,Nat.reduceLeDiff,tyj,vBin_xor,vBin_or,vBin_shl,vBin_shr,S.empty,hlen,c1,known7,hR,hR2,hS]
    simp only [oneOr]
theorem rd_arg {y : V} {t : List UInt8} (h : y = .nilsl ∧ t = [] ∨ y = .row (byteCells t) t.length .unk) : ∀ L, Rd L y t := fun L => by
  rcases h with ⟨rfl, rfl⟩ | rfl
  · exact Rd.nil L
  · exact Rd.row L t .unk
theorem reads_foundt {u : V} (h : Tyd Try.prog 5 25 [u]) : Go.Ab.Found env 4 [u] := by
  obtain ⟨t, h1, _⟩ := tyd_bytes (k := 3) h
  exact reads_found (rd_arg h1)
end Go.Proofs.Ytncohjljeoknkaa.D
