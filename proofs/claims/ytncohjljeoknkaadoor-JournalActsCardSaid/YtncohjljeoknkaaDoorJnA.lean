/- Proved here: records: checks and bytes. Conditions: those of each theorem; no statement of the seat is proved in this text. -/
import Derived.Test.YtncohjljeoknkaaDoorDkB
namespace Go.Proofs.YtncohjljeoknkaaDoor.D
open Go.Ab
set_option maxHeartbeats 4000000
set_option maxRecDepth 100000
set_option linter.unusedSimpArgs false
set_option linter.unusedVariables false
set_option linter.unusedSectionVars false
theorem at59 : env.P.funcs[59]? = some Tryd.f59 := by kernel_rfl
theorem at60 : env.P.funcs[60]? = some Tryd.f60 := by kernel_rfl
theorem at79 : env.P.funcs[79]? = some Tryd.f79 := by kernel_rfl
theorem at81 : env.P.funcs[81]? = some Tryd.f81 := by kernel_rfl
theorem at83 : env.P.funcs[83]? = some Tryd.f83 := by kernel_rfl
theorem at86 : env.P.funcs[86]? = some Tryd.f86 := by kernel_rfl
theorem u94 : env.P.underlying 94 = some (.int .u32) := by kernel_rfl
theorem u124 : env.P.underlying 124 = some (.int .u64) := by kernel_rfl
theorem u123 : env.P.underlying 123 = some (.slice 5) := by kernel_rfl
theorem u53 : env.P.underlying 53 = some (.slice 9) := by kernel_rfl
theorem u58 : env.P.underlying 58 = some (.slice 55) := by kernel_rfl
theorem s55 : sz env 55 = some 2 := by kernel_rfl
theorem s9 : sz env 9 = some 1 := by kernel_rfl
theorem s53 : sz env 53 = some 1 := by kernel_rfl
theorem f55_0 : fldOff env 55 0 = some 0 := by kernel_rfl
theorem f55_1 : fldOff env 55 1 = some 1 := by kernel_rfl
theorem agg55 (h : List AObj) (p : V) : aload env h 55 p = (loadCellsV h 2 p).map .agg := by
  unfold aload
  rw [show aggT env 55 = some true by kernel_rfl, show sz env 55 = some 2 by kernel_rfl]
  rfl
theorem tyj : env.P.underlying 94 = some (.int .u32) ∧ env.P.underlying 124 = some (.int .u64) ∧ env.P.underlying 123 = some (.slice 5) ∧ env.P.underlying 53 = some (.slice 9) ∧ env.P.underlying 58 = some (.slice 55) ∧ sz env 55 = some 2 ∧ sz env 9 = some 1 ∧ sz env 53 = some 1 ∧ sz env 58 = some 1 ∧ sz env 123 = some 1 ∧ sz env 94 = some 1 ∧ fldOff env 55 0 = some 0 ∧ fldOff env 55 1 = some 1 ∧
    (∀ h p, aload env h 5 p = (loadCellsV h 1 p).bind (·[0]?)) ∧ (∀ h p, aload env h 9 p = (loadCellsV h 1 p).bind (·[0]?)) ∧ (∀ h p, aload env h 53 p = (loadCellsV h 1 p).bind (·[0]?)) ∧ (∀ h p, aload env h 58 p = (loadCellsV h 1 p).bind (·[0]?)) ∧ (∀ h p, aload env h 123 p = (loadCellsV h 1 p).bind (·[0]?)) ∧ (∀ h p, aload env h 94 p = (loadCellsV h 1 p).bind (·[0]?)) ∧ (∀ h p, aload env h 101 p = (loadCellsV h 1 p).bind (·[0]?)) :=
  ⟨u94, u124, u123, u53, u58, s55, s9, s53, by kernel_rfl, by kernel_rfl, by kernel_rfl, f55_0, f55_1, fun _ _ => aload_one (by kernel_rfl), fun _ _ => aload_one (by kernel_rfl), fun _ _ => aload_one (by kernel_rfl), fun _ _ => aload_one (by kernel_rfl), fun _ _ => aload_one (by kernel_rfl), fun _ _ => aload_one (by kernel_rfl), fun _ _ => aload_one (by kernel_rfl)⟩
theorem vBin_xor (us : Option TypeDesc) (cc : Bool) (k : IntKind) (a b : Int) : vBinT us cc .xor (.int k a) (.int k b) = some (.int k (k.wrap (BitVec.ofInt k.bits a ^^^ BitVec.ofInt k.bits b).toNat)) := by simp [vBinT, vBin, vIntOp]
theorem vBin_or (us : Option TypeDesc) (cc : Bool) (k : IntKind) (a b : Int) : vBinT us cc .or (.int k a) (.int k b) = some (.int k (k.wrap (BitVec.ofInt k.bits a ||| BitVec.ofInt k.bits b).toNat)) := by simp [vBinT, vBin, vIntOp]
theorem vBin_shl (us : Option TypeDesc) (cc : Bool) (k k' : IntKind) (a b : Int) : vBinT us cc .shl (.int k a) (.int k' b) = if b < 0 then none else some (.int k (k.wrap (a * 2 ^ min b.toNat k.bits))) := by
  by_cases h : b < 0 <;> simp [vBinT, vBin, vShift, h]
theorem vBin_shr (us : Option TypeDesc) (cc : Bool) (k k' : IntKind) (a b : Int) : vBinT us cc .shr (.int k a) (.int k' b) = if b < 0 then none else some (.int k (a.fdiv (2 ^ min b.toNat k.bits))) := by
  by_cases h : b < 0 <;> simp [vBinT, vBin, vShift, h]
theorem wrap_u32 {x : Int} (h : 0 ≤ x ∧ x < 4294967296) : IntKind.wrap .u32 x = x := by
  show (let m := x % (2 ^ 32 : Int); if false && decide (m ≥ 2 ^ 31) then m - 2 ^ 32 else m) = x
  simp only [Bool.false_and, Bool.false_eq_true, if_false]
  omega
theorem wrap_u32_range (x : Int) : 0 ≤ IntKind.wrap .u32 x ∧ IntKind.wrap .u32 x < 4294967296 := by
  have : IntKind.wrap .u32 x = x % (2 ^ 32 : Int) := by
    show (let m := x % (2 ^ 32 : Int); if false && decide (m ≥ 2 ^ 31) then m - 2 ^ 32 else m) = _
    simp only [Bool.false_and, Bool.false_eq_true, if_false]
  rw [this]
  omega
section
variable {L : List AObj} {y : V} {t : List UInt8}
theorem byteCells_get (t : List UInt8) (i : Nat) (h : i < t.length) : (byteCells t)[i]? = some (.int .u8 (t[i].toNat : Int)) := by simp [byteCells, h]
theorem Rd.idx (h : Rd L y t) {i : Nat} (hi : i < t.length) : ∃ p, vIndexAddr 1 y (.int .i64 (i : Int)) = some p ∧ (loadCellsV L 1 p).bind (·[0]?) = some (.int .u8 (t[i].toNat : Int)) := by
  have hii : (i : Int) < (t.length : Int) := by omega
  rcases h with ⟨rfl, rfl⟩ | ⟨b, off, cap, ex, cs, rfl, h1, h2, h3, h4⟩ | ⟨cells, cap, rfl, h1, h2⟩
  · simp at hi
  · refine ⟨.ptr b (off + i * 1), by simp [vIndexAddr, hi], ?_⟩
    rw [YA, h1, YB, Nat.mul_one]
    have := byteCells_get t i hi
    rw [← h4, List.getElem?_take_of_lt hi, List.getElem?_drop] at this
    exact this
  · refine ⟨.rptr (cells.drop (i * 1)), by simp [vIndexAddr, hi], ?_⟩
    have := byteCells_get t i hi
    rw [← h2, List.getElem?_take_of_lt hi] at this
    rw [Yz, Nat.mul_one]
    simpa using this
end
def xorN (a b : Int) : Int := IntKind.u32.wrap (BitVec.ofInt IntKind.u32.bits a ^^^ BitVec.ofInt IntKind.u32.bits b).toNat
def sumStep (h : Int) (b : UInt8) : Int := IntKind.u32.wrap (xorN h (IntKind.u32.wrap (b.toNat : Int)) * 16777619)
def sumF (t : List UInt8) : Int := t.foldl sumStep 2166136261
theorem sumF_snoc (t : List UInt8) (i : Nat) (h : i < t.length) : sumF (t.take (i + 1)) = sumStep (sumF (t.take i)) t[i] := by
  unfold sumF
  rw [List.take_succ_eq_append_getElem h, List.foldl_append]
  rfl
theorem sum_call {L : List AObj} {ts : List Nat} {y : V} {t : List UInt8} (hy : Rd L y t) (hl : t.length ≤ 2 ^ 38) : callFn env (ev env) 60 [y] ⟨L, ts⟩ = some (.int .u32 (sumF t), ⟨L, ts⟩) := by
  refine callFn_eq rfl rfl at60 rfl (by simp [Tryd.f60]) (by simp [Tryd.f60]) (G_start ?_)
  have hlen := hy.lenT 5
  simp -implicitDefEqProofs only [Tryd.f60,Wa,Wb,Wc,Wd,We,Wf,Wg,Wh,Wi,Wj,Wk,Wl,Wm,Wn,Zo,Zp,evalT,Nat.reduceLT,Nat.reduceEqDiff,if_true,if_false,reduceIte,Ys,ofVal,ofCell,argT,resT,setT,Y0,Int.reduceEq,Int.reduceLT,Int.reduceLE,Int.reduceNeg,mb,Nat.reduceBEq,tys,stb,Va,storeList,Nat.reduceAdd,Nat.reduceLeDiff,tyj,vBin_xor,vBin_or,vBin_shl,vBin_shr,hlen]
  refine loop_rule (fun m T D σ => D = [] ∧ σ = ⟨L, ts⟩ ∧ T 6 = y ∧ T 7 = .int .i64 t.length ∧ ∃ i : Nat, i ≤ t.length ∧ m = t.length - i ∧ T 8 = .int .i64 i ∧ T 3 = .int .u32 (sumF (t.take i))) ?_ t.length _ _ _ ⟨rfl, rfl, rfl, rfl, 0, by omega, rfl, rfl, rfl⟩
  rintro m T D σ ⟨rfl, rfl, t6, t7, i, hi, rfl, t8, t3⟩
  refine G_start ?_
  by_cases hlt : i < t.length
  · have c1 : (i : Int) < (t.length : Int) := by omega
    have w1 : IntKind.wrap .i64 ((i : Int) + 1) = ((i + 1 : Nat) : Int) := by rw [B.wrap64 (by omega)]; omega
    obtain ⟨p, hp, hld⟩ := hy.idx hlt
    simp -implicitDefEqProofs only [Wa,Wb,Wc,Wd,We,Wf,Wg,Wh,Wi,Wj,Wk,Wl,Wm,Wn,Zo,Zp,evalT,Nat.reduceLT,Nat.reduceEqDiff,if_true,if_false,reduceIte,Ys,ofVal,ofCell,argT,resT,setT,Y0,Int.reduceEq,Int.reduceLT,Int.reduceLE,Int.reduceNeg,mb,Nat.reduceBEq,tys,stb,Va,storeList,Nat.reduceAdd,Nat.reduceLeDiff,tyj,vBin_xor,vBin_or,vBin_shl,vBin_shr,t3,t6,t7,t8,c1,hp,hld,w1]
    exact ⟨t.length - (i + 1), by omega, i + 1, by omega, rfl, rfl, by rw [sumF_snoc t i hlt]; rfl⟩
  · have c1 : ¬ (i : Int) < (t.length : Int) := by omega
    have hi2 : i = t.length := by omega
    subst hi2
    simp -implicitDefEqProofs only [Wa,Wb,Wc,Wd,We,Wf,Wg,Wh,Wi,Wj,Wk,Wl,Wm,Wn,Zo,Zp,evalT,Nat.reduceLT,Nat.reduceEqDiff,if_true,if_false,reduceIte,Ys,ofVal,ofCell,argT,resT,setT,Y0,Int.reduceEq,Int.reduceLT,Int.reduceLE,Int.reduceNeg,mb,Nat.reduceBEq,tys,stb,Va,storeList,Nat.reduceAdd,Nat.reduceLeDiff,tyj,vBin_xor,vBin_or,vBin_shl,vBin_shr,t3,t6,t7,t8,c1]
    rw [List.take_length]
    exact ⟨rfl, trivial⟩
theorem rsum_call {L : List AObj} {ts : List Nat} {y : V} {t : List UInt8} (hy : Rd L y t) (hl : t.length ≤ 2 ^ 38) : callFn env (ev env) 81 [y] ⟨L, ts⟩ = some (.int .u32 (sumF t), ⟨L, ts⟩) := by
  refine callFn_eq rfl rfl at81 rfl (by simp [Tryd.f81]) (by simp [Tryd.f81]) (G_start ?_)
  have hlen := hy.lenT 5
  simp -implicitDefEqProofs only [Tryd.f81,Wa,Wb,Wc,Wd,We,Wf,Wg,Wh,Wi,Wj,Wk,Wl,Wm,Wn,Zo,Zp,evalT,Nat.reduceLT,Nat.reduceEqDiff,if_true,if_false,reduceIte,Ys,ofVal,ofCell,argT,resT,setT,Y0,Int.reduceEq,Int.reduceLT,Int.reduceLE,Int.reduceNeg,mb,Nat.reduceBEq,tys,stb,Va,storeList,Nat.reduceAdd,Nat.reduceLeDiff,tyj,vBin_xor,vBin_or,vBin_shl,vBin_shr]
  refine loop_rule (fun m T D σ => D = [] ∧ σ = ⟨L, ts⟩ ∧ T 0 = y ∧ ∃ i : Nat, i ≤ t.length ∧ m = t.length - i ∧ T 4 = .int .i64 i ∧ T 3 = .int .u32 (sumF (t.take i))) ?_ t.length _ _ _ ⟨rfl, rfl, rfl, 0, by omega, rfl, rfl, rfl⟩
  rintro m T D σ ⟨rfl, rfl, t0, i, hi, rfl, t4, t3⟩
  refine G_start ?_
  by_cases hlt : i < t.length
  · have c1 : (i : Int) < (t.length : Int) := by omega
    have w1 : IntKind.wrap .i64 ((i : Int) + 1) = ((i + 1 : Nat) : Int) := by rw [B.wrap64 (by omega)]; omega
    obtain ⟨p, hp, hld⟩ := hy.idx hlt
    simp -implicitDefEqProofs only [Wa,Wb,Wc,Wd,We,Wf,Wg,Wh,Wi,Wj,Wk,Wl,Wm,Wn,Zo,Zp,evalT,Nat.reduceLT,Nat.reduceEqDiff,if_true,if_false,reduceIte,Ys,ofVal,ofCell,argT,resT,setT,Y0,Int.reduceEq,Int.reduceLT,Int.reduceLE,Int.reduceNeg,mb,Nat.reduceBEq,tys,stb,Va,storeList,Nat.reduceAdd,Nat.reduceLeDiff,tyj,vBin_xor,vBin_or,vBin_shl,vBin_shr,t0,t3,t4,hlen,c1,hp,hld,w1]
    exact ⟨t.length - (i + 1), by omega, i + 1, by omega, rfl, rfl, by rw [sumF_snoc t i hlt]; rfl⟩
  · have c1 : ¬ (i : Int) < (t.length : Int) := by omega
    have hi2 : i = t.length := by omega
    subst hi2
    simp -implicitDefEqProofs only [Wa,Wb,Wc,Wd,We,Wf,Wg,Wh,Wi,Wj,Wk,Wl,Wm,Wn,Zo,Zp,evalT,Nat.reduceLT,Nat.reduceEqDiff,if_true,if_false,reduceIte,Ys,ofVal,ofCell,argT,resT,setT,Y0,Int.reduceEq,Int.reduceLT,Int.reduceLE,Int.reduceNeg,mb,Nat.reduceBEq,tys,stb,Va,storeList,Nat.reduceAdd,Nat.reduceLeDiff,tyj,vBin_xor,vBin_or,vBin_shl,vBin_shr,t0,t3,t4,hlen,c1]
    rw [List.take_length]
    exact ⟨rfl, trivial⟩
def numStep (n : Int) (b : UInt8) : Int := IntKind.u32.wrap (BitVec.ofInt IntKind.u32.bits (IntKind.u32.wrap (n * 2 ^ min (8 : Int).toNat IntKind.u32.bits)) ||| BitVec.ofInt IntKind.u32.bits (IntKind.u32.wrap (b.toNat : Int))).toNat
def numF : List UInt8 → Nat
  | t => t.foldl (fun n b => n * 256 + b.toNat) 0
theorem numF_snoc (t : List UInt8) (b : UInt8) : numF (t ++ [b]) = numF t * 256 + b.toNat := by simp [numF]
theorem fold_lt : ∀ (t : List UInt8) (n k : Nat), n < 256 ^ k → t.foldl (fun n b => n * 256 + b.toNat) n < 256 ^ (k + t.length)
  | [], n, k, h => by simpa using h
  | b :: t, n, k, h => by
    have hb := b.toNat_lt
    have := fold_lt t (n * 256 + b.toNat) (k + 1) (by rw [Nat.pow_succ]; omega)
    rw [List.foldl_cons, List.length_cons, show k + (t.length + 1) = k + 1 + t.length by omega]
    exact this
theorem numF_lt (t : List UInt8) : numF t < 256 ^ t.length := by
  have := fold_lt t 0 0 (by simp)
  rwa [Nat.zero_add] at this
theorem numStep_eq (n : Nat) (b : UInt8) (h : n < 2 ^ 24) : numStep n b = ((n * 256 + b.toNat : Nat) : Int) := by
  have hb := b.toNat_lt
  have h0 : min (8 : Int).toNat IntKind.u32.bits = 8 := rfl
  have h1 : IntKind.u32.wrap ((n : Int) * 2 ^ 8) = ((n * 256 : Nat) : Int) := by rw [wrap_u32 (by omega)]; omega
  have h2 : IntKind.u32.wrap (b.toNat : Int) = (b.toNat : Int) := wrap_u32 (by omega)
  unfold numStep
  rw [h0, h1, h2]
  have h3 : (BitVec.ofInt IntKind.u32.bits ((n * 256 : Nat) : Int) ||| BitVec.ofInt IntKind.u32.bits (b.toNat : Int)).toNat = n * 256 + b.toNat := by
    rw [BitVec.toNat_or, BitVec.ofInt_natCast, BitVec.ofInt_natCast, BitVec.toNat_ofNat, BitVec.toNat_ofNat]
    have e : IntKind.u32.bits = 32 := rfl
    rw [e, Nat.mod_eq_of_lt (by omega), Nat.mod_eq_of_lt (by omega)]
    have := Nat.two_pow_add_eq_or_of_lt (i := 8) (b := b.toNat) hb n
    rw [Nat.mul_comm n 256]
    exact this.symm
  rw [h3]
  exact wrap_u32 (by omega)
theorem number_call {L : List AObj} {ts : List Nat} {y : V} {t : List UInt8} (hy : Rd L y t) (hl : t.length ≤ 4) : callFn env (ev env) 86 [y] ⟨L, ts⟩ = some (.int .u32 (numF t), ⟨L, ts⟩) := by
  refine callFn_eq rfl rfl at86 rfl (by simp [Tryd.f86]) (by simp [Tryd.f86]) (G_start ?_)
  have hlen := hy.lenT 5
  simp -implicitDefEqProofs only [Tryd.f86,Wa,Wb,Wc,Wd,We,Wf,Wg,Wh,Wi,Wj,Wk,Wl,Wm,Wn,Zo,Zp,evalT,Nat.reduceLT,Nat.reduceEqDiff,if_true,if_false,reduceIte,Ys,ofVal,ofCell,argT,resT,setT,Y0,Int.reduceEq,Int.reduceLT,Int.reduceLE,Int.reduceNeg,mb,Nat.reduceBEq,tys,stb,Va,storeList,Nat.reduceAdd,Nat.reduceLeDiff,tyj,vBin_xor,vBin_or,vBin_shl,vBin_shr,hlen]
  refine loop_rule (fun m T D σ => D = [] ∧ σ = ⟨L, ts⟩ ∧ T 6 = y ∧ T 7 = .int .i64 t.length ∧ ∃ i : Nat, i ≤ t.length ∧ m = t.length - i ∧ T 8 = .int .i64 i ∧ T 3 = .int .u32 (numF (t.take i))) ?_ t.length _ _ _ ⟨rfl, rfl, rfl, rfl, 0, by omega, rfl, rfl, rfl⟩
  rintro m T D σ ⟨rfl, rfl, t6, t7, i, hi, rfl, t8, t3⟩
  refine G_start ?_
  by_cases hlt : i < t.length
  · have c1 : (i : Int) < (t.length : Int) := by omega
    have w1 : IntKind.wrap .i64 ((i : Int) + 1) = ((i + 1 : Nat) : Int) := by rw [B.wrap64 (by omega)]; omega
    obtain ⟨p, hp, hld⟩ := hy.idx hlt
    have c8 : ¬ (8 : Int) < 0 := by omega
    have hsm : numF (t.take i) < 2 ^ 24 := by
      have h1 := numF_lt (t.take i)
      rw [List.length_take, Nat.min_eq_left (by omega)] at h1
      have h2 : 256 ^ i ≤ 256 ^ 3 := Nat.pow_le_pow_right (by omega) (by omega)
      omega
    have e := numStep_eq _ t[i] hsm
    unfold numStep at e
    simp -implicitDefEqProofs only [Wa,Wb,Wc,Wd,We,Wf,Wg,Wh,Wi,Wj,Wk,Wl,Wm,Wn,Zo,Zp,evalT,Nat.reduceLT,Nat.reduceEqDiff,if_true,if_false,reduceIte,Ys,ofVal,ofCell,argT,resT,setT,Y0,Int.reduceEq,Int.reduceLT,Int.reduceLE,Int.reduceNeg,mb,Nat.reduceBEq,tys,stb,Va,storeList,Nat.reduceAdd,Nat.reduceLeDiff,tyj,vBin_xor,vBin_or,vBin_shl,vBin_shr,t3,t6,t7,t8,c1,hp,hld,w1,c8,e]
    exact ⟨t.length - (i + 1), by omega, i + 1, by omega, rfl, rfl, by rw [List.take_succ_eq_append_getElem hlt, numF_snoc]⟩
  · have c1 : ¬ (i : Int) < (t.length : Int) := by omega
    have hi2 : i = t.length := by omega
    subst hi2
    simp -implicitDefEqProofs only [Wa,Wb,Wc,Wd,We,Wf,Wg,Wh,Wi,Wj,Wk,Wl,Wm,Wn,Zo,Zp,evalT,Nat.reduceLT,Nat.reduceEqDiff,if_true,if_false,reduceIte,Ys,ofVal,ofCell,argT,resT,setT,Y0,Int.reduceEq,Int.reduceLT,Int.reduceLE,Int.reduceNeg,mb,Nat.reduceBEq,tys,stb,Va,storeList,Nat.reduceAdd,Nat.reduceLeDiff,tyj,vBin_xor,vBin_or,vBin_shl,vBin_shr,t3,t6,t7,t8,c1]
    rw [List.take_length]
    exact ⟨rfl, trivial⟩
theorem four_list {t : List UInt8} (h : 4 ≤ t.length) : ∃ a b c d, t.take 4 = [a, b, c, d] ∧ t[0]? = some a ∧ t[1]? = some b ∧ t[2]? = some c ∧ t[3]? = some d := by
  match t, h with
  | a :: b :: c :: d :: r, _ => exact ⟨a, b, c, d, rfl, rfl, rfl, rfl, rfl⟩
theorem wrap_i64_of {x : Int} (h : 0 ≤ x ∧ x < 9223372036854775808) : IntKind.wrap .i64 x = x := B.wrap64 (by omega)
theorem rnumber_call {L : List AObj} {ts : List Nat} {y : V} {t : List UInt8} (hy : Rd L y t) (hl : 4 ≤ t.length) : callFn env (ev env) 79 [y] ⟨L, ts⟩ = some (.int .i64 (numF (t.take 4)), ⟨L, ts⟩) := by
  obtain ⟨a, b, c, d, h4, g0, g1, g2, g3⟩ := four_list hl
  obtain ⟨p0, hp0, l0⟩ := hy.idx (i := 0) (by omega)
  obtain ⟨p1, hp1, l1⟩ := hy.idx (i := 1) (by omega)
  obtain ⟨p2, hp2, l2⟩ := hy.idx (i := 2) (by omega)
  obtain ⟨p3, hp3, l3⟩ := hy.idx (i := 3) (by omega)
  have e0 : t[0] = a := by rw [List.getElem?_eq_getElem (by omega)] at g0; exact Option.some.inj g0
  have e1 : t[1] = b := by rw [List.getElem?_eq_getElem (by omega)] at g1; exact Option.some.inj g1
  have e2 : t[2] = c := by rw [List.getElem?_eq_getElem (by omega)] at g2; exact Option.some.inj g2
  have e3 : t[3] = d := by rw [List.getElem?_eq_getElem (by omega)] at g3; exact Option.some.inj g3
  rw [e0] at l0
  rw [e1] at l1
  rw [e2] at l2
  rw [e3] at l3
  have ha := a.toNat_lt
  have hb := b.toNat_lt
  have hc := c.toNat_lt
  have hd := d.toNat_lt
  have i0 : ((0 : Nat) : Int) = 0 := rfl
  have i1 : ((1 : Nat) : Int) = 1 := rfl
  have i2 : ((2 : Nat) : Int) = 2 := rfl
  have i3 : ((3 : Nat) : Int) = 3 := rfl
  rw [i0] at hp0
  rw [i1] at hp1
  rw [i2] at hp2
  rw [i3] at hp3
  have s24 : min (24 : Int).toNat IntKind.i64.bits = 24 := rfl
  have s16 : min (16 : Int).toNat IntKind.i64.bits = 16 := rfl
  have s8 : min (8 : Int).toNat IntKind.i64.bits = 8 := rfl
  have c24 : ¬ (24 : Int) < 0 := by omega
  have c16 : ¬ (16 : Int) < 0 := by omega
  have c8 : ¬ (8 : Int) < 0 := by omega
  have wa := wrap_i64_of (x := (a.toNat : Int)) (by omega)
  have wb := wrap_i64_of (x := (b.toNat : Int)) (by omega)
  have wc := wrap_i64_of (x := (c.toNat : Int)) (by omega)
  have wd := wrap_i64_of (x := (d.toNat : Int)) (by omega)
  have xa := wrap_i64_of (x := (a.toNat : Int) * 2 ^ 24) (by omega)
  have xb := wrap_i64_of (x := (b.toNat : Int) * 2 ^ 16) (by omega)
  have xc := wrap_i64_of (x := (c.toNat : Int) * 2 ^ 8) (by omega)
  have y1 := wrap_i64_of (x := (a.toNat : Int) * 2 ^ 24 + (b.toNat : Int) * 2 ^ 16) (by omega)
  have y2 := wrap_i64_of (x := (a.toNat : Int) * 2 ^ 24 + (b.toNat : Int) * 2 ^ 16 + (c.toNat : Int) * 2 ^ 8) (by omega)
  have y3 := wrap_i64_of (x := (a.toNat : Int) * 2 ^ 24 + (b.toNat : Int) * 2 ^ 16 + (c.toNat : Int) * 2 ^ 8 + (d.toNat : Int)) (by omega)
  refine callFn_eq rfl rfl at79 rfl (by simp [Tryd.f79]) (by simp [Tryd.f79]) (G_start ?_)
  simp -implicitDefEqProofs only [Tryd.f79,Wa,Wb,Wc,Wd,We,Wf,Wg,Wh,Wi,Wj,Wk,Wl,Wm,Wn,Zo,Zp,evalT,Nat.reduceLT,Nat.reduceEqDiff,if_true,if_false,reduceIte,Ys,ofVal,ofCell,argT,resT,setT,Y0,Int.reduceEq,Int.reduceLT,Int.reduceLE,Int.reduceNeg,mb,Nat.reduceBEq,tys,stb,Va,storeList,Nat.reduceAdd,Nat.reduceLeDiff,tyj,vBin_xor,vBin_or,vBin_shl,vBin_shr,hp0,hp1,hp2,hp3,l0,l1,l2,l3,s24,s16,s8,c24,c16,c8,wa,wb,wc,wd,xa,xb,xc,y1,y2,y3]
  refine ⟨by kernel_rfl, ?_, trivial⟩
  rw [h4]
  simp [numF, oneOr]
  omega
end Go.Proofs.YtncohjljeoknkaaDoor.D
namespace Go.Proofs.YtncohjljeoknkaaDoor.D
open Go.Ab
set_option maxHeartbeats 8000000
set_option maxRecDepth 100000
set_option linter.unusedSimpArgs false
set_option linter.unusedVariables false
theorem at50 : env.P.funcs[50]? = some Tryd.f50 := by kernel_rfl
theorem at58 : env.P.funcs[58]? = some Tryd.f58 := by kernel_rfl
theorem at107 : env.P.funcs[107]? = some Tryd.f107 := by kernel_rfl
theorem byteV (m : Nat) : IntKind.u8.wrap (m : Int) = ((UInt8.ofNat m).toNat : Int) := by
  have h : IntKind.u8.wrap (m : Int) = (m : Int) % (2 ^ 8 : Int) := by
    show (let k := (m : Int) % (2 ^ 8 : Int); if false && decide (k ≥ 2 ^ 7) then k - 2 ^ 8 else k) = _
    simp only [Bool.false_and, Bool.false_eq_true, if_false]
  rw [h, UInt8.toNat_ofNat']
  omega
theorem fdivV (n k : Nat) : (n : Int).fdiv (2 ^ k) = ((n / 2 ^ k : Nat) : Int) := by
  rw [Int.fdiv_eq_ediv_of_nonneg _ (by exact Int.le_of_lt (Int.pow_pos (by omega)))]
  simp
def fourB (n : Nat) : List UInt8 := [UInt8.ofNat (n / 2 ^ 24), UInt8.ofNat (n / 2 ^ 16), UInt8.ofNat (n / 2 ^ 8), UInt8.ofNat n]
def twoB (n : Nat) : List UInt8 := [UInt8.ofNat (n / 2 ^ 8), UInt8.ofNat n]
theorem rowN {t e : TypeId} {z : V} (he : elemS env t = some e) (hs : sz env e = some 1) (hz : zeroV env e = some z) (hzc : z.cells = [z]) (vs : List V) (hv : ∀ v ∈ vs, v.cells = [v]) (hl : vs.length ≤ 8) (h0 : 0 < vs.length) (ps : List (Nat × V)) (hps : ps = (List.range vs.length).zip vs) :
    rowO env t vs.length ps = some (.row vs vs.length .full) := by
  subst hps
  unfold rowO
  have hn : ¬ vs.length * 1 = 0 := by omega
  have hlim : vs.length * 1 ≤ 2 ^ 24 := by omega
  simp only [he, hs, hz, hn, if_false, Option.bind_some, hzc, hlim, List.length_singleton, true_or, and_self, if_true]
  have key : vFill (fun i => some (i * 1, 1)) (List.replicate vs.length [z]).flatten ((List.range vs.length).zip vs) = some vs := by
    clear he hs hz hn hlim h0
    match vs, hl, hv with
    | [], _, _ => rfl
    | [a], _, hv => simp [vFill, List.range_succ, hv a (by simp)]
    | [a, b], _, hv => simp [vFill, List.range_succ, hv a (by simp), hv b (by simp)]
    | [a, b, c], _, hv => simp [vFill, List.range_succ, hv a (by simp), hv b (by simp), hv c (by simp)]
    | [a, b, c, d], _, hv => simp [vFill, List.range_succ, hv a (by simp), hv b (by simp), hv c (by simp), hv d (by simp)]
    | [a, b, c, d, e], _, hv => simp [vFill, List.range_succ, hv a (by simp), hv b (by simp), hv c (by simp), hv d (by simp), hv e (by simp)]
    | [a, b, c, d, e, f], _, hv => simp [vFill, List.range_succ, hv a (by simp), hv b (by simp), hv c (by simp), hv d (by simp), hv e (by simp), hv f (by simp)]
    | [a, b, c, d, e, f, g], _, hv => simp [vFill, List.range_succ, hv a (by simp), hv b (by simp), hv c (by simp), hv d (by simp), hv e (by simp), hv f (by simp), hv g (by simp)]
    | [a, b, c, d, e, f, g, h], _, hv => simp [vFill, List.range_succ, hv a (by simp), hv b (by simp), hv c (by simp), hv d (by simp), hv e (by simp), hv f (by simp), hv g (by simp), hv h (by simp)]
  rw [key]; rfl
theorem row26 (vs : List V) (hv : ∀ v ∈ vs, v.cells = [v]) (hl : vs.length ≤ 8) (h0 : 0 < vs.length) (ps : List (Nat × V)) (hps : ps = (List.range vs.length).zip vs) : rowO env 26 vs.length ps = some (.row vs vs.length .full) := rowN e26 s5 zv5 rfl vs hv hl h0 ps hps
theorem row26_2 (a b : Int) : rowO env 26 2 [(0, .int .u8 a), (1, .int .u8 b)] = some (.row [.int .u8 a, .int .u8 b] 2 .full) := row26 [_, _] (by simp [V.cells]) (by simp) (by simp) _ rfl
theorem row26_4 (a b c d : Int) : rowO env 26 4 [(0, .int .u8 a), (1, .int .u8 b), (2, .int .u8 c), (3, .int .u8 d)] = some (.row [.int .u8 a, .int .u8 b, .int .u8 c, .int .u8 d] 4 .full) := row26 [_, _, _, _] (by simp [V.cells]) (by simp) (by simp) _ rfl
theorem fourV (n : Nat) : V.row [.int .u8 (IntKind.u8.wrap ((n : Int).fdiv (2 ^ 24))), .int .u8 (IntKind.u8.wrap ((n : Int).fdiv (2 ^ 16))), .int .u8 (IntKind.u8.wrap ((n : Int).fdiv (2 ^ 8))), .int .u8 (IntKind.u8.wrap (n : Int))] 4 .full = .row (byteCells (fourB n)) 4 .full := by
  rw [fdivV, fdivV, fdivV, byteV, byteV, byteV, byteV]; rfl
theorem twoV (n : Nat) : V.row [.int .u8 (IntKind.u8.wrap ((n : Int).fdiv (2 ^ 8))), .int .u8 (IntKind.u8.wrap (n : Int))] 2 .full = .row (byteCells (twoB n)) 2 .full := by
  rw [fdivV, byteV, byteV]; rfl
theorem m24 : min (24 : Int).toNat IntKind.u32.bits = 24 := rfl
theorem m16 : min (16 : Int).toNat IntKind.u32.bits = 16 := rfl
theorem m8 : min (8 : Int).toNat IntKind.u32.bits = 8 := rfl
theorem m8i : min (8 : Int).toNat IntKind.i64.bits = 8 := rfl
theorem c24 : ¬ (24 : Int) < 0 := by omega
theorem c16 : ¬ (16 : Int) < 0 := by omega
theorem c8 : ¬ (8 : Int) < 0 := by omega
theorem four_call (n : Nat) (σ : S) : callFn env (ev env) 59 [.int .u32 n] σ = some (.row (byteCells (fourB n)) 4 .full, σ) := by
  refine callFn_eq rfl rfl at59 rfl (by simp [Tryd.f59]) (by simp [Tryd.f59]) (G_start ?_)
  simp -implicitDefEqProofs only [Tryd.f59,Wa,Wb,Wc,Wd,We,Wf,Wg,Wh,Wi,Wj,Wk,Wl,Wm,Wn,Zo,Zp,evalT,Nat.reduceLT,Nat.reduceEqDiff,if_true,if_false,reduceIte,Ys,ofVal,ofCell,argT,resT,setT,Y0,Int.reduceEq,Int.reduceLT,Int.reduceLE,Int.reduceNeg,mb,Nat.reduceBEq,tys,stb,Va,storeList,Nat.reduceAdd,Nat.reduceLeDiff,tyj,vBin_xor,vBin_or,vBin_shl,vBin_shr,c24,c16,c8,m24,m16,m8,opT_rowB,row26_4]
  exact ⟨fourV n, trivial⟩
theorem rfour_call (n : Nat) (σ : S) : callFn env (ev env) 83 [.int .u32 n] σ = some (.row (byteCells (fourB n)) 4 .full, σ) := by
  refine callFn_eq rfl rfl at83 rfl (by simp [Tryd.f83]) (by simp [Tryd.f83]) (G_start ?_)
  simp -implicitDefEqProofs only [Tryd.f83,Wa,Wb,Wc,Wd,We,Wf,Wg,Wh,Wi,Wj,Wk,Wl,Wm,Wn,Zo,Zp,evalT,Nat.reduceLT,Nat.reduceEqDiff,if_true,if_false,reduceIte,Ys,ofVal,ofCell,argT,resT,setT,Y0,Int.reduceEq,Int.reduceLT,Int.reduceLE,Int.reduceNeg,mb,Nat.reduceBEq,tys,stb,Va,storeList,Nat.reduceAdd,Nat.reduceLeDiff,tyj,vBin_xor,vBin_or,vBin_shl,vBin_shr,c24,c16,c8,m24,m16,m8,opT_rowB,row26_4]
  exact ⟨fourV n, trivial⟩
structure Rec where
  k : Int
  fs : List (List UInt8)
def Fld (fv : V) (fs : List (List UInt8)) : Prop := (fv = .nilsl ∧ fs = []) ∨ ∃ cap, fv = .row (fs.map .str) fs.length cap
theorem Fld.len {fv : V} {fs : List (List UInt8)} (h : Fld fv fs) (e : TypeId) : vLenT (some (.slice e)) fv = some (.int .i64 fs.length) := by
  rcases h with ⟨rfl, rfl⟩ | ⟨cap, rfl⟩ <;> rfl
theorem Fld.cells {fv : V} {fs : List (List UInt8)} (h : Fld fv fs) : fv.cells = [fv] := by
  rcases h with ⟨rfl, rfl⟩ | ⟨cap, rfl⟩ <;> rfl
theorem Fld.isCell {fv : V} {fs : List (List UInt8)} (h : Fld fv fs) : fv.isCell = true := by
  rcases h with ⟨rfl, rfl⟩ | ⟨cap, rfl⟩ <;> rfl
theorem Fld.idx {fv : V} {fs : List (List UInt8)} (h : Fld fv fs) {i : Nat} (hi : i < fs.length) (H : List AObj) : ∃ p, vIndexAddr 1 fv (.int .i64 (i : Int)) = some p ∧ (loadCellsV H 1 p).bind (·[0]?) = some (.str fs[i]) := by
  rcases h with ⟨rfl, rfl⟩ | ⟨cap, rfl⟩
  · simp at hi
  · refine ⟨.rptr ((fs.map .str).drop (i * 1)), by simp [vIndexAddr, hi], ?_⟩
    rw [Yz, Nat.mul_one]
    simp [hi]
def fldB (f : List UInt8) : List UInt8 := twoB f.length ++ f
def payB (r : Rec) : List UInt8 := [UInt8.ofNat r.k.toNat, UInt8.ofNat r.fs.length] ++ r.fs.flatMap fldB
def payN (fs : List (List UInt8)) : Nat := 2 + (fs.map fun f => 2 + f.length).sum
theorem payB_len (r : Rec) : (payB r).length = payN r.fs := by
  unfold payB payN
  rw [List.length_append, List.length_flatMap]
  simp [fldB, twoB]
  exact congrArg List.sum (List.map_congr_left fun a _ => by omega)
structure Sink (sv : V) (f : FuncId) (p : V) (I : List AObj → List UInt8 → (Nat → Prop) → Prop) (N : Nat) : Prop where
  meth : methV env sv "Write" = some (f, p)
  app : ∀ L X s F, I L s F → I (L ++ X) s F
  lt : ∀ L s F q, I L s F → F q → q < L.length
  write : ∀ L ts s F t cap, I L s F → s.length + t.length ≤ N → ∃ L' F', callFn env (ev env) f [p, .row (byteCells t) t.length cap] ⟨L, ts⟩ = some (.tup [.int .i64 t.length, .nilif], ⟨L', ts⟩) ∧ I L' (s ++ t) F' ∧ Step L L' F F'
theorem lenS (s : List UInt8) : vLenT (some .string) (.str s) = some (.int .i64 s.length) := rfl
theorem take_fld (fs : List (List UInt8)) (i : Nat) (h : i < fs.length) : (fs.take (i + 1)).flatMap fldB = (fs.take i).flatMap fldB ++ (twoB fs[i].length ++ fs[i]) := by
  rw [List.take_succ_eq_append_getElem h, List.flatMap_append]
  simp [fldB]
theorem flat_len (fs : List (List UInt8)) (i : Nat) : ((fs.take i).flatMap fldB).length ≤ (fs.flatMap fldB).length := by
  have : fs.flatMap fldB = (fs.take i).flatMap fldB ++ (fs.drop i).flatMap fldB := by rw [← List.flatMap_append, List.take_append_drop]
  rw [this, List.length_append]; omega
theorem convB (σ : S) (s : List UInt8) : convO env σ 9 26 (some .string) (some (.slice 5)) (.str s) = some (.row (byteCells s) s.length .unk, σ) := convO_bytes u5
theorem payload_call {sv p : V} {f : FuncId} {I : List AObj → List UInt8 → (Nat → Prop) → Prop} {N : Nat} (hS : Sink sv f p I N) {L : List AObj} {ts : List Nat} {F : Nat → Prop} {r : Rec} {fv : V} (hI : I L [] F) (hf : Fld fv r.fs) (hk : 0 ≤ r.k) (hN : payN r.fs ≤ N) (hfl : r.fs.length ≤ 2 ^ 38) (hfl2 : ∀ x ∈ r.fs, x.length ≤ 2 ^ 38) :
    ∃ L' F', callFn env (ev env) 58 [sv, .agg [.int .i64 r.k, fv]] ⟨L, ts⟩ = some (.tup [], ⟨L', ts⟩) ∧ I L' (payB r) F' ∧ Step L L' F F' := by
  have hI0 := hS.app L [.cells [.int .i64 r.k, fv] 55] [] F hI
  have hkn : ((r.k.toNat : Nat) : Int) = r.k := by omega
  have hb0 : V.row [.int .u8 (IntKind.u8.wrap r.k), .int .u8 (IntKind.u8.wrap (r.fs.length : Int))] 2 .full = .row (byteCells [UInt8.ofNat r.k.toNat, UInt8.ofNat r.fs.length]) 2 .full := by
    rw [← hkn, byteV, byteV]; rfl
  have hpl := payB_len r
  have hpl2 : (payB r).length = 2 + (r.fs.flatMap fldB).length := by unfold payB; rw [List.length_append]; rfl
  obtain ⟨L1, F1, hW1, hI1, hS1⟩ := hS.write _ ts [] F [UInt8.ofNat r.k.toNat, UInt8.ofNat r.fs.length] .full hI0 (by simp; omega)
  rw [List.nil_append] at hI1
  simp only [List.length_cons, List.length_nil, Nat.zero_add, Nat.reduceAdd] at hW1
  have hne : ∀ q, F q → q ≠ L.length := fun q hq => by have := hS.lt _ _ _ q hI hq; omega
  have hbox1 : L1[L.length]? = some (.cells [.int .i64 r.k, fv] 55) := by
    rw [hS1.2.1 L.length (by simp) (fun h => hne _ h rfl)]; simp
  have hF1 : ∀ q, F1 q → q ≠ L.length := fun q hq => by
    rcases hS1.2.2 q hq with h | h
    · exact hne q h
    · simp at h; omega
  have hlen := hf.len 9
  have hlast : ∀ o, (L ++ [o])[L.length]? = some o := fun o => by simp
  have e0 : (loadCellsV (L ++ [AObj.cells [.int .i64 r.k, fv] 55]) 1 (.ptr L.length 0)).bind (·[0]?) = some (.int .i64 r.k) := by rw [YA, hlast]; rfl
  suffices H : ∃ L' F', (∃ q1 q2, callFn env (ev env) 58 [sv, .agg [.int .i64 r.k, fv]] ⟨L, ts⟩ = some (q1, q2) ∧ q1 = .tup [] ∧ q2 = ⟨L', ts⟩) ∧ I L' (payB r) F' ∧ Step L1 L' F1 F' by
    obtain ⟨L', F', ⟨q1, q2, hc, rfl, rfl⟩, h2, h3⟩ := H
    have h4 := hS1.trans h3
    refine ⟨L', F', hc, h2, ?_⟩
    obtain ⟨a1, a2, a3⟩ := h4
    simp only [List.length_append, List.length_singleton] at a1 a2 a3
    exact ⟨by omega, fun q hq hn => by rw [a2 q (by omega) hn, List.getElem?_append_left hq], fun q hq => (a3 q hq).imp id (by omega)⟩
  have hk2 : ∃ v σ', callFn env (ev env) 58 [sv, .agg [.int .i64 r.k, fv]] ⟨L, ts⟩ = some (v, σ') ∧ (v = .tup [] ∧ ∃ L' F', σ' = ⟨L', ts⟩ ∧ I L' (payB r) F' ∧ Step L1 L' F1 F') := by
    refine callFn_any rfl rfl at58 rfl (by simp [Tryd.f58]) (by simp [Tryd.f58]) (G_start ?_)
    simp -implicitDefEqProofs only [Tryd.f58,Wa,Wb,Wc,Wd,We,Wf,Wg,Wh,Wi,Wj,Wk,Wl,Wm,Wn,Zo,Zp,evalT,Nat.reduceLT,Nat.reduceEqDiff,if_true,if_false,reduceIte,Ys,ofVal,ofCell,argT,resT,setT,Y0,Int.reduceEq,Int.reduceLT,Int.reduceLE,Int.reduceNeg,mb,Nat.reduceBEq,tys,stb,Va,storeList,Nat.reduceAdd,Nat.reduceLeDiff,tyj,vBin_xor,vBin_or,vBin_shl,vBin_shr,hlast,e0,hlen,opT_rowB,row26_2,hb0,opT_invoke,hS.meth,hW1,hbox1]
    refine loop_rule (fun m T D σ => D = [] ∧ T 0 = sv ∧ T 17 = fv ∧ T 18 = .int .i64 r.fs.length ∧ ∃ (i : Nat) (L' : List AObj) (F' : Nat → Prop), i ≤ r.fs.length ∧ m = r.fs.length - i ∧ T 19 = .int .i64 i ∧ σ = ⟨L', ts⟩ ∧ I L' ([UInt8.ofNat r.k.toNat, UInt8.ofNat r.fs.length] ++ (r.fs.take i).flatMap fldB) F' ∧ Step L1 L' F1 F') ?_ r.fs.length _ _ _ ⟨rfl, rfl, rfl, rfl, 0, L1, F1, by omega, rfl, rfl, rfl, hI1, Step.refl _ _⟩
    rintro m T D σ ⟨rfl, t0, t17, t18, i, L2, F2, hi, rfl, t19, rfl, hI2, hS2⟩
    refine G_start ?_
    by_cases hlt : i < r.fs.length
    · have c1 : (i : Int) < (r.fs.length : Int) := by omega
      have w1 : IntKind.wrap .i64 ((i : Int) + 1) = ((i + 1 : Nat) : Int) := by rw [B.wrap64 (by omega)]; omega
      obtain ⟨pp, hp, hld⟩ := hf.idx hlt L2
      have htk := take_fld r.fs i hlt
      have htl := flat_len r.fs (i + 1)
      rw [htk] at htl
      simp only [List.length_append] at htl
      obtain ⟨L3, F3, hW3, hI3, hS3⟩ := hS.write L2 ts _ F2 (twoB r.fs[i].length) .full hI2 (by simp only [List.length_append, List.length_cons, List.length_nil]; omega)
      obtain ⟨L4, F4, hW4, hI4, hS4⟩ := hS.write L3 ts _ F3 r.fs[i] .unk hI3 (by simp only [List.length_append, List.length_cons, List.length_nil]; omega)
      have htw := twoV r.fs[i].length
      have htwl : (twoB r.fs[i].length).length = 2 := rfl
      rw [htwl] at hW3
      simp -implicitDefEqProofs only [Wa,Wb,Wc,Wd,We,Wf,Wg,Wh,Wi,Wj,Wk,Wl,Wm,Wn,Zo,Zp,evalT,Nat.reduceLT,Nat.reduceEqDiff,if_true,if_false,reduceIte,Ys,ofVal,ofCell,argT,resT,setT,Y0,Int.reduceEq,Int.reduceLT,Int.reduceLE,Int.reduceNeg,mb,Nat.reduceBEq,tys,stb,Va,storeList,Nat.reduceAdd,Nat.reduceLeDiff,tyj,vBin_xor,vBin_or,vBin_shl,vBin_shr,t0,t17,t18,t19,c1,hp,hld,w1,lenS,c8,m8i,opT_rowB,row26_2,htw,opT_invoke,hS.meth,hW3,convB,hW4]
      refine ⟨r.fs.length - (i + 1), by omega, i + 1, L4, F4, by omega, rfl, rfl, rfl, ?_, (hS2.trans hS3).trans hS4⟩
      rw [htk]
      simpa [List.append_assoc] using hI4
    · have c1 : ¬ (i : Int) < (r.fs.length : Int) := by omega
      have hi2 : i = r.fs.length := by omega
      subst hi2
      rw [List.take_length] at hI2
      simp -implicitDefEqProofs only [Wa,Wb,Wc,Wd,We,Wf,Wg,Wh,Wi,Wj,Wk,Wl,Wm,Wn,Zo,Zp,evalT,Nat.reduceLT,Nat.reduceEqDiff,if_true,if_false,reduceIte,Ys,ofVal,ofCell,argT,resT,setT,Y0,Int.reduceEq,Int.reduceLT,Int.reduceLE,Int.reduceNeg,mb,Nat.reduceBEq,tys,stb,Va,storeList,Nat.reduceAdd,Nat.reduceLeDiff,tyj,vBin_xor,vBin_or,vBin_shl,vBin_shr,t17,t18,t19,c1]
      exact ⟨rfl, L2, F2, rfl, hI2, hS2⟩
  obtain ⟨v, σ', h1, rfl, L', F', rfl, h2, h3⟩ := hk2
  exact ⟨L', F', ⟨_, _, h1, rfl, rfl⟩, h2, h3⟩
end Go.Proofs.YtncohjljeoknkaaDoor.D
namespace Go.Proofs.YtncohjljeoknkaaDoor.D
open Go.Ab
set_option maxHeartbeats 8000000
set_option maxRecDepth 100000
set_option linter.unusedSimpArgs false
set_option linter.unusedVariables false
theorem at39 : env.P.funcs[39]? = some Tryd.f39 := by kernel_rfl
theorem at62 : env.P.funcs[62]? = some Tryd.f62 := by kernel_rfl
theorem at63 : env.P.funcs[63]? = some Tryd.f63 := by kernel_rfl
theorem at76 : env.P.funcs[76]? = some Tryd.f76 := by kernel_rfl
theorem at82 : env.P.funcs[82]? = some Tryd.f82 := by kernel_rfl
theorem u101 : env.P.underlying 101 = some (.int .i64) := by kernel_rfl
theorem s101 : sz env 101 = some 1 := by kernel_rfl
theorem z101 : zeroV env 101 = some (.int .i64 0) := by kernel_rfl
theorem mk102 (v : V) : mkIfO env 102 v = some (.iface 102 v) := mkIf_ptr (e := 101) (by kernel_rfl) v
theorem mk92 (v : V) : mkIfO env 92 v = some (.iface 92 v) := mkIf_ptr (e := 47) (by kernel_rfl) v
def CntI (c : Nat) (L : List AObj) (s : List UInt8) (F : Nat → Prop) : Prop := L[c]? = some (.cells [.int .i64 s.length] 101) ∧ F = fun q => q = c
theorem counter_sink (c : Nat) : Sink (.iface 102 (.ptr c 0)) 107 (.ptr c 0) (CntI c) (2 ^ 40) where
  meth := by kernel_rfl
  app := fun L X s F h => ⟨by rw [List.getElem?_append_left (B.lt_get h.1)]; exact h.1, h.2⟩
  lt := fun L s F q h hq => by
    obtain ⟨h1, rfl⟩ := h
    have hq : q = c := hq
    subst hq
    exact B.lt_get h1
  write := fun L ts s F t cap h hl => by
    obtain ⟨h1, rfl⟩ := h
    refine ⟨L.set c (.cells [.int .i64 (s ++ t).length] 101), _, ?_, ⟨List.getElem?_set_self (B.lt_get h1), rfl⟩, step_set _ rfl⟩
    have w1 : IntKind.wrap .i64 ((s.length : Int) + (t.length : Int)) = ((s ++ t).length : Int) := by rw [List.length_append, B.wrap64 (by omega)]; omega
    refine callFn_eq rfl rfl at107 rfl (by simp [Tryd.f107]) (by simp [Tryd.f107]) (G_start ?_)
    simp -implicitDefEqProofs only [Tryd.f107,Wa,Wb,Wc,Wd,We,Wf,Wg,Wh,Wi,Wj,Wk,Wl,Wm,Wn,Zo,Zp,evalT,Nat.reduceLT,Nat.reduceEqDiff,if_true,if_false,reduceIte,Ys,ofVal,ofCell,argT,resT,setT,Y0,Int.reduceEq,Int.reduceLT,Int.reduceLE,Int.reduceNeg,mb,Nat.reduceBEq,tys,stb,Va,storeList,Nat.reduceAdd,Nat.reduceLeDiff,tyj,vBin_xor,vBin_or,vBin_shl,vBin_shr,opT_nilCheck,nilO_ptr,h1,u101,s101,w1]
    exact ⟨by kernel_rfl, rfl, trivial⟩
def BufI (b : Nat) (L : List AObj) (s : List UInt8) (F : Nat → Prop) : Prop := ∃ bv lr, L[b]? = some (.cells [bv, .int .i64 0, .int .i8 lr] 47) ∧ BufV L bv s ∧ blkOf bv ≠ some b ∧ F = fun q => q = b ∨ blkOf bv = some q
theorem buffer_sink (b : Nat) : Sink (.iface 92 (.ptr b 0)) 50 (.ptr b 0) (BufI b) (2 ^ 38) where
  meth := by kernel_rfl
  app := fun L X s F ⟨bv, lr, h1, h2, h3, h4⟩ => ⟨bv, lr, by rw [List.getElem?_append_left (B.lt_get h1)]; exact h1, h2.move fun q hq => by rw [List.getElem?_append_left (h2.rd.lt hq)], h3, h4⟩
  lt := fun L s F q ⟨bv, lr, h1, h2, h3, h4⟩ hq => by
    rw [h4] at hq
    rcases hq with rfl | hq
    · exact B.lt_get h1
    · exact h2.rd.lt hq
  write := fun L ts s F t cap ⟨bv, lr, h1, h2, h3, h4⟩ hl => by
    obtain ⟨bv', L', hW, hc, hB, hle, hfr, hfrom⟩ := write_call (ts := ts) (rest := []) h1 h2 h3 (Rd.row L t cap) (by simp [blkOf]) hl
    have hbl := B.lt_get h1
    refine ⟨L', _, hW, ⟨bv', 0, hc, hB, ?_, rfl⟩, hle, fun q hq hn => ?_, fun q hq => ?_⟩
    · rcases hfrom with e | ⟨p, e1, e2⟩
      · rw [e]; exact h3
      · rw [e1]; rintro ⟨⟩; omega
    · subst h4
      exact hfr q hq (fun e => hn (.inl e)) (fun e => hn (.inr e))
    · subst h4
      rcases hq with rfl | hq
      · exact .inl (.inl rfl)
      · rcases hfrom with e | ⟨p, e1, e2⟩
        · exact .inl (.inr (by rw [← e]; exact hq))
        · rw [e1] at hq; cases hq; exact .inr e2
def longF (fs : List (List UInt8)) : Bool := fs.any fun f => decide (60000 < f.length)
def chkR (r : Rec) : Int := if r.k < 0 ∨ 255 < r.k then 2 else if 64 < r.fs.length then 4 else if longF r.fs then 4 else if 200000 < payN r.fs + 8 then 4 else 0
theorem small_call (s : List UInt8) (σ : S) : callFn env (ev env) 63 [.str s] σ = some (.bool (decide (60000 < s.length)), σ) := by
  refine callFn_eq rfl rfl at63 rfl (by simp [Tryd.f63]) (by simp [Tryd.f63]) (G_start ?_)
  have e : (decide ((60000 : Int) < (s.length : Int))) = decide (60000 < s.length) := by
    by_cases h : 60000 < s.length
    · rw [decide_eq_true h, decide_eq_true (by omega)]
    · rw [decide_eq_false h, decide_eq_false (by omega)]
  simp -implicitDefEqProofs only [Tryd.f63,Wa,Wb,Wc,Wd,We,Wf,Wg,Wh,Wi,Wj,Wk,Wl,Wm,Wn,Zo,Zp,evalT,Nat.reduceLT,Nat.reduceEqDiff,if_true,if_false,reduceIte,Ys,ofVal,ofCell,argT,resT,setT,Y0,Int.reduceEq,Int.reduceLT,Int.reduceLE,Int.reduceNeg,mb,Nat.reduceBEq,tys,stb,Va,storeList,Nat.reduceAdd,Nat.reduceLeDiff,tyj,vBin_xor,vBin_or,vBin_shl,vBin_shr,lenS,e]
  exact ⟨rfl, trivial⟩
theorem index_call {fv : V} {fs : List (List UInt8)} (h : Fld fv fs) (hl : fs.length ≤ 2 ^ 38) (σ : S) : ∃ n : Int, callFn env (ev env) 76 [fv, .func 63 [] []] σ = some (.int .i64 n, σ) ∧ (decide (0 ≤ n)) = longF fs := by
  have hk : ∃ v σ', callFn env (ev env) 76 [fv, .func 63 [] []] σ = some (v, σ') ∧ ∃ n : Int, v = .int .i64 n ∧ σ' = σ ∧ (decide (0 ≤ n)) = longF fs := by
    refine callFn_any rfl rfl at76 rfl (by simp [Tryd.f76]) (by simp [Tryd.f76]) (G_start ?_)
    have hlen := h.len 9
    obtain ⟨L, ts⟩ := σ
    simp -implicitDefEqProofs only [Tryd.f76,Wa,Wb,Wc,Wd,We,Wf,Wg,Wh,Wi,Wj,Wk,Wl,Wm,Wn,Zo,Zp,evalT,Nat.reduceLT,Nat.reduceEqDiff,if_true,if_false,reduceIte,Ys,ofVal,ofCell,argT,resT,setT,Y0,Int.reduceEq,Int.reduceLT,Int.reduceLE,Int.reduceNeg,mb,Nat.reduceBEq,tys,stb,Va,storeList,Nat.reduceAdd,Nat.reduceLeDiff,tyj,vBin_xor,vBin_or,vBin_shl,vBin_shr,hlen]
    refine loop_rule (fun m T D σ => D = [] ∧ σ = ⟨L, ts⟩ ∧ T 0 = fv ∧ T 1 = .func 63 [] [] ∧ T 7 = .int .i64 fs.length ∧ ∃ i : Nat, i ≤ fs.length ∧ m = fs.length - i ∧ T 8 = .int .i64 i ∧ longF fs = longF (fs.drop i)) ?_ fs.length _ _ _ ⟨rfl, rfl, rfl, rfl, rfl, 0, by omega, rfl, rfl, rfl⟩
    rintro m T D σ ⟨rfl, rfl, t0, t1, t7, i, hi, rfl, t8, hany⟩
    refine G_start ?_
    by_cases hlt : i < fs.length
    · have c1 : (i : Int) < (fs.length : Int) := by omega
      have w1 : IntKind.wrap .i64 ((i : Int) + 1) = ((i + 1 : Nat) : Int) := by rw [B.wrap64 (by omega)]; omega
      obtain ⟨p, hp, hld⟩ := h.idx hlt L
      have hS := small_call fs[i] ⟨L, ts⟩
      have hd : fs.drop i = fs[i] :: fs.drop (i + 1) := List.drop_eq_getElem_cons hlt
      by_cases cb : 60000 < fs[i].length
      · have hr : longF fs = true := by rw [hany, hd]; simp only [longF, List.any_cons, decide_eq_true cb, Bool.true_or]
        rw [decide_eq_true cb] at hS
        simp -implicitDefEqProofs only [Wa,Wb,Wc,Wd,We,Wf,Wg,Wh,Wi,Wj,Wk,Wl,Wm,Wn,Zo,Zp,evalT,Nat.reduceLT,Nat.reduceEqDiff,if_true,if_false,reduceIte,Ys,ofVal,ofCell,argT,resT,setT,Y0,Int.reduceEq,Int.reduceLT,Int.reduceLE,Int.reduceNeg,mb,Nat.reduceBEq,tys,stb,Va,storeList,Nat.reduceAdd,Nat.reduceLeDiff,tyj,vBin_xor,vBin_or,vBin_shl,vBin_shr,t0,t1,t7,t8,c1,hp,hld,hS,w1]
        exact ⟨_, rfl, by rw [hr]; simp⟩
      · rw [decide_eq_false cb] at hS
        simp -implicitDefEqProofs only [Wa,Wb,Wc,Wd,We,Wf,Wg,Wh,Wi,Wj,Wk,Wl,Wm,Wn,Zo,Zp,evalT,Nat.reduceLT,Nat.reduceEqDiff,if_true,if_false,reduceIte,Ys,ofVal,ofCell,argT,resT,setT,Y0,Int.reduceEq,Int.reduceLT,Int.reduceLE,Int.reduceNeg,mb,Nat.reduceBEq,tys,stb,Va,storeList,Nat.reduceAdd,Nat.reduceLeDiff,tyj,vBin_xor,vBin_or,vBin_shl,vBin_shr,t0,t1,t7,t8,c1,hp,hld,hS,w1]
        exact ⟨fs.length - (i + 1), by omega, i + 1, by omega, rfl, rfl, by rw [hany, hd]; simp only [longF, List.any_cons, decide_eq_false cb, Bool.false_or]⟩
    · have c1 : ¬ (i : Int) < (fs.length : Int) := by omega
      have hr : longF fs = false := by rw [hany, List.drop_of_length_le (by omega)]; rfl
      simp -implicitDefEqProofs only [Wa,Wb,Wc,Wd,We,Wf,Wg,Wh,Wi,Wj,Wk,Wl,Wm,Wn,Zo,Zp,evalT,Nat.reduceLT,Nat.reduceEqDiff,if_true,if_false,reduceIte,Ys,ofVal,ofCell,argT,resT,setT,Y0,Int.reduceEq,Int.reduceLT,Int.reduceLE,Int.reduceNeg,mb,Nat.reduceBEq,tys,stb,Va,storeList,Nat.reduceAdd,Nat.reduceLeDiff,tyj,vBin_xor,vBin_or,vBin_shl,vBin_shr,t7,t8,c1]
      exact ⟨_, rfl, by rw [hr]; rfl⟩
  obtain ⟨v, σ', h1, n, rfl, rfl, h2⟩ := hk
  exact ⟨n, h1, h2⟩
theorem contains_call {fv : V} {fs : List (List UInt8)} (h : Fld fv fs) (hl : fs.length ≤ 2 ^ 38) (σ : S) : callFn env (ev env) 62 [fv, .func 63 [] []] σ = some (.bool (longF fs), σ) := by
  obtain ⟨n, h1, h2⟩ := index_call h hl σ
  refine callFn_eq rfl rfl at62 rfl (by simp [Tryd.f62]) (by simp [Tryd.f62]) (G_start ?_)
  simp -implicitDefEqProofs only [Tryd.f62,Wa,Wb,Wc,Wd,We,Wf,Wg,Wh,Wi,Wj,Wk,Wl,Wm,Wn,Zo,Zp,evalT,Nat.reduceLT,Nat.reduceEqDiff,if_true,if_false,reduceIte,Ys,ofVal,ofCell,argT,resT,setT,Y0,Int.reduceEq,Int.reduceLT,Int.reduceLE,Int.reduceNeg,mb,Nat.reduceBEq,tys,stb,Va,storeList,Nat.reduceAdd,Nat.reduceLeDiff,tyj,vBin_xor,vBin_or,vBin_shl,vBin_shr,h1,h2]
  exact ⟨rfl, trivial⟩
theorem payN_le {fs : List (List UInt8)} (h : fs.length ≤ 64) (h2 : longF fs = false) : payN fs ≤ 4000000 := by
  have key : ∀ fs : List (List UInt8), longF fs = false → (fs.map fun f => 2 + f.length).sum ≤ fs.length * 60002 := by
    intro fs
    induction fs with
    | nil => intro _; simp
    | cons f fs ih =>
      intro hf
      simp only [longF, List.any_cons, Bool.or_eq_false_iff, decide_eq_false_iff_not] at hf ih
      have := ih hf.2
      simp only [List.map_cons, List.sum_cons, List.length_cons]
      omega
  have := key fs h2
  unfold payN
  omega
theorem short_of {fs : List (List UInt8)} (h : longF fs = false) : ∀ x ∈ fs, x.length ≤ 2 ^ 38 := fun x hx => by
  simp only [longF, List.any_eq_false, decide_eq_true_eq] at h
  have := h x hx
  omega
theorem Step.keep {L L' : List AObj} {F F' : Nat → Prop} {n : Nat} (h : Step L L' F F') (hF : ∀ q, F q → n ≤ q) (hn : n ≤ L.length) : n ≤ L'.length ∧ ∀ q, q < n → L'[q]? = L[q]? :=
  ⟨Nat.le_trans hn h.1, fun q hq => h.2.1 q (by omega) fun hf => by have := hF q hf; omega⟩
theorem check_call {L : List AObj} {ts : List Nat} {r : Rec} {fv : V} (hf : Fld fv r.fs) (hl : r.fs.length ≤ 2 ^ 38) : ∃ L', callFn env (ev env) 39 [.agg [.int .i64 r.k, fv]] ⟨L, ts⟩ = some (.int .i64 (chkR r), ⟨L', ts⟩) ∧ Keep L L' := by
  have hlen := hf.len 9
  have hlast : ∀ o, (L ++ [o])[L.length]? = some o := fun o => by simp
  unfold chkR
  by_cases k0 : r.k < 0
  · rw [if_pos (.inl k0)]
    refine ⟨_, ?_, Keep.app L [.cells [.int .i64 r.k, fv] 55]⟩
    refine callFn_eq rfl rfl at39 rfl (by simp [Tryd.f39]) (by simp [Tryd.f39]) (G_start ?_)
    simp -implicitDefEqProofs only [Tryd.f39,Wa,Wb,Wc,Wd,We,Wf,Wg,Wh,Wi,Wj,Wk,Wl,Wm,Wn,Zo,Zp,evalT,Nat.reduceLT,Nat.reduceEqDiff,if_true,if_false,reduceIte,Ys,ofVal,ofCell,argT,resT,setT,Y0,Int.reduceEq,Int.reduceLT,Int.reduceLE,Int.reduceNeg,mb,Nat.reduceBEq,tys,stb,Va,storeList,Nat.reduceAdd,Nat.reduceLeDiff,tyj,vBin_xor,vBin_or,vBin_shl,vBin_shr,hlast,k0]
    exact ⟨rfl, trivial⟩
  by_cases k1 : 255 < r.k
  · rw [if_pos (.inr k1)]
    refine ⟨_, ?_, Keep.app L [.cells [.int .i64 r.k, fv] 55]⟩
    refine callFn_eq rfl rfl at39 rfl (by simp [Tryd.f39]) (by simp [Tryd.f39]) (G_start ?_)
    simp -implicitDefEqProofs only [Tryd.f39,Wa,Wb,Wc,Wd,We,Wf,Wg,Wh,Wi,Wj,Wk,Wl,Wm,Wn,Zo,Zp,evalT,Nat.reduceLT,Nat.reduceEqDiff,if_true,if_false,reduceIte,Ys,ofVal,ofCell,argT,resT,setT,Y0,Int.reduceEq,Int.reduceLT,Int.reduceLE,Int.reduceNeg,mb,Nat.reduceBEq,tys,stb,Va,storeList,Nat.reduceAdd,Nat.reduceLeDiff,tyj,vBin_xor,vBin_or,vBin_shl,vBin_shr,hlast,k0,k1]
    exact ⟨rfl, trivial⟩
  rw [if_neg (by omega)]
  by_cases c1 : 64 < r.fs.length
  · rw [if_pos c1]
    have c1' : (64 : Int) < (r.fs.length : Int) := by omega
    refine ⟨_, ?_, Keep.app L [.cells [.int .i64 r.k, fv] 55]⟩
    refine callFn_eq rfl rfl at39 rfl (by simp [Tryd.f39]) (by simp [Tryd.f39]) (G_start ?_)
    simp -implicitDefEqProofs only [Tryd.f39,Wa,Wb,Wc,Wd,We,Wf,Wg,Wh,Wi,Wj,Wk,Wl,Wm,Wn,Zo,Zp,evalT,Nat.reduceLT,Nat.reduceEqDiff,if_true,if_false,reduceIte,Ys,ofVal,ofCell,argT,resT,setT,Y0,Int.reduceEq,Int.reduceLT,Int.reduceLE,Int.reduceNeg,mb,Nat.reduceBEq,tys,stb,Va,storeList,Nat.reduceAdd,Nat.reduceLeDiff,tyj,vBin_xor,vBin_or,vBin_shl,vBin_shr,hlast,k0,k1,hlen,c1']
    exact ⟨rfl, trivial⟩
  rw [if_neg c1]
  have c1' : ¬ (64 : Int) < (r.fs.length : Int) := by omega
  have hC := contains_call hf hl ⟨L ++ [.cells [.int .i64 r.k, fv] 55], ts⟩
  cases hlg : longF r.fs with
  | true =>
    rw [hlg] at hC
    rw [if_pos rfl]
    refine ⟨_, ?_, Keep.app L [.cells [.int .i64 r.k, fv] 55]⟩
    refine callFn_eq rfl rfl at39 rfl (by simp [Tryd.f39]) (by simp [Tryd.f39]) (G_start ?_)
    simp -implicitDefEqProofs only [Tryd.f39,Wa,Wb,Wc,Wd,We,Wf,Wg,Wh,Wi,Wj,Wk,Wl,Wm,Wn,Zo,Zp,evalT,Nat.reduceLT,Nat.reduceEqDiff,if_true,if_false,reduceIte,Ys,ofVal,ofCell,argT,resT,setT,Y0,Int.reduceEq,Int.reduceLT,Int.reduceLE,Int.reduceNeg,mb,Nat.reduceBEq,tys,stb,Va,storeList,Nat.reduceAdd,Nat.reduceLeDiff,tyj,vBin_xor,vBin_or,vBin_shl,vBin_shr,hlast,k0,k1,hlen,c1',hC]
    exact ⟨rfl, trivial⟩
  | false =>
    rw [hlg] at hC
    rw [if_neg (by simp)]
    have hpn := payN_le (by omega) hlg
    have hCI : CntI (L.length + 1) (L ++ [.cells [.int .i64 r.k, fv] 55] ++ [.cells [.int .i64 0] 101]) [] (fun q => q = L.length + 1) := ⟨by simp, rfl⟩
    obtain ⟨L', F', hP, hI, hS⟩ := payload_call (ts := ts) (counter_sink (L.length + 1)) hCI hf (by omega) (by omega) hl (short_of hlg)
    obtain ⟨hc, rfl⟩ := hI
    rw [payB_len] at hc
    have hk := hS.keep (n := L.length) (fun q hq => by have hq : q = L.length + 1 := hq; omega) (by simp)
    have hkeep : Keep L L' := ⟨hk.1, fun q hq => by rw [hk.2 q hq, List.append_assoc, List.getElem?_append_left hq]⟩
    have hbox : (L ++ [AObj.cells [.int .i64 r.k, fv] 55] ++ [.cells [.int .i64 0] 101])[L.length]? = some (.cells [.int .i64 r.k, fv] 55) := by rw [List.append_assoc]; simp
    have hl2 : (L ++ [AObj.cells [.int .i64 r.k, fv] 55]).length = L.length + 1 := by simp
    have w1 : IntKind.wrap .i64 ((payN r.fs : Int) + 8) = ((payN r.fs + 8 : Nat) : Int) := by rw [B.wrap64 (by omega)]; omega
    have hld : ∀ (A : List AObj) (a b : V), A[L.length]? = some (.cells [a, b] 55) → loadCellsV A 2 (.ptr L.length 0) = some [a, b] := fun A a b h => by simp [loadCellsV, h]
    have hld2 := hld _ _ _ hbox
    by_cases c2 : 200000 < payN r.fs + 8
    · rw [if_pos c2]
      have c2' : (200000 : Int) < ((payN r.fs + 8 : Nat) : Int) := by omega
      refine ⟨L', ?_, hkeep⟩
      refine callFn_eq rfl rfl at39 rfl (by simp [Tryd.f39]) (by simp [Tryd.f39]) (G_start ?_)
      simp -implicitDefEqProofs only [Tryd.f39,Wa,Wb,Wc,Wd,We,Wf,Wg,Wh,Wi,Wj,Wk,Wl,Wm,Wn,Zo,Zp,evalT,Nat.reduceLT,Nat.reduceEqDiff,if_true,if_false,reduceIte,Ys,ofVal,ofCell,argT,resT,setT,Y0,Int.reduceEq,Int.reduceLT,Int.reduceLE,Int.reduceNeg,mb,Nat.reduceBEq,tys,stb,Va,storeList,Nat.reduceAdd,Nat.reduceLeDiff,tyj,vBin_xor,vBin_or,vBin_shl,vBin_shr,hlast,k0,k1,hlen,c1',hC,z101,hl2,opT_mkIf,mk102,agg55,hld2,hP,hc,u101,w1,c2']
      exact ⟨rfl, trivial⟩
    · rw [if_neg c2]
      have c2' : ¬ (200000 : Int) < ((payN r.fs + 8 : Nat) : Int) := by omega
      refine ⟨L', ?_, hkeep⟩
      refine callFn_eq rfl rfl at39 rfl (by simp [Tryd.f39]) (by simp [Tryd.f39]) (G_start ?_)
      simp -implicitDefEqProofs only [Tryd.f39,Wa,Wb,Wc,Wd,We,Wf,Wg,Wh,Wi,Wj,Wk,Wl,Wm,Wn,Zo,Zp,evalT,Nat.reduceLT,Nat.reduceEqDiff,if_true,if_false,reduceIte,Ys,ofVal,ofCell,argT,resT,setT,Y0,Int.reduceEq,Int.reduceLT,Int.reduceLE,Int.reduceNeg,mb,Nat.reduceBEq,tys,stb,Va,storeList,Nat.reduceAdd,Nat.reduceLeDiff,tyj,vBin_xor,vBin_or,vBin_shl,vBin_shr,hlast,k0,k1,hlen,c1',hC,z101,hl2,opT_mkIf,mk102,agg55,hld2,hP,hc,u101,w1,c2']
      exact ⟨rfl, trivial⟩
def payS (fs : List (List UInt8)) (i : Nat) : Nat := ((fs.take i).map fun f => 2 + f.length).sum
theorem payS_succ (fs : List (List UInt8)) (i : Nat) (h : i < fs.length) : payS fs (i + 1) = payS fs i + 2 + fs[i].length := by
  unfold payS
  rw [List.take_succ_eq_append_getElem h, List.map_append, List.sum_append]
  simp; omega
theorem payS_le {fs : List (List UInt8)} (i : Nat) (h : fs.length ≤ 64) (h2 : longF (fs.take i) = false) : payS fs i ≤ 4000000 := by
  have h3 := payN_le (fs := fs.take i) (by rw [List.length_take]; omega) h2
  unfold payN at h3
  unfold payS
  omega
theorem rcheck_call {L : List AObj} {ts : List Nat} {r : Rec} {fv : V} (hf : Fld fv r.fs) (hl : r.fs.length ≤ 2 ^ 38) : callFn env (ev env) 82 [.agg [.int .i64 r.k, fv]] ⟨L, ts⟩ = some (.int .i64 (chkR r), ⟨L ++ [.cells [.int .i64 r.k, fv] 55], ts⟩) := by
  have hlen := hf.len 9
  have hlast : ∀ o, (L ++ [o])[L.length]? = some o := fun o => by simp
  refine callFn_eq rfl rfl at82 rfl (by simp [Tryd.f82]) (by simp [Tryd.f82]) (G_start ?_)
  unfold chkR
  by_cases k0 : r.k < 0
  · rw [if_pos (.inl k0)]
    simp -implicitDefEqProofs only [Tryd.f82,Wa,Wb,Wc,Wd,We,Wf,Wg,Wh,Wi,Wj,Wk,Wl,Wm,Wn,Zo,Zp,evalT,Nat.reduceLT,Nat.reduceEqDiff,if_true,if_false,reduceIte,Ys,ofVal,ofCell,argT,resT,setT,Y0,Int.reduceEq,Int.reduceLT,Int.reduceLE,Int.reduceNeg,mb,Nat.reduceBEq,tys,stb,Va,storeList,Nat.reduceAdd,Nat.reduceLeDiff,tyj,vBin_xor,vBin_or,vBin_shl,vBin_shr,hlast,k0]
    exact ⟨rfl, trivial⟩
  by_cases k1 : 255 < r.k
  · rw [if_pos (.inr k1)]
    simp -implicitDefEqProofs only [Tryd.f82,Wa,Wb,Wc,Wd,We,Wf,Wg,Wh,Wi,Wj,Wk,Wl,Wm,Wn,Zo,Zp,evalT,Nat.reduceLT,Nat.reduceEqDiff,if_true,if_false,reduceIte,Ys,ofVal,ofCell,argT,resT,setT,Y0,Int.reduceEq,Int.reduceLT,Int.reduceLE,Int.reduceNeg,mb,Nat.reduceBEq,tys,stb,Va,storeList,Nat.reduceAdd,Nat.reduceLeDiff,tyj,vBin_xor,vBin_or,vBin_shl,vBin_shr,hlast,k0,k1]
    exact ⟨rfl, trivial⟩
  rw [if_neg (by omega)]
  by_cases c1 : 64 < r.fs.length
  · rw [if_pos c1]
    have c1' : (64 : Int) < (r.fs.length : Int) := by omega
    simp -implicitDefEqProofs only [Tryd.f82,Wa,Wb,Wc,Wd,We,Wf,Wg,Wh,Wi,Wj,Wk,Wl,Wm,Wn,Zo,Zp,evalT,Nat.reduceLT,Nat.reduceEqDiff,if_true,if_false,reduceIte,Ys,ofVal,ofCell,argT,resT,setT,Y0,Int.reduceEq,Int.reduceLT,Int.reduceLE,Int.reduceNeg,mb,Nat.reduceBEq,tys,stb,Va,storeList,Nat.reduceAdd,Nat.reduceLeDiff,tyj,vBin_xor,vBin_or,vBin_shl,vBin_shr,hlast,k0,k1,hlen,c1']
    exact ⟨rfl, trivial⟩
  rw [if_neg c1]
  have c1' : ¬ (64 : Int) < (r.fs.length : Int) := by omega
  simp -implicitDefEqProofs only [Tryd.f82,Wa,Wb,Wc,Wd,We,Wf,Wg,Wh,Wi,Wj,Wk,Wl,Wm,Wn,Zo,Zp,evalT,Nat.reduceLT,Nat.reduceEqDiff,if_true,if_false,reduceIte,Ys,ofVal,ofCell,argT,resT,setT,Y0,Int.reduceEq,Int.reduceLT,Int.reduceLE,Int.reduceNeg,mb,Nat.reduceBEq,tys,stb,Va,storeList,Nat.reduceAdd,Nat.reduceLeDiff,tyj,vBin_xor,vBin_or,vBin_shl,vBin_shr,hlast,k0,k1,hlen,c1']
  refine loop_rule (fun m T D σ => D = [] ∧ σ = ⟨L ++ [.cells [.int .i64 r.k, fv] 55], ts⟩ ∧ T 1 = .ptr L.length 0 ∧ ∃ i : Nat, i ≤ r.fs.length ∧ m = r.fs.length - i ∧ T 4 = .int .i64 i ∧ T 3 = .int .i64 ((10 + payS r.fs i : Nat) : Int) ∧ longF (r.fs.take i) = false) ?_ r.fs.length _ _ _ ⟨rfl, rfl, rfl, 0, by omega, rfl, rfl, rfl, rfl⟩
  rintro m T D σ ⟨rfl, rfl, t1, i, hi, rfl, t4, t3, hlg⟩
  refine G_start ?_
  have hps := payS_le i (by omega) hlg
  by_cases hlt : i < r.fs.length
  · have c2 : (i : Int) < (r.fs.length : Int) := by omega
    have w1 : IntKind.wrap .i64 ((i : Int) + 1) = ((i + 1 : Nat) : Int) := by rw [B.wrap64 (by omega)]; omega
    obtain ⟨p, hp, hld⟩ := hf.idx hlt (L ++ [.cells [.int .i64 r.k, fv] 55])
    have hsn : longF (r.fs.take (i + 1)) = (longF (r.fs.take i) || decide (60000 < r.fs[i].length)) := by
      rw [List.take_succ_eq_append_getElem hlt]; simp only [longF, List.any_append, List.any_cons, List.any_nil, Bool.or_false]
    by_cases cb : 60000 < r.fs[i].length
    · have cb' : (60000 : Int) < (r.fs[i].length : Int) := by omega
      have hr : longF r.fs = true := by
        simp only [longF, List.any_eq_true]
        exact ⟨r.fs[i], List.getElem_mem hlt, by simpa using cb⟩
      simp -implicitDefEqProofs only [Wa,Wb,Wc,Wd,We,Wf,Wg,Wh,Wi,Wj,Wk,Wl,Wm,Wn,Zo,Zp,evalT,Nat.reduceLT,Nat.reduceEqDiff,if_true,if_false,reduceIte,Ys,ofVal,ofCell,argT,resT,setT,Y0,Int.reduceEq,Int.reduceLT,Int.reduceLE,Int.reduceNeg,mb,Nat.reduceBEq,tys,stb,Va,storeList,Nat.reduceAdd,Nat.reduceLeDiff,tyj,vBin_xor,vBin_or,vBin_shl,vBin_shr,t1,t3,t4,hlast,hlen,c2,hp,hld,lenS,cb',hr]
      exact ⟨rfl, trivial⟩
    · have cb' : ¬ (60000 : Int) < (r.fs[i].length : Int) := by omega
      have hx := payS_succ r.fs i hlt
      have w2 : IntKind.wrap .i64 (((10 + payS r.fs i : Nat) : Int) + 2) = ((10 + payS r.fs i + 2 : Nat) : Int) := by rw [B.wrap64 (by omega)]; omega
      have w3 : IntKind.wrap .i64 (((10 + payS r.fs i + 2 : Nat) : Int) + (r.fs[i].length : Int)) = ((10 + payS r.fs (i + 1) : Nat) : Int) := by rw [B.wrap64 (by omega)]; omega
      simp -implicitDefEqProofs only [Wa,Wb,Wc,Wd,We,Wf,Wg,Wh,Wi,Wj,Wk,Wl,Wm,Wn,Zo,Zp,evalT,Nat.reduceLT,Nat.reduceEqDiff,if_true,if_false,reduceIte,Ys,ofVal,ofCell,argT,resT,setT,Y0,Int.reduceEq,Int.reduceLT,Int.reduceLE,Int.reduceNeg,mb,Nat.reduceBEq,tys,stb,Va,storeList,Nat.reduceAdd,Nat.reduceLeDiff,tyj,vBin_xor,vBin_or,vBin_shl,vBin_shr,t1,t3,t4,hlast,hlen,c2,hp,hld,lenS,cb',w1,w2,w3]
      exact ⟨r.fs.length - (i + 1), by omega, i + 1, by omega, rfl, rfl, rfl, by rw [hsn, hlg, decide_eq_false cb]; rfl⟩
  · have c2 : ¬ (i : Int) < (r.fs.length : Int) := by omega
    have hi2 : i = r.fs.length := by omega
    subst hi2
    have hpn : payN r.fs + 8 = 10 + payS r.fs r.fs.length := by
      unfold payN payS; rw [List.take_length]; omega
    rw [List.take_length] at hlg
    by_cases c3 : 200000 < payN r.fs + 8
    · have c3' : (200000 : Int) < ((10 + payS r.fs r.fs.length : Nat) : Int) := by omega
      have hr : (if longF r.fs = true then (4 : Int) else if 200000 < payN r.fs + 8 then 4 else 0) = 4 := by rw [hlg, if_neg (by simp), if_pos c3]
      simp -implicitDefEqProofs only [Wa,Wb,Wc,Wd,We,Wf,Wg,Wh,Wi,Wj,Wk,Wl,Wm,Wn,Zo,Zp,evalT,Nat.reduceLT,Nat.reduceEqDiff,if_true,if_false,reduceIte,Ys,ofVal,ofCell,argT,resT,setT,Y0,Int.reduceEq,Int.reduceLT,Int.reduceLE,Int.reduceNeg,mb,Nat.reduceBEq,tys,stb,Va,storeList,Nat.reduceAdd,Nat.reduceLeDiff,tyj,vBin_xor,vBin_or,vBin_shl,vBin_shr,t1,t3,t4,hlast,hlen,c2,c3']
      rw [hr]
      exact ⟨rfl, trivial⟩
    · have c3' : ¬ (200000 : Int) < ((10 + payS r.fs r.fs.length : Nat) : Int) := by omega
      have hr : (if longF r.fs = true then (4 : Int) else if 200000 < payN r.fs + 8 then 4 else 0) = 0 := by rw [hlg, if_neg (by simp), if_neg c3]
      simp -implicitDefEqProofs only [Wa,Wb,Wc,Wd,We,Wf,Wg,Wh,Wi,Wj,Wk,Wl,Wm,Wn,Zo,Zp,evalT,Nat.reduceLT,Nat.reduceEqDiff,if_true,if_false,reduceIte,Ys,ofVal,ofCell,argT,resT,setT,Y0,Int.reduceEq,Int.reduceLT,Int.reduceLE,Int.reduceNeg,mb,Nat.reduceBEq,tys,stb,Va,storeList,Nat.reduceAdd,Nat.reduceLeDiff,tyj,vBin_xor,vBin_or,vBin_shl,vBin_shr,t1,t3,t4,hlast,hlen,c2,c3']
      rw [hr]
      exact ⟨rfl, trivial⟩
end Go.Proofs.YtncohjljeoknkaaDoor.D
namespace Go.Proofs.YtncohjljeoknkaaDoor.D
open Go.Ab
set_option maxHeartbeats 8000000
set_option maxRecDepth 100000
set_option linter.unusedSimpArgs false
set_option linter.unusedVariables false
theorem at35 : env.P.funcs[35]? = some Tryd.f35 := by kernel_rfl
theorem at68 : env.P.funcs[68]? = some Tryd.f68 := by kernel_rfl
theorem u37' : env.P.underlying 37 = some (.slice 26) := by kernel_rfl
def lens (ps : List (V × List UInt8)) : Nat := (ps.map fun p => p.2.length).sum
theorem lens_take (ps : List (V × List UInt8)) (i : Nat) (h : i < ps.length) : lens (ps.take (i + 1)) = lens (ps.take i) + ps[i].2.length := by
  unfold lens
  rw [List.take_succ_eq_append_getElem h, List.map_append, List.sum_append]
  simp
theorem lens_le (ps : List (V × List UInt8)) (i : Nat) : lens (ps.take i) ≤ lens ps := by
  have : lens ps = lens (ps.take i) + lens (ps.drop i) := by
    unfold lens
    rw [← List.sum_append, ← List.map_append, List.take_append_drop]
  omega
def cat (ps : List (V × List UInt8)) : List UInt8 := ps.flatMap (·.2)
theorem cat_len (ps : List (V × List UInt8)) : (cat ps).length = lens ps := by simp [cat, lens, List.length_flatMap]
theorem cat_take (ps : List (V × List UInt8)) (i : Nat) (h : i < ps.length) : cat (ps.take (i + 1)) = cat (ps.take i) ++ ps[i].2 := by
  unfold cat
  rw [List.take_succ_eq_append_getElem h, List.flatMap_append]
  simp
theorem concats_call {L : List AObj} {ts : List Nat} {ps : List (V × List UInt8)} {cap : RCap} (hp : ∀ p ∈ ps, Rd L p.1 p.2) (hl : lens ps ≤ 2 ^ 38) (hn : ps.length ≤ 2 ^ 38) :
    ∃ x L', callFn env (ev env) 55 [.row (ps.map (·.1)) ps.length cap] ⟨L, ts⟩ = some (x, ⟨L', ts⟩) ∧ Own L' x (cat ps) ∧ Keep L L' ∧ New L.length x := by
  obtain ⟨x0, L0, hG, g0⟩ := grow_call (lens ps) hl L ts
  have hk : ∃ v σ', callFn env (ev env) 55 [.row (ps.map (·.1)) ps.length cap] ⟨L, ts⟩ = some (v, σ') ∧ ∃ L', σ' = ⟨L', ts⟩ ∧ Own L' v (cat ps) ∧ Keep L L' ∧ New L.length v := by
    refine callFn_any rfl rfl at55 rfl (by simp [Tryd.f55]) (by simp [Tryd.f55]) (G_start ?_)
    simp -implicitDefEqProofs only [Tryd.f55,Wa,Wb,Wc,Wd,We,Wf,Wg,Wh,Wi,Wj,Wk,Wl,Wm,Wn,Zo,Zp,evalT,Nat.reduceLT,Nat.reduceEqDiff,if_true,if_false,reduceIte,Ys,ofVal,ofCell,argT,resT,setT,Y0,Int.reduceEq,Int.reduceLT,Int.reduceLE,Int.reduceNeg,mb,Nat.reduceBEq,tys,stb,Va,storeList,Nat.reduceAdd,Nat.reduceLeDiff,u37']
    refine loop_rule (fun m T D σ => D = [] ∧ σ = ⟨L, ts⟩ ∧ T 0 = .row (ps.map (·.1)) ps.length cap ∧ T 9 = .row (ps.map (·.1)) ps.length cap ∧ T 10 = .int .i64 ps.length ∧ ∃ i : Nat, i ≤ ps.length ∧ m = ps.length - i ∧ T 11 = .int .i64 i ∧ T 3 = .int .i64 (lens (ps.take i) : Int)) ?_ ps.length _ _ _ ⟨rfl, rfl, rfl, rfl, rfl, 0, by omega, rfl, rfl, rfl⟩
    rintro m T D σ ⟨rfl, rfl, t0, t9, t10, i, hi, rfl, t11, t3⟩
    refine G_start ?_
    have hll := lens_le ps i
    by_cases hlt : i < ps.length
    · have c1 : (i : Int) < (ps.length : Int) := by omega
      have w1 : IntKind.wrap .i64 ((i : Int) + 1) = ((i + 1 : Nat) : Int) := by rw [B.wrap64 (by omega)]; omega
      have ht := lens_take ps i hlt
      have hll2 := lens_le ps (i + 1)
      have w2 : IntKind.wrap .i64 ((lens (ps.take i) : Int) + (ps[i].2.length : Int)) = (lens (ps.take (i + 1)) : Int) := by rw [B.wrap64 (by omega)]; omega
      have c2 : ¬ (lens (ps.take (i + 1)) : Int) < 0 := by omega
      have hx : vIndexAddr 1 (.row (ps.map (·.1)) ps.length cap) (.int .i64 (i : Int)) = some (.rptr ((ps.map (·.1)).drop (i * 1))) := by
        rw [Ys, if_pos (by omega), Int.toNat_natCast]
      have hld : (ps.map (·.1))[i]? = some ps[i].1 := by simp [hlt]
      have hln := (hp ps[i] (List.getElem_mem hlt)).lenT 5
      simp -implicitDefEqProofs only [Wa,Wb,Wc,Wd,We,Wf,Wg,Wh,Wi,Wj,Wk,Wl,Wm,Wn,Zo,Zp,evalT,Nat.reduceLT,Nat.reduceEqDiff,if_true,if_false,reduceIte,Ys,ofVal,ofCell,argT,resT,setT,Y0,Int.reduceEq,Int.reduceLT,Int.reduceLE,Int.reduceNeg,mb,Nat.reduceBEq,tys,stb,Va,storeList,Nat.reduceAdd,Nat.reduceLeDiff,u37',t0,t9,t10,t11,t3,c1,hx,hld,hln,w1,w2,c2]
      exact ⟨⟨by omega, trivial⟩, ps.length - (i + 1), by omega, i + 1, by omega, rfl, rfl, rfl⟩
    · have c1 : ¬ (i : Int) < (ps.length : Int) := by omega
      have hi2 : i = ps.length := by omega
      subst hi2
      rw [List.take_length] at t3
      simp -implicitDefEqProofs only [Wa,Wb,Wc,Wd,We,Wf,Wg,Wh,Wi,Wj,Wk,Wl,Wm,Wn,Zo,Zp,evalT,Nat.reduceLT,Nat.reduceEqDiff,if_true,if_false,reduceIte,Ys,ofVal,ofCell,argT,resT,setT,Y0,Int.reduceEq,Int.reduceLT,Int.reduceLE,Int.reduceNeg,mb,Nat.reduceBEq,tys,stb,Va,storeList,Nat.reduceAdd,Nat.reduceLeDiff,u37',t0,t9,t10,t11,t3,c1,hG]
      refine loop_rule (fun m T D σ => D = [] ∧ T 25 = .row (ps.map (·.1)) ps.length cap ∧ T 26 = .int .i64 ps.length ∧ ∃ (i : Nat) (x : V) (L2 : List AObj), i ≤ ps.length ∧ m = ps.length - i ∧ T 27 = .int .i64 i ∧ T 6 = x ∧ σ = ⟨L2, ts⟩ ∧ Gr L2 L (lens ps) x (cat (ps.take i))) ?_ ps.length _ _ _ ⟨rfl, rfl, rfl, 0, x0, L0, by omega, rfl, rfl, rfl, rfl, g0⟩
      clear t0 t9 t10 t11 t3 c1 hi
      rintro m T D σ ⟨rfl, t25, t26, i, x, L2, hi, rfl, t27, t6, rfl, hg⟩
      refine G_start ?_
      by_cases hlt : i < ps.length
      · have c1 : (i : Int) < (ps.length : Int) := by omega
        have w1 : IntKind.wrap .i64 ((i : Int) + 1) = ((i + 1 : Nat) : Int) := by rw [B.wrap64 (by omega)]; omega
        have ht := lens_take ps i hlt
        have hll2 := lens_le ps (i + 1)
        have hx : vIndexAddr 1 (.row (ps.map (·.1)) ps.length cap) (.int .i64 (i : Int)) = some (.rptr ((ps.map (·.1)).drop (i * 1))) := by
          rw [Ys, if_pos (by omega), Int.toNat_natCast]
        have hld : (ps.map (·.1))[i]? = some ps[i].1 := by simp [hlt]
        obtain ⟨x', L3, hA, hg'⟩ := hg.push (ts := ts) (hp ps[i] (List.getElem_mem hlt)) (by rw [cat_len]; omega) hl
        rw [← cat_take ps i hlt] at hg'
        simp -implicitDefEqProofs only [Wa,Wb,Wc,Wd,We,Wf,Wg,Wh,Wi,Wj,Wk,Wl,Wm,Wn,Zo,Zp,evalT,Nat.reduceLT,Nat.reduceEqDiff,if_true,if_false,reduceIte,Ys,ofVal,ofCell,argT,resT,setT,Y0,Int.reduceEq,Int.reduceLT,Int.reduceLE,Int.reduceNeg,mb,Nat.reduceBEq,tys,stb,Va,storeList,Nat.reduceAdd,Nat.reduceLeDiff,u37',t25,t26,t27,t6,c1,hx,hld,w1,mb55,hA]
        exact ⟨⟨by omega, trivial⟩, ps.length - (i + 1), by omega, i + 1, x', L3, by omega, rfl, rfl, rfl, rfl, hg'⟩
      · have c1 : ¬ (i : Int) < (ps.length : Int) := by omega
        have hi2 : i = ps.length := by omega
        subst hi2
        rw [List.take_length] at hg
        obtain ⟨o1, o2⟩ := hg.own (cat_len ps)
        simp -implicitDefEqProofs only [Wa,Wb,Wc,Wd,We,Wf,Wg,Wh,Wi,Wj,Wk,Wl,Wm,Wn,Zo,Zp,evalT,Nat.reduceLT,Nat.reduceEqDiff,if_true,if_false,reduceIte,Ys,ofVal,ofCell,argT,resT,setT,Y0,Int.reduceEq,Int.reduceLT,Int.reduceLE,Int.reduceNeg,mb,Nat.reduceBEq,tys,stb,Va,storeList,Nat.reduceAdd,Nat.reduceLeDiff,u37',t25,t26,t27,t6,c1]
        exact ⟨L2, rfl, o1, hg.keep, o2⟩
  obtain ⟨v, σ', h1, L', rfl, h2⟩ := hk
  exact ⟨v, L', h1, h2⟩
def bytR (r : Rec) : List UInt8 := fourB (payN r.fs) ++ (payB r ++ fourB (sumF (payB r)).toNat)
theorem sumF_nat (t : List UInt8) : ((sumF t).toNat : Int) = sumF t ∧ (sumF t).toNat < 2 ^ 32 := by
  have key : 0 ≤ sumF t ∧ sumF t < 4294967296 := by
    unfold sumF
    generalize hx : (2166136261 : Int) = x
    have h : 0 ≤ x ∧ x < 4294967296 := by omega
    clear hx
    induction t generalizing x with
    | nil => exact h
    | cons b t ih => exact ih _ (wrap_u32_range _)
  omega
theorem bytR_len (r : Rec) : (bytR r).length = payN r.fs + 8 := by
  unfold bytR
  rw [List.length_append, List.length_append, payB_len]
  simp [fourB]; omega
theorem z47 : zeroV env 47 = some (.agg [.nilsl, .int .i64 0, .int .i8 0]) := by kernel_rfl
theorem chk0 {r : Rec} (h : chkR r = 0) : 0 ≤ r.k ∧ r.k ≤ 255 ∧ r.fs.length ≤ 64 ∧ longF r.fs = false ∧ payN r.fs + 8 ≤ 200000 := by
  unfold chkR at h
  split at h
  · cases h
  · split at h
    · cases h
    · split at h
      · cases h
      · split at h
        · cases h
        · rename_i h1 h2 h3 h4
          exact ⟨by omega, by omega, by omega, by simpa using h3, by omega⟩
theorem row37_3 (a b c : V) (ha : a.cells = [a]) (hb : b.cells = [b]) (hc : c.cells = [c]) : rowO env 37 3 [(0, a), (1, b), (2, c)] = some (.row [a, b, c] 3 .full) :=
  rowN (z := .nilsl) (vs := [a, b, c]) (by kernel_rfl) s26 (by kernel_rfl) rfl (by
    intro v hv
    simp only [List.mem_cons, List.not_mem_nil, or_false] at hv
    rcases hv with rfl | rfl | rfl <;> assumption) (by simp) (by simp) _ rfl
theorem bytes_rec {L : List AObj} {ts : List Nat} {r : Rec} {fv : V} (hf : Fld fv r.fs) (hl : r.fs.length ≤ 2 ^ 38) :
    ∃ v L', callFn env (ev env) 35 [.agg [.int .i64 r.k, fv]] ⟨L, ts⟩ = some (.tup [v, .int .i64 (chkR r)], ⟨L', ts⟩) ∧ Keep L L' ∧ (if chkR r = 0 then Own L' v (bytR r) ∧ New L.length v else v = .nilsl) := by
  have hlast : ∀ o, (L ++ [o])[L.length]? = some o := fun o => by simp
  have hld : ∀ (A : List AObj) (a b : V), A[L.length]? = some (.cells [a, b] 55) → loadCellsV A 2 (.ptr L.length 0) = some [a, b] := fun A a b h => by simp [loadCellsV, h]
  have hld0 := hld _ _ _ (hlast (.cells [.int .i64 r.k, fv] 55))
  obtain ⟨L1, hC, hK⟩ := check_call (L := L ++ [.cells [.int .i64 r.k, fv] 55]) (ts := ts) hf hl
  have hK0 : Keep L L1 := (Keep.app L _).trans hK
  by_cases h0 : chkR r = 0
  · obtain ⟨k0, k1, k2, k3, k4⟩ := chk0 h0
    simp only [h0, if_true]
    have hl1 : L.length + 1 ≤ L1.length := by have := hK.1; simpa using this
    have hbox1 : L1[L.length]? = some (.cells [.int .i64 r.k, fv] 55) := by rw [hK.2 L.length (by simp)]; exact hlast _
    have hBI : BufI L1.length (L1 ++ [.cells [.nilsl, .int .i64 0, .int .i8 0] 47]) [] (fun q => q = L1.length ∨ blkOf V.nilsl = some q) := ⟨.nilsl, 0, by simp, .inl ⟨rfl, rfl⟩, by simp [blkOf], rfl⟩
    obtain ⟨L2, F2, hP, hI, hS⟩ := payload_call (ts := ts) (buffer_sink L1.length) hBI hf k0 (by omega) hl (short_of k3)
    have hk2 := hS.keep (n := L1.length) (fun q hq => by
      rcases hq with rfl | hq
      · exact Nat.le_refl _
      · cases hq) (by simp)
    have hK12 : Keep L1 L2 := ⟨hk2.1, fun q hq => by rw [hk2.2 q hq, List.getElem?_append_left hq]⟩
    obtain ⟨bv, lr, hb1, hb2, hb3, hb4⟩ := hI
    have hpl := payB_len r
    have hbox2 : (L1 ++ [AObj.cells [.nilsl, .int .i64 0, .int .i8 0] 47])[L.length]? = some (.cells [.int .i64 r.k, fv] 55) := by rw [List.getElem?_append_left (by omega)]; exact hbox1
    have hld2 := hld _ _ _ hbox2
    have hLn := len_call (ts := ts) hb1 hb2 (by omega)
    have hBy := bytes_call (ts := ts) hb1 hb2
    have hSm := sum_call (ts := ts) hb2.rd (by omega)
    obtain ⟨n1, n2⟩ := sumF_nat (payB r)
    have hF1 := four_call (payN r.fs) ⟨L2, ts⟩
    have hF2 := four_call (sumF (payB r)).toNat ⟨L2, ts⟩
    rw [n1] at hF2
    rw [hpl] at hLn
    have w1 : IntKind.u32.wrap (payN r.fs : Int) = (payN r.fs : Int) := wrap_u32 (by omega)
    have hcat : cat [(V.row (byteCells (fourB (payN r.fs))) 4 .full, fourB (payN r.fs)), (bv, payB r), (V.row (byteCells (fourB (sumF (payB r)).toNat)) 4 .full, fourB (sumF (payB r)).toNat)] = bytR r := by simp [cat, bytR]
    obtain ⟨x, L3, hX, hO, hK3, hN3⟩ := concats_call (ts := ts) (L := L2) (cap := .full) (ps := [(V.row (byteCells (fourB (payN r.fs))) 4 .full, fourB (payN r.fs)), (bv, payB r), (V.row (byteCells (fourB (sumF (payB r)).toNat)) 4 .full, fourB (sumF (payB r)).toNat)]) (by
      intro p hp
      simp only [List.mem_cons, List.not_mem_nil, or_false] at hp
      rcases hp with rfl | rfl | rfl
      · exact Rd.row L2 (fourB _) .full
      · exact hb2.rd
      · exact Rd.row L2 (fourB _) .full) (by simp [lens, fourB, hpl]; omega) (by simp)
    rw [hcat] at hO
    simp only [List.map_cons, List.map_nil, List.length_cons, List.length_nil, Nat.zero_add, Nat.reduceAdd] at hX
    have hr3 := row37_3 (V.row (byteCells (fourB (payN r.fs))) 4 .full) bv (V.row (byteCells (fourB (sumF (payB r)).toNat)) 4 .full) rfl hb2.rd.cells rfl
    rw [h0] at hC
    refine ⟨x, L3, ?_, (hK0.trans hK12).trans hK3, hO, fun q hq => by have := hN3 q hq; have := hK0.1; have := hK12.1; omega⟩
    refine callFn_eq rfl rfl at35 rfl (by simp [Tryd.f35]) (by simp [Tryd.f35]) (G_start ?_)
    simp -implicitDefEqProofs only [Tryd.f35,Wa,Wb,Wc,Wd,We,Wf,Wg,Wh,Wi,Wj,Wk,Wl,Wm,Wn,Zo,Zp,evalT,Nat.reduceLT,Nat.reduceEqDiff,if_true,if_false,reduceIte,Ys,ofVal,ofCell,argT,resT,setT,Y0,Int.reduceEq,Int.reduceLT,Int.reduceLE,Int.reduceNeg,mb,Nat.reduceBEq,tys,stb,Va,storeList,Nat.reduceAdd,Nat.reduceLeDiff,tyj,vBin_xor,vBin_or,vBin_shl,vBin_shr,agg55,hld0,hC,z47,opT_mkIf,mk92,hld2,hP,hLn,w1,hF1,hBy,hSm,hF2,opT_rowB,hr3,hX]
    exact ⟨rfl, trivial⟩
  · simp only [h0, if_false]
    have h0' := eq_false h0
    refine ⟨.nilsl, L1, ?_, hK0, rfl⟩
    refine callFn_eq rfl rfl at35 rfl (by simp [Tryd.f35]) (by simp [Tryd.f35]) (G_start ?_)
    simp -implicitDefEqProofs only [Tryd.f35,Wa,Wb,Wc,Wd,We,Wf,Wg,Wh,Wi,Wj,Wk,Wl,Wm,Wn,Zo,Zp,evalT,Nat.reduceLT,Nat.reduceEqDiff,if_true,if_false,reduceIte,Ys,ofVal,ofCell,argT,resT,setT,Y0,Int.reduceEq,Int.reduceLT,Int.reduceLE,Int.reduceNeg,mb,Nat.reduceBEq,tys,stb,Va,storeList,Nat.reduceAdd,Nat.reduceLeDiff,tyj,vBin_xor,vBin_or,vBin_shl,vBin_shr,agg55,hld0,hC,h0']
    exact ⟨rfl, trivial⟩
end Go.Proofs.YtncohjljeoknkaaDoor.D
namespace Go.Proofs.YtncohjljeoknkaaDoor.D
open Go.Ab
set_option maxHeartbeats 8000000
set_option maxRecDepth 100000
set_option linter.unusedSimpArgs false
set_option linter.unusedVariables false
theorem Rd.vlen {L : List AObj} {y : V} {t : List UInt8} (h : Rd L y t) : vLen y = some t.length := h.len
theorem _root_.Go.Ab.RowT.bytes {ts : List Nat} {v : V} {t : List UInt8} (h : RowT ts 1 v t.length (byteCells t)) (L : List AObj) : Rd L v t := by
  rcases h.or with ⟨rfl, h0, _⟩ | ⟨cap, rfl⟩
  · exact .inl ⟨rfl, List.eq_nil_of_length_eq_zero h0⟩
  · exact Rd.row L t cap
theorem mb68 (r : Nat) : env.mutb 68 r = false := rfl
end Go.Proofs.YtncohjljeoknkaaDoor.D
