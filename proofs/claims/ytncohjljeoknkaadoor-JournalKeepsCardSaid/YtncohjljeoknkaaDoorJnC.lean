/- Proved here: the law. Conditions: those of each theorem; no statement of the seat is proved in this text. -/
import Derived.Test.YtncohjljeoknkaaDoorJnB
namespace Go.Proofs.YtncohjljeoknkaaDoor.D
open Go.Ab
set_option maxHeartbeats 8000000
set_option maxRecDepth 100000
set_option linter.unusedSimpArgs false
set_option linter.unusedVariables false
set_option linter.unusedSectionVars false
structure Pay (L : List AObj) (tz : List Nat) (p : List UInt8) (y : V) (c : Nat) (T : Tm) (H : List AObj) (ts : List Nat) (i pos : Nat) (acc : List (List UInt8)) (fv : V) : Prop where
  t0 : T 0 = y
  t2 : T 2 = .ptr L.length 0
  t3 : T 3 = .bool false
  t4 : T 4 = .ptr (L.length + 1) 0
  t5 : T 5 = .int .i64 pos
  t6 : T 6 = .int .i64 i
  le : i ≤ c
  pl : pos ≤ p.length
  len : acc.length = i
  hp : H = L ++ [.cells [.int .i64 0, .nilsl] 55, .cells [.int .i64 ((p.getD 0 0).toNat : Int), fv] 55]
  tk : TK tz ts
  row : RowN tz.length ts 1 fv acc.length (acc.map .str)
  ho : fieldsR c (p.drop 2) = (fieldsR (c - i) (p.drop pos)).map fun x => (acc ++ x.1, x.2)
end Go.Proofs.YtncohjljeoknkaaDoor.D
namespace Go.Proofs.YtncohjljeoknkaaDoor.D
open Go.Ab
set_option maxHeartbeats 8000000
set_option maxRecDepth 100000
set_option linter.unusedSimpArgs false
set_option linter.unusedVariables false
theorem at64 : env.P.funcs[64]? = some Tryd.f64 := by kernel_rfl
theorem at65 : env.P.funcs[65]? = some Tryd.f65 := by kernel_rfl
theorem at77 : env.P.funcs[77]? = some Tryd.f77 := by kernel_rfl
theorem at78 : env.P.funcs[78]? = some Tryd.f78 := by kernel_rfl
theorem nil53 (c : Bool) : binO env 53 c .eql (some .nilsl) (some .nilsl) = some (.bool true) := by cases c <;> kernel_rfl
theorem row53n (c : Bool) (cs : List V) (n : Nat) (cap : RCap) : binO env 53 c .eql (some (.row cs n cap)) (some .nilsl) = some (.bool false) := by cases c <;> kernel_rfl
theorem nil58 (c : Bool) : binO env 58 c .eql (some .nilsl) (some .nilsl) = some (.bool true) := by cases c <;> kernel_rfl
theorem row58n (c : Bool) (cs : List V) (n : Nat) (cap : RCap) : binO env 58 c .eql (some (.row cs n cap)) (some .nilsl) = some (.bool false) := by cases c <;> kernel_rfl
theorem row53_0 : rowO env 53 0 [] = some (.row [] 0 .full) := by kernel_rfl
theorem row58_0 : rowO env 58 0 [] = some (.row [] 0 .full) := by kernel_rfl
theorem strs_cell : ∀ fs : List (List UInt8), (fs.map V.str).all V.isCell = true
  | [] => rfl
  | f :: fs => by simp only [List.map_cons, List.all_cons, strs_cell fs]; rfl
theorem cstr_call {L : List AObj} {ts : List Nat} {fv : V} {fs : List (List UInt8)} (h : Fld fv fs) (hl : fs.length ≤ 2 ^ 30) : ∃ fv' ts', callFn env (ev env) 78 [fv] ⟨L, ts⟩ = some (fv', ⟨L, ts'⟩) ∧ Fld fv' fs ∧ TK ts ts' := by
  have m78 : ∀ r, env.mutb 78 r = false := fun _ => rfl
  rcases h with ⟨rfl, rfl⟩ | ⟨cap, rfl⟩
  · refine ⟨.nilsl, ts, ?_, .inl ⟨rfl, rfl⟩, TK.refl _⟩
    refine callFn_eq rfl rfl at78 rfl (by simp [Tryd.f78]) (by simp [Tryd.f78]) (G_start ?_)
    simp -implicitDefEqProofs only [Tryd.f78,Wa,Wb,Wc,Wd,We,Wf,Wg,Wh,Wi,Wj,Wk,Wl,Wm,Wn,Zo,Zp,evalT,Nat.reduceLT,Nat.reduceEqDiff,if_true,if_false,reduceIte,Ys,ofVal,ofCell,argT,resT,setT,Y0,Int.reduceEq,Int.reduceLT,Int.reduceLE,Int.reduceNeg,mb,Nat.reduceBEq,tys,stb,Va,storeList,Nat.reduceAdd,Nat.reduceLeDiff,tyj,vBin_xor,vBin_or,vBin_shl,vBin_shr,nil53]
    exact ⟨rfl, trivial⟩
  · have hlim : (0 + fs.length) * 16 ≤ lim ∧ 0 + fs.length ≤ lim := by unfold lim; omega
    obtain ⟨v', ts', h1, h2, h3, h4, _⟩ := (RowN.full ts.length ts 1 0 [] rfl).append (E := env) (L := L) (y := .row (fs.map .str) fs.length cap) (m := fs.length) (new := fs.map .str) (nb := 16) (Nat.le_refl _) e53 s9 (by kernel_rfl) (by kernel_rfl) ⟨9, u53⟩ hlim rfl (by
      have : (fs.map V.str).take (fs.length * 1) = fs.map V.str := List.take_of_length_le (by simp)
      simp only [vCells, List.length_map, Nat.mul_one, Nat.le_refl, and_self, if_true] at this ⊢
      rw [this]) (by simp) (strs_cell fs)
    rw [Nat.zero_add, List.nil_append] at h2
    refine ⟨v', ts', ?_, ?_, h3, h4⟩
    · refine callFn_eq rfl rfl at78 rfl (by simp [Tryd.f78]) (by simp [Tryd.f78]) (G_start ?_)
      simp -implicitDefEqProofs only [Tryd.f78,Wa,Wb,Wc,Wd,We,Wf,Wg,Wh,Wi,Wj,Wk,Wl,Wm,Wn,Zo,Zp,evalT,Nat.reduceLT,Nat.reduceEqDiff,if_true,if_false,reduceIte,Ys,ofVal,ofCell,argT,resT,setT,Y0,Int.reduceEq,Int.reduceLT,Int.reduceLE,Int.reduceNeg,mb,Nat.reduceBEq,tys,stb,Va,storeList,Nat.reduceAdd,Nat.reduceLeDiff,tyj,vBin_xor,vBin_or,vBin_shl,vBin_shr,row53n,opT_rowB,row53_0,m78,h1]
      exact ⟨rfl, trivial⟩
    · rcases h2.1.or with ⟨rfl, h0, _⟩ | ⟨cap, rfl⟩
      · exact .inl ⟨rfl, List.eq_nil_of_length_eq_zero h0⟩
      · exact .inr ⟨cap, rfl⟩
def RowX (v : V) (rs : List Rec) : Prop := ∃ cs, RecC rs cs ∧ ((v = .nilsl ∧ rs = []) ∨ ∃ cap, v = .row cs rs.length cap)
theorem RowR.x {n0 : Nat} {ts : List Nat} {lv : V} {rs : List Rec} (h : RowR n0 ts lv rs) : RowX lv rs := by
  obtain ⟨cs, h1, h2⟩ := h
  refine ⟨cs, h2, ?_⟩
  rcases h1.1.or with ⟨rfl, h0, _⟩ | ⟨cap, rfl⟩
  · exact .inl ⟨rfl, List.eq_nil_of_length_eq_zero h0⟩
  · exact .inr ⟨cap, rfl⟩
def OutR (n0 : Nat) (L : List AObj) (u : V) (rs : List Rec) : Prop := (u = .nilsl ∧ rs = []) ∨ (u = .row [] 0 .full ∧ rs = []) ∨ ∃ b cs, u = .hsl b 0 rs.length rs.length (.grow 2) ∧ L[b]? = some (.cells cs 55) ∧ RecC rs cs ∧ n0 ≤ b
theorem OutR.rd {n0 : Nat} {L : List AObj} {u : V} {rs : List Rec} (h : OutR n0 L u rs) : RdR L u rs := by
  rcases h with ⟨rfl, rfl⟩ | ⟨rfl, rfl⟩ | ⟨b, cs, rfl, h1, h2, _⟩
  · exact ⟨[], RdS.nil L 2, rfl⟩
  · exact ⟨[], RdS.row L 2 [] 0 .full rfl, rfl⟩
  · have hl := h2.cell.2
    have := RdS.hsl (w := 2) (off := 0) (n := rs.length) (cap := rs.length) (ex := .grow 2) h1 (by omega)
    rw [List.drop_zero, List.take_of_length_le (by omega)] at this
    exact ⟨cs, this, h2⟩
theorem clrec_call {L : List AObj} {ts : List Nat} {v : V} {rs : List Rec} (h : RowX v rs) (hl : rs.length ≤ 2 ^ 30) : ∃ u L', callFn env (ev env) 77 [v] ⟨L, ts⟩ = some (u, ⟨L', ts⟩) ∧ Keep L L' ∧ OutR L.length L' u rs := by
  have m77 : ∀ r, env.mutb 77 r = true := fun _ => rfl
  obtain ⟨cs, hr, ⟨rfl, rfl⟩ | ⟨cap, rfl⟩⟩ := h
  · refine ⟨.nilsl, L, ?_, Keep.refl _, .inl ⟨rfl, rfl⟩⟩
    refine callFn_eq rfl rfl at77 rfl (by simp [Tryd.f77]) (by simp [Tryd.f77]) (G_start ?_)
    simp -implicitDefEqProofs only [Tryd.f77,Wa,Wb,Wc,Wd,We,Wf,Wg,Wh,Wi,Wj,Wk,Wl,Wm,Wn,Zo,Zp,evalT,Nat.reduceLT,Nat.reduceEqDiff,if_true,if_false,reduceIte,Ys,ofVal,ofCell,argT,resT,setT,Y0,Int.reduceEq,Int.reduceLT,Int.reduceLE,Int.reduceNeg,mb,Nat.reduceBEq,tys,stb,Va,storeList,Nat.reduceAdd,Nat.reduceLeDiff,tyj,vBin_xor,vBin_or,vBin_shl,vBin_shr,nil58]
    exact ⟨rfl, trivial⟩
  · have hcl := hr.cell
    have key : ∃ u L', appO env true ⟨L, ts⟩ 58 58 (.row [] 0 .full) (.row cs rs.length cap) = some (u, ⟨L', ts⟩) ∧ Keep L L' ∧ OutR L.length L' u rs := by
      have hlim : (0 + rs.length) * 32 ≤ lim ∧ 0 + rs.length ≤ lim := by unfold lim; omega
      have hb : bys env 55 = some 32 := by kernel_rfl
      have hz : zeroN env 55 = some 2 := by kernel_rfl
      have hvc : vCells L 2 rs.length (.row cs rs.length cap) = some cs := by
        simp only [vCells, hcl.2, Nat.le_refl, and_self, if_true]
        rw [List.take_of_length_le (Nat.le_of_eq hcl.2)]
      simp only [appO, e58, s55, hb, hz, u58, Option.bind_some, vLen, hvc, if_true]
      by_cases h0 : rs.length = 0
      · have : rs = [] := List.eq_nil_of_length_eq_zero h0
        subst this
        exact ⟨.row [] 0 .full, L, by simp [aappend], Keep.refl _, .inr (.inl ⟨rfl, rfl⟩)⟩
      · refine ⟨.hsl L.length 0 rs.length rs.length (.grow 2), L ++ [.cells cs 55], ?_, Keep.app _ _, .inr (.inr ⟨L.length, cs, rfl, by simp, hr, Nat.le_refl _⟩)⟩
        rw [Nat.zero_add] at hlim
        simp [aappend, h0, hlim, hcl.1, S.push]
    obtain ⟨u, L', h1, h2, h3⟩ := key
    refine ⟨u, L', ?_, h2, h3⟩
    refine callFn_eq rfl rfl at77 rfl (by simp [Tryd.f77]) (by simp [Tryd.f77]) (G_start ?_)
    simp -implicitDefEqProofs only [Tryd.f77,Wa,Wb,Wc,Wd,We,Wf,Wg,Wh,Wi,Wj,Wk,Wl,Wm,Wn,Zo,Zp,evalT,Nat.reduceLT,Nat.reduceEqDiff,if_true,if_false,reduceIte,Ys,ofVal,ofCell,argT,resT,setT,Y0,Int.reduceEq,Int.reduceLT,Int.reduceLE,Int.reduceNeg,mb,Nat.reduceBEq,tys,stb,Va,storeList,Nat.reduceAdd,Nat.reduceLeDiff,tyj,vBin_xor,vBin_or,vBin_shl,vBin_shr,row58n,opT_rowB,row58_0,m77,h1]
    exact ⟨rfl, trivial⟩
theorem RecC.put {rs : List Rec} {cs : List V} (h : RecC rs cs) {i : Nat} (hi : i < rs.length) {fv : V} (hf : Fld fv rs[i].fs) : RecC rs (storeList cs (i * 2 + 1) [fv]) := by
  induction rs generalizing cs i with
  | nil => simp at hi
  | cons a rs ih =>
    obtain ⟨gv, cs', rfl, h1, h2⟩ := h
    cases i with
    | zero => exact ⟨fv, cs', rfl, hf, h2⟩
    | succ i =>
      have := ih h2 (i := i) (by simpa using hi) hf
      refine ⟨gv, storeList cs' (i * 2 + 1) [fv], ?_, h1, this⟩
      rw [show (i + 1) * 2 + 1 = (i * 2 + 1) + 2 by omega]
      simp [storeList, List.take_succ_cons, Nat.add_right_comm]
theorem copied_call {L : List AObj} {ts : List Nat} {v : V} {rs : List Rec} (h : RowX v rs) (hl : rs.length ≤ 2 ^ 30) (hf : ∀ r ∈ rs, r.fs.length ≤ 2 ^ 30) :
    ∃ u L' ts', callFn env (ev env) 64 [v] ⟨L, ts⟩ = some (u, ⟨L', ts'⟩) ∧ Keep L L' ∧ TK ts ts' ∧ OutR L.length L' u rs := by
  obtain ⟨u, L1, hC, hK1, hO⟩ := clrec_call (L := L) (ts := ts) h hl
  have hk : ∃ w σ', callFn env (ev env) 64 [v] ⟨L, ts⟩ = some (w, σ') ∧ w = u ∧ Keep L σ'.heap ∧ TK ts σ'.toks ∧ OutR L.length σ'.heap u rs := by
    have lu := hO.rd.len 55
    refine callFn_any rfl rfl at64 rfl (by simp [Tryd.f64]) (by simp [Tryd.f64]) (G_start ?_)
    simp -implicitDefEqProofs only [Tryd.f64,Wa,Wb,Wc,Wd,We,Wf,Wg,Wh,Wi,Wj,Wk,Wl,Wm,Wn,Zo,Zp,evalT,Nat.reduceLT,Nat.reduceEqDiff,if_true,if_false,reduceIte,Ys,ofVal,ofCell,argT,resT,setT,Y0,Int.reduceEq,Int.reduceLT,Int.reduceLE,Int.reduceNeg,mb,Nat.reduceBEq,tys,stb,Va,storeList,Nat.reduceAdd,Nat.reduceLeDiff,tyj,vBin_xor,vBin_or,vBin_shl,vBin_shr,hC,lu]
    refine loop_rule (fun m T D σ => D = [] ∧ T 3 = u ∧ T 8 = u ∧ T 9 = .int .i64 rs.length ∧ ∃ i : Nat, T 10 = .int .i64 i ∧ i ≤ rs.length ∧ m = rs.length - i ∧ Keep L σ.heap ∧ TK ts σ.toks ∧ OutR L.length σ.heap u rs) ?_ rs.length _ _ _ ⟨rfl, rfl, rfl, rfl, 0, rfl, Nat.zero_le _, rfl, hK1, TK.refl _, hO⟩
    rintro m T D ⟨H, ts1⟩ ⟨rfl, t3, t8, t9, i, t10, hi, rfl, hK, hT, hH⟩
    simp only at hK hT hH
    refine G_start ?_
    by_cases hlt : i < rs.length
    · have c1 : (i : Int) < (rs.length : Int) := by omega
      have w1 : IntKind.wrap .i64 ((i : Int) + 1) = ((i + 1 : Nat) : Int) := by rw [B.wrap64 (by omega)]; omega
      rcases hH with ⟨rfl, rfl⟩ | ⟨rfl, rfl⟩ | ⟨b, cs, rfl, hb, hr, hnb⟩
      · simp at hlt
      · simp at hlt
      · obtain ⟨fv, e1, hfv⟩ := hr.get hlt
        have hcl := hr.cell.2
        have hbl := B.lt_get hb
        have hx : vIndexAddr 2 (.hsl b 0 rs.length rs.length (.grow 2)) (.int .i64 (i : Int)) = some (.ptr b (i * 2)) := by simp [vIndexAddr, hlt]
        have hld : loadCellsV H 2 (.ptr b (i * 2)) = some [.int .i64 rs[i].k, fv] := by simp [loadCellsV, hb, e1]; omega
        have z55 : zeroV env 55 = some (.agg [.int .i64 0, .nilsl]) := by kernel_rfl
        have qe : ∀ o : AObj, (H ++ [o])[H.length]? = some o := fun o => by simp
        have qs : ∀ o o' : AObj, (H ++ [o]).set H.length o' = H ++ [o'] := fun o o' => by simp
        obtain ⟨fv2, ts2, hS, hf2, hT2⟩ := cstr_call (L := H ++ [.cells [.int .i64 rs[i].k, fv] 55]) (ts := ts1) hfv (hf _ (List.getElem_mem hlt))
        have qb : ∀ o : AObj, (H ++ [o])[b]? = some (.cells cs 55) := fun o => by rw [List.getElem?_append_left hbl]; exact hb
        have hin : i * 2 + 1 + 1 ≤ cs.length := by omega
        simp -implicitDefEqProofs only [Wa,Wb,Wc,Wd,We,Wf,Wg,Wh,Wi,Wj,Wk,Wl,Wm,Wn,Zo,Zp,evalT,Nat.reduceLT,Nat.reduceEqDiff,if_true,if_false,reduceIte,Ys,ofVal,ofCell,argT,resT,setT,Y0,Int.reduceEq,Int.reduceLT,Int.reduceLE,Int.reduceNeg,mb,Nat.reduceBEq,tys,stb,Va,storeList,Nat.reduceAdd,Nat.reduceLeDiff,tyj,vBin_xor,vBin_or,vBin_shl,vBin_shr,t3,t8,t9,t10,c1,hx,agg55,hld,z55,qe,qs,hfv.cells,hfv.isCell,hS,qb,hf2.cells,hf2.isCell,hin,w1]
        exact ⟨rfl, rs.length - (i + 1), by omega, i + 1, rfl, by omega, rfl, (hK.trans (Keep.app H _)).setge hnb _, hT.trans hT2, .inr (.inr ⟨b, _, rfl, List.getElem?_set_self (by simp; omega), hr.put hlt hf2, hnb⟩)⟩
    · have c1 : ¬ (i : Int) < (rs.length : Int) := by omega
      simp -implicitDefEqProofs only [Wa,Wb,Wc,Wd,We,Wf,Wg,Wh,Wi,Wj,Wk,Wl,Wm,Wn,Zo,Zp,evalT,Nat.reduceLT,Nat.reduceEqDiff,if_true,if_false,reduceIte,Ys,ofVal,ofCell,argT,resT,setT,Y0,Int.reduceEq,Int.reduceLT,Int.reduceLE,Int.reduceNeg,mb,Nat.reduceBEq,tys,stb,Va,storeList,Nat.reduceAdd,Nat.reduceLeDiff,tyj,vBin_xor,vBin_or,vBin_shl,vBin_shr,t3,t8,t9,t10,c1]
      exact ⟨rfl, hK, hT, hH⟩
  obtain ⟨w, ⟨L', ts'⟩, h1, rfl, h2, h3, h4⟩ := hk
  exact ⟨_, L', ts', h1, h2, h3, h4⟩
end Go.Proofs.YtncohjljeoknkaaDoor.D
namespace Go.Proofs.YtncohjljeoknkaaDoor.D
open Go.Ab
set_option linter.unusedVariables false
set_option linter.unusedSimpArgs false
theorem numF_four (n : Nat) (h : n < 2 ^ 32) : numF (fourB n) = n := by
  simp only [numF, fourB, List.foldl_cons, List.foldl_nil, UInt8.toNat_ofNat']
  omega
theorem numF_two (n : Nat) (h : n < 2 ^ 16) : numF (twoB n) = n := by
  simp only [numF, twoB, List.foldl_cons, List.foldl_nil, UInt8.toNat_ofNat']
  omega
theorem fields_enc : ∀ (fs : List (List UInt8)) (tail : List UInt8), (∀ f ∈ fs, f.length < 2 ^ 16) → fieldsR fs.length (fs.flatMap fldB ++ tail) = some (fs, tail)
  | [], tail, _ => rfl
  | f :: fs, tail, h => by
    have hf := h f (by simp)
    have ih := fields_enc fs tail fun g hg => h g (by simp [hg])
    have e : (f :: fs).flatMap fldB ++ tail = twoB f.length ++ (f ++ (fs.flatMap fldB ++ tail)) := by simp [fldB]
    have e1 : (twoB f.length ++ (f ++ (fs.flatMap fldB ++ tail))).take 2 = twoB f.length := List.take_left' rfl
    have e2 : (twoB f.length ++ (f ++ (fs.flatMap fldB ++ tail))).drop 2 = f ++ (fs.flatMap fldB ++ tail) := List.drop_left' rfl
    rw [e, List.length_cons, fieldsR, e1, e2, numF_two _ hf, if_neg (by simp [twoB]), if_neg (by simp), List.take_left' rfl, List.drop_left' rfl, ih]
    rfl
theorem pay_enc {r : Rec} (h : chkR r = 0) : payR (payB r) = some r := by
  obtain ⟨h1, h2, h3, h4, h5⟩ := chk0 h
  have hs : ∀ f ∈ r.fs, f.length < 2 ^ 16 := fun f hf => by
    simp only [longF, List.any_eq_false, decide_eq_true_eq] at h4
    have := h4 f hf
    omega
  have hfe := fields_enc r.fs [] hs
  rw [List.append_nil] at hfe
  have hk : (UInt8.ofNat r.k.toNat).toNat = r.k.toNat := by rw [UInt8.toNat_ofNat']; omega
  have hl : (UInt8.ofNat r.fs.length).toNat = r.fs.length := by rw [UInt8.toNat_ofNat']; omega
  have hlen := payB_len r
  have hp : 2 ≤ payN r.fs := by unfold payN; omega
  unfold payR
  rw [if_neg (by omega)]
  have e1 : (payB r).getD 1 0 = UInt8.ofNat r.fs.length := rfl
  have e0 : (payB r).getD 0 0 = UInt8.ofNat r.k.toNat := rfl
  have e2 : (payB r).drop 2 = r.fs.flatMap fldB := rfl
  rw [e1, e0, e2, hl, hk, hfe]
  have : ((r.k.toNat : Nat) : Int) = r.k := by omega
  rw [this]
theorem one_enc {r : Rec} (h : chkR r = 0) (rest : List UInt8) : oneR (bytR r ++ rest) = some (r, (bytR r).length) := by
  obtain ⟨h1, h2, h3, h4, h5⟩ := chk0 h
  obtain ⟨n1, n2⟩ := sumF_nat (payB r)
  have e : bytR r ++ rest = fourB (payN r.fs) ++ (payB r ++ (fourB (sumF (payB r)).toNat ++ rest)) := by simp [bytR]
  have e1 : (fourB (payN r.fs) ++ (payB r ++ (fourB (sumF (payB r)).toNat ++ rest))).take 4 = fourB (payN r.fs) := List.take_left' rfl
  have e2 : (fourB (payN r.fs) ++ (payB r ++ (fourB (sumF (payB r)).toNat ++ rest))).drop 4 = payB r ++ (fourB (sumF (payB r)).toNat ++ rest) := List.drop_left' rfl
  have e3 : (payB r ++ (fourB (sumF (payB r)).toNat ++ rest)).take (payN r.fs) = payB r := List.take_left' (payB_len r)
  have e4 : (payB r ++ (fourB (sumF (payB r)).toNat ++ rest)).drop (payN r.fs) = fourB (sumF (payB r)).toNat ++ rest := List.drop_left' (payB_len r)
  have e5 : (fourB (sumF (payB r)).toNat ++ rest).take 4 = fourB (sumF (payB r)).toNat := List.take_left' rfl
  have l1 := payB_len r
  unfold oneR
  rw [e, e1, e2, numF_four _ (by omega), e3, e4, e5, numF_four _ n2, pay_enc h, n1]
  have l4 : (fourB (payN r.fs)).length = 4 := rfl
  have l5 : (fourB (sumF (payB r)).toNat).length = 4 := rfl
  rw [if_neg (by simp only [List.length_append]; omega), if_neg (by simp only [List.length_append]; omega), if_neg (by simp only [List.length_append]; omega)]
  simp only [h, and_self, if_true, bytR_len]
theorem one_cut {r : Rec} (h : chkR r = 0) {c : Nat} (hc : c < (bytR r).length) : oneR ((bytR r).take c) = none := by
  obtain ⟨h1, h2, h3, h4, h5⟩ := chk0 h
  have hbl := bytR_len r
  have hl : ((bytR r).take c).length = c := by rw [List.length_take]; omega
  unfold oneR
  by_cases c4 : c < 4
  · rw [if_pos (by omega)]
  · rw [if_neg (by omega)]
    have e1 : ((bytR r).take c).take 4 = fourB (payN r.fs) := by
      rw [List.take_take, Nat.min_eq_left (by omega)]
      exact List.take_left' rfl
    rw [e1, numF_four _ (by omega)]
    by_cases c5 : c - 4 < payN r.fs
    · rw [if_pos (by rw [List.length_drop, hl]; exact c5)]
    · rw [if_neg (by rw [List.length_drop, hl]; exact c5), if_pos (by rw [List.length_drop, List.length_drop, hl]; omega)]
theorem one_nil : oneR [] = none := rfl
end Go.Proofs.YtncohjljeoknkaaDoor.D
namespace Go.Proofs.YtncohjljeoknkaaDoor.D
open Go.Ab
set_option maxHeartbeats 8000000
set_option maxRecDepth 100000
set_option linter.unusedSimpArgs false
set_option linter.unusedVariables false
theorem jknown_call (σ : S) : callFn env (ev env) 8 [] σ = some (.bool true, σ) := rfl
def tokOf : V → Option Nat
  | .row _ _ (.tok k _ _) => some k
  | _ => none
theorem RowT.appendF {E : Env} {L : List AObj} {ts : List Nat} {t ty ty2 : TypeId} {w n m nb : Nat} {v y : V} {cs new : List V} (h : RowT ts w v n cs) (he : elemS E ty = some t) (hs : sz E t = some w) (hz : zeroN E t = some w) (hb : bys E t = some nb) (hu : ∃ e2, E.P.underlying ty2 = some (.slice e2))
    (hlim : (n + m) * nb ≤ lim ∧ n + m ≤ lim) (hy : vLen y = some m) (hc : vCells L w m y = some new) (hnl : new.length = m * w) (hcell : new.all V.isCell = true) :
    ∃ v' ts', appO E false ⟨L, ts⟩ ty ty2 v y = some (v', ⟨L, ts'⟩) ∧ RowT ts' w v' (n + m) (cs ++ new) ∧ ts.length ≤ ts'.length ∧ (∀ k, tokOf v ≠ some k → k < ts.length → ts'[k]? = ts[k]?) ∧ (∀ k, tokOf v' = some k → tokOf v = some k ∨ ts.length ≤ k) := by
  obtain ⟨e2, hu⟩ := hu
  have hlen : (cs ++ new).length = (n + m) * w := by rw [List.length_append, h.1, hnl, Nat.add_mul]
  obtain ⟨hl, hcase⟩ := id h
  unfold appO
  simp only [he, hs, hb, hu, hz, hy, hc, Option.bind_some, if_true]
  by_cases h0 : m = 0
  · subst h0
    have hn : new = [] := List.eq_nil_of_length_eq_zero (by simpa using hnl)
    subst hn
    refine ⟨v, ts, ?_, by simpa using h, Nat.le_refl _, fun _ _ _ => rfl, fun _ h => .inl h⟩
    rcases hcase with ⟨rfl, rfl⟩ | ⟨cap, rfl, _⟩ <;> simp [aappend]
  · have new_tok : ∀ cells, cells.length = (n + m) * w → RowT (ts ++ [0]) w (.row cells (n + m) (.tok ts.length 0 w)) (n + m) cells ∧ ts.length ≤ (ts ++ [0]).length ∧ (∀ k, tokOf v ≠ some k → k < ts.length → (ts ++ [0])[k]? = ts[k]?) ∧ (∀ k, tokOf (.row cells (n + m) (.tok ts.length 0 w)) = some k → tokOf v = some k ∨ ts.length ≤ k) := fun cells hc =>
      ⟨⟨hc, .inr ⟨_, rfl, .inr ⟨ts.length, 0, rfl, by simp⟩⟩⟩, by simp, fun k _ hk => by rw [List.getElem?_append_left hk], fun k h => .inr (by simp only [tokOf, Option.some.injEq] at h; omega)⟩
    rcases hcase with ⟨rfl, rfl⟩ | ⟨cap, rfl, hcap⟩
    · have hx : cs = [] := List.eq_nil_of_length_eq_zero (by simpa using hl)
      subst hx
      obtain ⟨a1, a2, a3, a4⟩ := new_tok new (by simpa using hlen)
      simp only [Nat.zero_add] at hlim a1 a4
      refine ⟨.row new m (.tok ts.length 0 w), ts ++ [0], ?_, by simpa using a1, a2, a3, a4⟩
      simp [aappend, h0, hlim]
    · rcases hcap with rfl | ⟨k, e, rfl, hk⟩
      · obtain ⟨a1, a2, a3, a4⟩ := new_tok (cs ++ new) hlen
        refine ⟨.row (cs ++ new) (n + m) (.tok ts.length 0 w), ts ++ [0], ?_, a1, a2, a3, a4⟩
        simp only [aappend, h0, hlim, hl, hcell, and_self, if_true, if_false, Bool.false_eq_true]
      · refine ⟨.row (cs ++ new) (n + m) (.tok k (e + 1) w), ts.set k (e + 1), ?_, ⟨hlen, .inr ⟨_, rfl, .inr ⟨k, e + 1, rfl, by rw [List.getElem?_set_self (List.getElem?_eq_some_iff.1 hk).1]⟩⟩⟩, by simp, fun k' hk' _ => ?_, fun k' h => .inl h⟩
        · simp only [aappend, h0, hlim, hl, hcell, hk, and_self, if_true, if_false]
        · rw [List.getElem?_set_ne (fun e => hk' (by simp [tokOf, e]))]
theorem RowT.other {ts ts' : List Nat} {w n : Nat} {u : V} {cs : List V} (r : RowT ts w u n cs) (h : ∀ k, tokOf u = some k → k < ts.length → ts'[k]? = ts[k]?) : RowT ts' w u n cs := by
  obtain ⟨hl, h1 | ⟨cap, rfl, h2 | ⟨k, e, rfl, h3⟩⟩⟩ := r
  · exact ⟨hl, .inl h1⟩
  · exact ⟨hl, .inr ⟨cap, rfl, .inl h2⟩⟩
  · exact ⟨hl, .inr ⟨_, rfl, .inr ⟨k, e, rfl, by rw [h k rfl (List.getElem?_eq_some_iff.1 h3).1]; exact h3⟩⟩⟩
structure Two (ts : List Nat) (a : V) (s : List UInt8) (b : V) (rs : List Rec) : Prop where
  ra : RowT ts 1 a s.length (byteCells s)
  rb : ∃ cs, RowT ts 2 b rs.length cs ∧ RecC rs cs
  ne : ∀ k, tokOf a = some k → tokOf b ≠ some k
theorem fts55 : fieldTs env.P 55 = some [3, 53] := by kernel_rfl
theorem flatS1 : ∀ s : List (List UInt8), (s.map fun x => [V.str x]).flatten = s.map V.str
  | [] => rfl
  | x :: s => by simp only [List.map_cons, List.flatten_cons, flatS1 s]; rfl
structure ARec where
  r : Rec
  fv : V
  ok : (fv = .nilsl ∧ r.fs = []) ∨ fv = .row (r.fs.map .str) r.fs.length .unk
  b : IntKind.i64.min ≤ r.k ∧ r.k ≤ IntKind.i64.max ∧ r.fs.length ≤ maxLen ∧ ∀ f ∈ r.fs, f.length ≤ maxLen
def ARec.cs (a : ARec) : List V := [.int .i64 a.r.k, a.fv]
theorem ARec.fld (a : ARec) : Fld a.fv a.r.fs := a.ok.imp id fun h => ⟨_, h⟩
theorem tyd_R {x : List V} {k : Nat} (h : Tyd env.P (k + 3) 55 x) : ∃ a : ARec, x = a.cs := by
  obtain ⟨a, r, rfl, ha, c, r3, rfl, hc, rfl⟩ := tyd_struct h fts55
  obtain ⟨n, rfl, hn1, hn2⟩ := tyd_int ha u3
  rcases tyd_slice hc u53 with h | ⟨vss, h, hl, _, ht⟩
  · subst h
    exact ⟨⟨⟨n, []⟩, .nilsl, .inl ⟨rfl, rfl⟩, hn1, hn2, by simp, by simp⟩, rfl⟩
  · obtain ⟨ss, rfl⟩ := tyd_map (f := fun s : {s : List UInt8 // s.length ≤ maxLen} => [V.str s.1]) (fun x hx => by
      obtain ⟨s, rfl, hs⟩ := tyd_str hx u9
      exact ⟨⟨s, hs⟩, rfl⟩) ht
    subst h
    have e : (ss.map fun s => [V.str s.1]).flatten = (ss.map (·.1)).map V.str := by rw [← flatS1, List.map_map]; rfl
    exact ⟨⟨⟨n, ss.map (·.1)⟩, _, .inr rfl, hn1, hn2, by simpa using hl, fun f hf => by obtain ⟨x, _, rfl⟩ := List.mem_map.1 hf; exact x.2⟩, by simp only [ARec.cs, e, List.length_map]; rfl⟩
end Go.Proofs.YtncohjljeoknkaaDoor.D
namespace Go.Proofs.YtncohjljeoknkaaDoor.D
open Go.Ab
set_option maxHeartbeats 8000000
set_option maxRecDepth 100000
set_option linter.unusedSimpArgs false
set_option linter.unusedVariables false
theorem at41 : env.P.funcs[41]? = some Tryd.f41 := by kernel_rfl
theorem at42 : env.P.funcs[42]? = some Tryd.f42 := by kernel_rfl
theorem at43 : env.P.funcs[43]? = some Tryd.f43 := by kernel_rfl
theorem at45 : env.P.funcs[45]? = some Tryd.f45 := by kernel_rfl
theorem ty70 : fldOff env 70 0 = some 0 ∧ fldOff env 70 1 = some 1 ∧ fldOff env 70 2 = some 2 ∧ (∀ h p, aload env h 22 p = (loadCellsV h 1 p).bind (·[0]?)) ∧ (∀ h p, aload env h 58 p = (loadCellsV h 1 p).bind (·[0]?)) :=
  ⟨by kernel_rfl, by kernel_rfl, by kernel_rfl, fun _ _ => aload_one (by kernel_rfl), fun _ _ => aload_one (by kernel_rfl)⟩
theorem neq63 (b o : Nat) (cc : Bool) : binO env 63 cc .eql (some (.ptr b o)) (some .nilptr) = some (.bool false) := by cases cc <;> kernel_rfl
theorem neq22 (b o : Nat) (cc : Bool) : binO env 22 cc .eql (some (.ptr b o)) (some .nilptr) = some (.bool false) := by cases cc <;> kernel_rfl
theorem none_call {L : List AObj} {ts : List Nat} {j d : Nat} {a b : V} (h : L[j]? = some (.cells [.ptr d 0, a, b] 70)) : callFn env (ev env) 65 [.ptr j 0] ⟨L, ts⟩ = some (.bool false, ⟨L, ts⟩) := by
  refine callFn_eq rfl rfl at65 rfl (by simp [Tryd.f65]) (by simp [Tryd.f65]) (G_start ?_)
  simp -implicitDefEqProofs only [Tryd.f65,Wa,Wb,Wc,Wd,We,Wf,Wg,Wh,Wi,Wj,Wk,Wl,Wm,Wn,Zo,Zp,evalT,Nat.reduceLT,Nat.reduceEqDiff,if_true,if_false,reduceIte,Ys,ofVal,ofCell,argT,resT,setT,Y0,Int.reduceEq,Int.reduceLT,Int.reduceLE,Int.reduceNeg,mb,Nat.reduceBEq,tys,stb,Va,storeList,Nat.reduceAdd,Nat.reduceLeDiff,tyj,vBin_xor,vBin_or,vBin_shl,vBin_shr,ty70,neq63,neq22,opT_nilCheck,nilO_ptr,h]
  exact ⟨rfl, trivial⟩
def TB (v v' : V) (ts ts' : List Nat) : Prop := ts.length ≤ ts'.length ∧ (∀ k, tokOf v ≠ some k → k < ts.length → ts'[k]? = ts[k]?) ∧ ∀ k, tokOf v' = some k → tokOf v = some k ∨ ts.length ≤ k
theorem TB.of {v : V} {ts ts' : List Nat} (h : TK ts ts') : TB v v ts ts' := ⟨h.1, fun k _ hk => h.2 k hk, fun k hk => .inl hk⟩
structure JS (L : List AObj) (ts : List Nat) (j d : Nat) (s : DS) (rs : List Rec) (n : Nat) (bv dv : V) (lr : Int) (lv : V) : Prop where
  dk : Dk L d s bv dv lr
  cell : L[j]? = some (.cells [.ptr d 0, lv, .int .i64 n] 70)
  sep : ¬ fp d bv dv j
  row : ∃ cs, RowT ts 2 lv rs.length cs ∧ RecC rs cs
theorem synced_call {L : List AObj} {ts : List Nat} {j d n : Nat} {s : DS} {rs : List Rec} {bv dv lv : V} {lr : Int} (h : JS L ts j d s rs n bv dv lr lv) : callFn env (ev env) 43 [.ptr j 0] ⟨L, ts⟩ = some (.int .i64 n, ⟨L, ts⟩) := by
  have hc := h.cell
  have hN := none_call (ts := ts) hc
  refine callFn_eq rfl rfl at43 rfl (by simp [Tryd.f43]) (by simp [Tryd.f43]) (G_start ?_)
  simp -implicitDefEqProofs only [Tryd.f43,Wa,Wb,Wc,Wd,We,Wf,Wg,Wh,Wi,Wj,Wk,Wl,Wm,Wn,Zo,Zp,evalT,Nat.reduceLT,Nat.reduceEqDiff,if_true,if_false,reduceIte,Ys,ofVal,ofCell,argT,resT,setT,Y0,Int.reduceEq,Int.reduceLT,Int.reduceLE,Int.reduceNeg,mb,Nat.reduceBEq,tys,stb,Va,storeList,Nat.reduceAdd,Nat.reduceLeDiff,tyj,vBin_xor,vBin_or,vBin_shl,vBin_shr,ty70,hN,opT_nilCheck,nilO_ptr,hc]
  exact ⟨rfl, trivial⟩
theorem rowX_of {ts : List Nat} {lv : V} {rs : List Rec} (h : ∃ cs, RowT ts 2 lv rs.length cs ∧ RecC rs cs) : RowX lv rs := by
  obtain ⟨cs, h1, h2⟩ := h
  refine ⟨cs, h2, ?_⟩
  rcases h1.or with ⟨rfl, h0, _⟩ | ⟨cap, rfl⟩
  · exact .inl ⟨rfl, List.eq_nil_of_length_eq_zero h0⟩
  · exact .inr ⟨cap, rfl⟩
theorem records_call2 {L : List AObj} {ts : List Nat} {j d n : Nat} {s : DS} {rs : List Rec} {bv dv lv : V} {lr : Int} (h : JS L ts j d s rs n bv dv lr lv) (hl : rs.length ≤ 2 ^ 30) (hf : ∀ r ∈ rs, r.fs.length ≤ 2 ^ 30) :
    ∃ u L' ts', callFn env (ev env) 45 [.ptr j 0] ⟨L, ts⟩ = some (u, ⟨L', ts'⟩) ∧ Keep L L' ∧ TK ts ts' ∧ OutR L.length L' u rs := by
  have hc := h.cell
  have hN := none_call (ts := ts) hc
  obtain ⟨u, L', ts', h1, h2, h3, h4⟩ := copied_call (L := L) (ts := ts) (rowX_of h.row) hl hf
  refine ⟨u, L', ts', ?_, h2, h3, h4⟩
  refine callFn_eq rfl rfl at45 rfl (by simp [Tryd.f45]) (by simp [Tryd.f45]) (G_start ?_)
  simp -implicitDefEqProofs only [Tryd.f45,Wa,Wb,Wc,Wd,We,Wf,Wg,Wh,Wi,Wj,Wk,Wl,Wm,Wn,Zo,Zp,evalT,Nat.reduceLT,Nat.reduceEqDiff,if_true,if_false,reduceIte,Ys,ofVal,ofCell,argT,resT,setT,Y0,Int.reduceEq,Int.reduceLT,Int.reduceLE,Int.reduceNeg,mb,Nat.reduceBEq,tys,stb,Va,storeList,Nat.reduceAdd,Nat.reduceLeDiff,tyj,vBin_xor,vBin_or,vBin_shl,vBin_shr,ty70,hN,opT_nilCheck,nilO_ptr,hc,h1]
  exact ⟨rfl, trivial⟩
theorem Dk.mv {L L' : List AObj} {d : Nat} {s : DS} {bv dv : V} {lr : Int} (h : Dk L d s bv dv lr) (k : ∀ q, fp d bv dv q → L'[q]? = L[q]?) : Dk L' d s bv dv lr :=
  ⟨by rw [k d (.inl rfl)]; exact h.cell, h.buf.move fun q hq => k q (.inr (.inl hq)), h.dur.move fun q hq => k q (.inr (.inr hq)), h.bd, h.dd, h.bdv⟩
theorem Dk.flt {L : List AObj} {d : Nat} {s : DS} {bv dv : V} {lr : Int} (h : Dk L d s bv dv lr) {q : Nat} (hq : fp d bv dv q) : q < L.length := by
  rcases hq with rfl | hq | hq
  · exact B.lt_get h.cell
  · exact h.buf.rd.lt hq
  · exact h.dur.rd.lt hq
theorem jsync_call {L : List AObj} {ts : List Nat} {j d n : Nat} {s : DS} {rs : List Rec} {bv dv lv : V} {lr : Int} (h : JS L ts j d s rs n bv dv lr lv) (hl : s.D.length + s.P.length ≤ 2 ^ 38) :
    ∃ L' bv' dv' lr', callFn env (ev env) 42 [.ptr j 0] ⟨L, ts⟩ = some (.int .i64 (syncS s).2, ⟨L', ts⟩) ∧ JS L' ts j d (syncS s).1 rs (if (syncS s).2 = 0 then rs.length else n) bv' dv' lr' lv ∧ (∀ q, q < L.length → q ≠ j → ¬ fp d bv dv q → L'[q]? = L[q]?) ∧ L.length ≤ L'.length ∧ (∀ q, fp d bv' dv' q → fp d bv dv q ∨ L.length ≤ q) := by
  have hc := h.cell
  have hN := none_call (ts := ts) hc
  have hjl := B.lt_get hc
  obtain ⟨L1, bv', dv', lr', hS, hD, hSt⟩ := sync_call (ts := ts) h.dk hl
  have hc1 : L1[j]? = some (.cells [.ptr d 0, lv, .int .i64 n] 70) := by rw [hSt.2.1 j hjl h.sep]; exact hc
  have hsep : ¬ fp d bv' dv' j := fun hf => by
    rcases hSt.2.2 j hf with h' | h'
    · exact h.sep h'
    · omega
  have lrow : ∀ e, vLenT (some (.slice e)) lv = some (.int .i64 rs.length) := fun e => by
    obtain ⟨cs, h1, _⟩ := h.row
    exact h1.len e
  by_cases h0 : (syncS s).2 = 0
  · rw [if_pos h0]
    have hg : ∀ o, (L1.set j o)[j]? = some o := fun o => List.getElem?_set_self (by have := hSt.1; omega)
    refine ⟨L1.set j (.cells [.ptr d 0, lv, .int .i64 rs.length] 70), bv', dv', lr', ?_, ⟨?_, hg _, hsep, h.row⟩, fun q hq hqj hn => ?_, by rw [List.length_set]; exact hSt.1, hSt.2.2⟩
    · rw [h0] at hS ⊢
      refine callFn_eq rfl rfl at42 rfl (by simp [Tryd.f42]) (by simp [Tryd.f42]) (G_start ?_)
      simp -implicitDefEqProofs only [Tryd.f42,Wa,Wb,Wc,Wd,We,Wf,Wg,Wh,Wi,Wj,Wk,Wl,Wm,Wn,Zo,Zp,evalT,Nat.reduceLT,Nat.reduceEqDiff,if_true,if_false,reduceIte,Ys,ofVal,ofCell,argT,resT,setT,Y0,Int.reduceEq,Int.reduceLT,Int.reduceLE,Int.reduceNeg,mb,Nat.reduceBEq,tys,stb,Va,storeList,Nat.reduceAdd,Nat.reduceLeDiff,tyj,vBin_xor,vBin_or,vBin_shl,vBin_shr,ty70,hN,opT_nilCheck,nilO_ptr,hc,hS,hc1,lrow]
      exact ⟨rfl, rfl, trivial⟩
    · exact hD.mv fun q hq => by rw [List.getElem?_set_ne (fun e => hsep (by rw [e]; exact hq))]
    · rw [List.getElem?_set_ne (by omega)]; exact hSt.2.1 q hq hn
  · rw [if_neg h0]
    have h0' := eq_false h0
    refine ⟨L1, bv', dv', lr', ?_, ⟨hD, hc1, hsep, h.row⟩, fun q hq hqj hn => hSt.2.1 q hq hn, hSt.1, hSt.2.2⟩
    refine callFn_eq rfl rfl at42 rfl (by simp [Tryd.f42]) (by simp [Tryd.f42]) (G_start ?_)
    simp -implicitDefEqProofs only [Tryd.f42,Wa,Wb,Wc,Wd,We,Wf,Wg,Wh,Wi,Wj,Wk,Wl,Wm,Wn,Zo,Zp,evalT,Nat.reduceLT,Nat.reduceEqDiff,if_true,if_false,reduceIte,Ys,ofVal,ofCell,argT,resT,setT,Y0,Int.reduceEq,Int.reduceLT,Int.reduceLE,Int.reduceNeg,mb,Nat.reduceBEq,tys,stb,Va,storeList,Nat.reduceAdd,Nat.reduceLeDiff,tyj,vBin_xor,vBin_or,vBin_shl,vBin_shr,ty70,hN,opT_nilCheck,nilO_ptr,hc,hS,h0']
    exact ⟨rfl, trivial⟩
def appS (s : DS) (rs : List Rec) (r : Rec) : DS × Int × List Rec :=
  if chkR r = 0 then (if (wrS s (bytR r)).2 = 0 then ((wrS s (bytR r)).1, 0, rs ++ [r]) else ((wrS s (bytR r)).1, (wrS s (bytR r)).2, rs)) else (s, chkR r, rs)
theorem OutR.vc {n0 : Nat} {L : List AObj} {u : V} {rs : List Rec} (h : OutR n0 L u rs) : ∃ cs, RecC rs cs ∧ vLen u = some rs.length ∧ vCells L 2 rs.length u = some cs := by
  rcases h with ⟨rfl, rfl⟩ | ⟨rfl, rfl⟩ | ⟨b, cs, rfl, h1, h2, _⟩
  · exact ⟨[], rfl, rfl, rfl⟩
  · exact ⟨[], rfl, rfl, rfl⟩
  · have hl := h2.cell.2
    refine ⟨cs, h2, rfl, ?_⟩
    have ht : cs.take (rs.length * 2) = cs := List.take_of_length_le (by omega)
    simp [vCells, h1, hl, ht]
theorem RecC.app {rs qs : List Rec} {cs ds : List V} (h : RecC rs cs) (k : RecC qs ds) : RecC (rs ++ qs) (cs ++ ds) := by
  induction rs generalizing cs with
  | nil => simp only [RecC] at h; subst h; exact k
  | cons a rs ih =>
    obtain ⟨gv, cs', rfl, h1, h2⟩ := h
    exact ⟨gv, cs' ++ ds, rfl, h1, ih h2⟩
theorem jappend_call {L : List AObj} {ts : List Nat} {j d n : Nat} {s : DS} {rs : List Rec} {bv dv lv : V} {lr : Int} (h : JS L ts j d s rs n bv dv lr lv) (hok : OkS s) {r : Rec} {fv : V} (hf : Fld fv r.fs) (hfl : r.fs.length ≤ 2 ^ 30) (hrl : rs.length ≤ 2 ^ 29) (hl : s.D.length + s.P.length ≤ 2 ^ 37) :
    ∃ L' ts' bv' dv' lr' lv', callFn env (ev env) 41 [.ptr j 0, .agg [.int .i64 r.k, fv]] ⟨L, ts⟩ = some (.int .i64 (appS s rs r).2.1, ⟨L', ts'⟩) ∧ JS L' ts' j d (appS s rs r).1 (appS s rs r).2.2 n bv' dv' lr' lv' ∧ TB lv lv' ts ts' ∧ (∀ q, q < L.length → q ≠ j → ¬ fp d bv dv q → L'[q]? = L[q]?) ∧ L.length ≤ L'.length ∧ (∀ q, fp d bv' dv' q → fp d bv dv q ∨ L.length ≤ q) := by
  have hjl := B.lt_get h.cell
  have k0 := Keep.app L [.cells [.int .i64 r.k, fv] 55]
  have hc0 := k0.get h.cell
  have hN := none_call (ts := ts) hc0
  obtain ⟨x, L1, hB, hK1, hX⟩ := bytes_rec (L := L ++ [.cells [.int .i64 r.k, fv] 55]) (ts := ts) hf (by omega)
  have qe : loadCellsV (L ++ [AObj.cells [.int .i64 r.k, fv] 55]) 2 (.ptr L.length 0) = some [.int .i64 r.k, fv] := by simp [loadCellsV]
  have k1 := k0.trans hK1
  have hc1 := k1.get h.cell
  have hD1 := h.dk.keep k1
  have low : ∀ q, q < L.length → q ≠ j → ¬ fp d bv dv q → L1[q]? = L[q]? := fun q hq _ _ => k1.2 q hq
  unfold appS
  by_cases h0 : chkR r = 0
  · rw [if_pos h0] at hX
    simp only [h0, if_true]
    rw [h0] at hB
    have hbl := bytR_len r
    obtain ⟨_, _, _, _, h5⟩ := chk0 h0
    have hxd : blkOf x ≠ some d := fun e => by have e1 := hX.2 d e; have e2 := B.lt_get h.dk.cell; rw [List.length_append] at e1; omega
    obtain ⟨L2, bv2, dv2, lr2, hW, hD2, hS2⟩ := wr_call (ts := ts) hD1 hok hX.1.rd hxd (by omega)
    have hj2 : L2[j]? = some (.cells [.ptr d 0, lv, .int .i64 n] 70) := by rw [hS2.2.1 j (by have := k1.1; omega) h.sep]; exact hc1
    have hsep2 : ¬ fp d bv2 dv2 j := fun hf => by
      rcases hS2.2.2 j hf with h' | h'
      · exact h.sep h'
      · have := k1.1; omega
    have low2 : ∀ q, q < L.length → q ≠ j → ¬ fp d bv dv q → L2[q]? = L[q]? := fun q hq hj hn => by rw [hS2.2.1 q (by have := k1.1; omega) hn, k1.2 q hq]
    have len2 : L.length ≤ L2.length := Nat.le_trans k1.1 hS2.1
    have fp2 : ∀ q, fp d bv2 dv2 q → fp d bv dv q ∨ L.length ≤ q := fun q hq => (hS2.2.2 q hq).imp id fun h' => Nat.le_trans k1.1 h'
    by_cases hw : (wrS s (bytR r)).2 = 0
    · simp only [hw, if_true]
      rw [hw] at hW
      have hbox1 : L1[L.length]? = some (.cells [.int .i64 r.k, fv] 55) := hK1.get (by simp)
      have hbox2 : L2[L.length]? = some (.cells [.int .i64 r.k, fv] 55) := by rw [hS2.2.1 L.length (B.lt_get hbox1) (fun hfp => by have := h.dk.flt hfp; omega)]; exact hbox1
      have hr58 := row58 (.int .i64 r.k) fv rfl hf.cells
      obtain ⟨u, L3, ts3, hC, hK3, hT3, hO⟩ := copied_call (L := L2) (ts := ts) (v := .row [.int .i64 r.k, fv] 1 .full) (rs := [r]) ⟨[.int .i64 r.k, fv], ⟨fv, [], rfl, hf, rfl⟩, .inr ⟨.full, rfl⟩⟩ (by simp) (fun q hq => by rw [List.mem_singleton.1 hq]; exact hfl)
      obtain ⟨cs, hr1, hr2⟩ := h.row
      obtain ⟨ds, hu1, hu2, hu3⟩ := hO.vc
      have hlim : (rs.length + [r].length) * 32 ≤ lim ∧ rs.length + [r].length ≤ lim := by unfold lim; simp; omega
      obtain ⟨lv', ts4, hA, hrow4, a3, a4, a5⟩ := RowT.appendF (E := env) (L := L3) (hT3.row hr1) (y := u) (m := [r].length) (new := ds) (nb := 32) e58 s55 (by kernel_rfl) (by kernel_rfl) ⟨55, u58⟩ hlim hu2 hu3 hu1.cell.2 hu1.cell.1
      have hj3 := hK3.get hj2
      have hj3l := B.lt_get hj3
      have hg : ∀ o, (L3.set j o)[j]? = some o := fun o => List.getElem?_set_self hj3l
      have hld2 : loadCellsV L2 2 (.ptr L.length 0) = some [.int .i64 r.k, fv] := by simp [loadCellsV, hbox2]
      have lvc := hrow4.cells
      have m41 : ∀ r, env.mutb 41 r = false := fun _ => rfl
      refine ⟨L3.set j (.cells [.ptr d 0, lv', .int .i64 n] 70), ts4, bv2, dv2, lr2, lv', ?_, ⟨?_, hg _, hsep2, ⟨cs ++ ds, by rw [List.length_append]; exact hrow4, hr2.app hu1⟩⟩, ⟨Nat.le_trans hT3.1 a3, fun k hk hlt => ?_, fun k hk => ?_⟩, fun q hq hqj hn => ?_, by rw [List.length_set]; exact Nat.le_trans len2 hK3.1, fp2⟩
      · refine callFn_eq rfl rfl at41 rfl (by simp [Tryd.f41]) (by simp [Tryd.f41]) (G_start ?_)
        simp -implicitDefEqProofs only [Tryd.f41,Wa,Wb,Wc,Wd,We,Wf,Wg,Wh,Wi,Wj,Wk,Wl,Wm,Wn,Zo,Zp,evalT,Nat.reduceLT,Nat.reduceEqDiff,if_true,if_false,reduceIte,Ys,ofVal,ofCell,argT,resT,setT,Y0,Int.reduceEq,Int.reduceLT,Int.reduceLE,Int.reduceNeg,mb,Nat.reduceBEq,tys,stb,Va,storeList,Nat.reduceAdd,Nat.reduceLeDiff,tyj,vBin_xor,vBin_or,vBin_shl,vBin_shr,ty70,hN,opT_nilCheck,nilO_ptr,hf.cells,hf.isCell,agg55,qe,hB,hc1,hW]
        refine G_win rfl [(false, []), (false, []), (false, []), (false, []), (false, [1]), (false, []), (false, []), (true, []), (true, []), (false, []), (false, []), (true, [])] (fun m s0 => m ≤ 1 → s0.heap[j]? = some (.cells [.ptr d 0, lv, .int .i64 n] 70)) (fun _ => hj2) (by kernel_rfl) (by kernel_rfl) ?_
        simp -implicitDefEqProofs only [Wa,Wb,Wc,Wd,We,Wf,Wg,Wh,Wi,Wj,Wk,Wl,Wm,Wn,Zo,Zp,evalT,Nat.reduceLT,Nat.reduceEqDiff,if_true,if_false,reduceIte,Ys,ofVal,ofCell,argT,resT,setT,Y0,Int.reduceEq,Int.reduceLT,Int.reduceLE,Int.reduceNeg,mb,Nat.reduceBEq,tys,stb,Va,storeList,Nat.reduceAdd,Nat.reduceLeDiff,tyj,vBin_xor,vBin_or,vBin_shl,vBin_shr,ty70,GW_nil,GW_op,GWS_0,GWS_0n,GWS_1,GWS_1n,GWS_m,GWS_ite,GWS_nite,AllM_nil,AllM_cons,aread_load,opT_nilCheck,nilO_ptr,agg55,hj2,hld2,opT_rowB,hr58,hC,m41,hA,hj3,lvc]
        exact ⟨⟨fun s0 e => by rw [e]; rfl, trivial⟩, rfl, trivial⟩
      · exact (hD2.keep hK3).mv fun q hq => by rw [List.getElem?_set_ne (fun e => hsep2 (by rw [e]; exact hq))]
      · rw [a4 k hk (Nat.lt_of_lt_of_le hlt hT3.1), hT3.2 k hlt]
      · rcases a5 k hk with e | e
        · exact .inl e
        · exact .inr (Nat.le_trans hT3.1 e)
      · rw [List.getElem?_set_ne (by omega), hK3.2 q (Nat.lt_of_lt_of_le hq len2)]; exact low2 q hq hqj hn
    · simp only [hw, if_false]
      have hw' := eq_false hw
      refine ⟨L2, ts, bv2, dv2, lr2, lv, ?_, ⟨hD2, hj2, hsep2, h.row⟩, TB.of (TK.refl _), low2, len2, fp2⟩
      refine callFn_eq rfl rfl at41 rfl (by simp [Tryd.f41]) (by simp [Tryd.f41]) (G_start ?_)
      simp -implicitDefEqProofs only [Tryd.f41,Wa,Wb,Wc,Wd,We,Wf,Wg,Wh,Wi,Wj,Wk,Wl,Wm,Wn,Zo,Zp,evalT,Nat.reduceLT,Nat.reduceEqDiff,if_true,if_false,reduceIte,Ys,ofVal,ofCell,argT,resT,setT,Y0,Int.reduceEq,Int.reduceLT,Int.reduceLE,Int.reduceNeg,mb,Nat.reduceBEq,tys,stb,Va,storeList,Nat.reduceAdd,Nat.reduceLeDiff,tyj,vBin_xor,vBin_or,vBin_shl,vBin_shr,ty70,hN,opT_nilCheck,nilO_ptr,hf.cells,hf.isCell,agg55,qe,hB,hc1,hW,hw']
      exact ⟨rfl, trivial⟩
  · simp only [h0, if_false]
    have h0' := eq_false h0
    refine ⟨L1, ts, bv, dv, lr, lv, ?_, ⟨hD1, hc1, h.sep, h.row⟩, TB.of (TK.refl _), low, k1.1, fun q hq => .inl hq⟩
    refine callFn_eq rfl rfl at41 rfl (by simp [Tryd.f41]) (by simp [Tryd.f41]) (G_start ?_)
    simp -implicitDefEqProofs only [Tryd.f41,Wa,Wb,Wc,Wd,We,Wf,Wg,Wh,Wi,Wj,Wk,Wl,Wm,Wn,Zo,Zp,evalT,Nat.reduceLT,Nat.reduceEqDiff,if_true,if_false,reduceIte,Ys,ofVal,ofCell,argT,resT,setT,Y0,Int.reduceEq,Int.reduceLT,Int.reduceLE,Int.reduceNeg,mb,Nat.reduceBEq,tys,stb,Va,storeList,Nat.reduceAdd,Nat.reduceLeDiff,tyj,vBin_xor,vBin_or,vBin_shl,vBin_shr,ty70,hN,opT_nilCheck,nilO_ptr,hf.cells,hf.isCell,agg55,qe,hB,h0']
    exact ⟨rfl, trivial⟩
end Go.Proofs.YtncohjljeoknkaaDoor.D
namespace Go.Proofs.YtncohjljeoknkaaDoor.D
open Go.Ab
set_option maxHeartbeats 8000000
set_option maxRecDepth 100000
set_option linter.unusedSimpArgs false
set_option linter.unusedVariables false
theorem at40 : env.P.funcs[40]? = some Tryd.f40 := by kernel_rfl
theorem bd70 (d : Nat) (lv : V) (n : Int) (hv : lv.cells = [lv]) : buildO env 70 [(0, .ptr d 0), (1, lv), (2, .int .i64 n)] = some (.agg [.ptr d 0, lv, .int .i64 n]) := by
  have z : zeroV env 70 = some (.agg [.nilptr, .nilsl, .int .i64 0]) := by kernel_rfl
  obtain ⟨pl, hp, h0, h1, h2⟩ : ∃ pl, placesOf env 70 = some pl ∧ pl 0 = some (0, 1) ∧ pl 1 = some (1, 1) ∧ pl 2 = some (2, 1) := ⟨_, rfl, by kernel_rfl, by kernel_rfl, by kernel_rfl⟩
  have hpc : (V.ptr d 0).cells = [.ptr d 0] := rfl
  unfold buildO
  simp [z, hp, vFill, h0, h1, h2, hv, YW, Y6, hpc]
theorem readN_len : ∀ (f : Nat) (t : List UInt8), t.length ≤ f → (readN f t).1.length ≤ t.length ∧ (readN f t).2 ≤ t.length
  | 0, t, _ => by simp [readN]
  | f + 1, t, hf => by
    unfold readN
    cases ho : oneR t with
    | none => simp
    | some x =>
      obtain ⟨r, n⟩ := x
      obtain ⟨h1, h2, _⟩ := oneR_le ho
      have ih := readN_len f (t.drop n) (by rw [List.length_drop]; omega)
      rw [List.length_drop] at ih
      simp only [List.length_cons]
      omega
theorem readN_ok : ∀ (f : Nat) (t : List UInt8), ∀ r ∈ (readN f t).1, chkR r = 0
  | 0, t, r, h => by simp [readN] at h
  | f + 1, t, r, h => by
    unfold readN at h
    cases ho : oneR t with
    | none => rw [ho] at h; simp at h
    | some x =>
      obtain ⟨r', n⟩ := x
      rw [ho] at h
      simp only [List.mem_cons] at h
      rcases h with rfl | h
      · exact (oneR_le ho).2.2
      · exact readN_ok f _ r h
theorem open_ok {L : List AObj} {ts : List Nat} {d : Nat} {s : DS} {bv dv : V} {lr : Int} (h : Dk L d s bv dv lr) (hst : s.stop = false) (hP : s.P = []) (hl : s.D.length ≤ 2 ^ 28) :
    ∃ L' ts' bv' dv' lr' j lv u, callFn env (ev env) 40 [.ptr d 0] ⟨L, ts⟩ = some (.tup [.ptr j 0, u, .int .i64 0], ⟨L', ts'⟩) ∧ JS L' ts' j d ⟨s.D.take (readR s.D).2, [], s.left, false⟩ (readR s.D).1 (readR s.D).1.length bv' dv' lr' lv ∧ OutR L.length L' u (readR s.D).1 ∧ TK ts ts' ∧ (∀ k, tokOf lv = some k → ts.length ≤ k) ∧
      (∀ q, q < L.length → ¬ fp d bv dv q → L'[q]? = L[q]?) ∧ L.length ≤ L'.length ∧ (∀ q, fp d bv' dv' q → fp d bv dv q ∨ L.length ≤ q) ∧ L.length ≤ j := by
  obtain ⟨D, P, left, stop⟩ := s
  simp only at hst hP hl
  subst hst hP
  have hcut1 : cutS ⟨D, [], left, false⟩ (D.length : Int) = (⟨D, [], left, false⟩, 0) := by
    unfold cutS; simp
  obtain ⟨hn1, hn2⟩ := readN_len D.length D (Nat.le_refl _)
  have hcut2 : cutS ⟨D, [], left, false⟩ ((readR D).2 : Int) = (⟨D.take (readR D).2, [], left, false⟩, 0) := by
    have h1 : (readR D).2 ≤ D.length := hn2
    unfold cutS
    simp; omega
  have hok : ∀ r ∈ (readR D).1, r.fs.length ≤ 2 ^ 30 := fun r hr => by have := (chk0 (readN_ok _ _ r hr)).2.2.1; omega
  obtain ⟨v1, L1, hD1, hO1, hK1, _⟩ := durable_call (ts := ts) h (by show D.length ≤ _; omega)
  have len1 := hO1.rd.lenT 5
  obtain ⟨L2, bv2, dv2, lr2, hC2, hDk2, hS2⟩ := cut_call (ts := ts) (D.length : Int) (h.keep hK1) (by show D.length + 0 ≤ _; omega)
  rw [hcut1] at hC2 hDk2
  obtain ⟨v3, L3, hD3, hO3, hK3, _⟩ := durable_call (ts := ts) hDk2 (by show D.length ≤ _; omega)
  obtain ⟨lv, L4, ts4, hR4, hK4, hT4, hrow4⟩ := read_call (ts := ts) hO3.rd (by show D.length ≤ _; omega)
  have hDk4 := (hDk2.keep hK3).keep hK4
  obtain ⟨L5, bv5, dv5, lr5, hC5, hDk5, hS5⟩ := cut_call (ts := ts4) ((readR D).2 : Int) hDk4 (by show D.length + 0 ≤ _; omega)
  rw [hcut2] at hC5 hDk5
  have hrowc := hrow4.cells
  have lenlv : ∀ e, vLenT (some (.slice e)) lv = some (.int .i64 (readR D).1.length) := fun e => by
    obtain ⟨cs, h1, _⟩ := hrow4
    exact h1.1.len e
  obtain ⟨u, L7, ts7, hC7, hK7, hT7, hO7⟩ := copied_call (L := L5 ++ [.cells [.ptr d 0, lv, .int .i64 (readR D).1.length] 70]) (ts := ts4) hrow4.x (by show (readN D.length D).1.length ≤ _; omega) hok
  have len12 : L.length ≤ L2.length := Nat.le_trans hK1.1 hS2.1
  have len24 : L2.length ≤ L4.length := Nat.le_trans hK3.1 hK4.1
  have len45 : L4.length ≤ L5.length := hS5.1
  have low : ∀ q, q < L.length → ¬ fp d bv dv q → L5[q]? = L[q]? := fun q hq hn => by
    have n2 : ¬ fp d bv2 dv2 q := fun hf => by
      rcases hS2.2.2 q hf with h' | h'
      · exact hn h'
      · have := hK1.1; omega
    rw [hS5.2.1 q (by omega) n2, hK4.2 q (by have := hK3.1; omega), hK3.2 q (by omega), hS2.2.1 q (by have := hK1.1; omega) hn, hK1.2 q hq]
  have fpn : ∀ q, fp d bv5 dv5 q → fp d bv dv q ∨ L.length ≤ q := fun q hq => by
    rcases hS5.2.2 q hq with h' | h'
    · rcases hS2.2.2 q h' with h'' | h''
      · exact .inl h''
      · exact .inr (by have := hK1.1; omega)
    · exact .inr (by omega)
  have kb := Keep.app L5 [.cells [.ptr d 0, lv, .int .i64 (readR D).1.length] 70]
  have hj : L7[L5.length]? = some (.cells [.ptr d 0, lv, .int .i64 (readR D).1.length] 70) := hK7.get (by simp)
  have hsep : ¬ fp d bv5 dv5 L5.length := fun hf => by have := hDk5.flt hf; omega
  refine ⟨L7, ts7, bv5, dv5, lr5, L5.length, lv, u, ?_, ⟨(hDk5.keep kb).keep hK7, hj, hsep, ?_⟩, ?_, hT4.trans hT7, ?_, ?_, ?_, fpn, by omega⟩
  · have hb70 := bd70 d lv (readR D).1.length hrowc.1
    refine callFn_eq rfl rfl at40 rfl (by simp [Tryd.f40]) (by simp [Tryd.f40]) (G_start ?_)
    simp -implicitDefEqProofs only [Tryd.f40,Wa,Wb,Wc,Wd,We,Wf,Wg,Wh,Wi,Wj,Wk,Wl,Wm,Wn,Zo,Zp,evalT,Nat.reduceLT,Nat.reduceEqDiff,if_true,if_false,reduceIte,Ys,ofVal,ofCell,argT,resT,setT,Y0,Int.reduceEq,Int.reduceLT,Int.reduceLE,Int.reduceNeg,mb,Nat.reduceBEq,tys,stb,Va,storeList,Nat.reduceAdd,Nat.reduceLeDiff,tyj,vBin_xor,vBin_or,vBin_shl,vBin_shr,ty70,hD1,len1,hC2,hD3,hR4,hC5,lenlv,hb70,hrowc,hC7]
    exact ⟨rfl, trivial⟩
  · obtain ⟨cs, h1, h2⟩ := hrow4
    exact ⟨cs, hT7.row h1.1, h2⟩
  · rcases hO7 with h' | h' | ⟨b, cs, e1, e2, e3, e4⟩
    · exact .inl h'
    · exact .inr (.inl h')
    · exact .inr (.inr ⟨b, cs, e1, e2, e3, by simp at e4; omega⟩)
  · intro k hk
    obtain ⟨cs, ⟨h1, h2⟩, _⟩ := hrow4
    rcases h1.or with ⟨rfl, _, _⟩ | ⟨cap, rfl⟩
    · cases hk
    · cases cap with
      | tok k' e w => simp only [tokOf, Option.some.injEq] at hk; subst hk; exact h2 _ _ _ _ _ rfl
      | _ => cases hk
  · intro q hq hn
    rw [hK7.2 q (by simp; omega), kb.2 q (by omega)]
    exact low q hq hn
  · have := hK7.1; simp at this; omega
end Go.Proofs.YtncohjljeoknkaaDoor.D
namespace Go.Proofs.YtncohjljeoknkaaDoor.D
open Go.Ab
set_option linter.unusedVariables false
set_option linter.unusedSimpArgs false
def Torn (part : List UInt8) : Prop := ∀ m, oneR (part.take m) = none
theorem torn_nil : Torn [] := fun m => by simp [one_nil]
theorem torn_cut {r : Rec} (h : chkR r = 0) {c : Nat} (hc : c < (bytR r).length) : Torn ((bytR r).take c) := fun m => by
  rw [List.take_take]
  exact one_cut h (by omega)
def encR (rs : List Rec) : List UInt8 := rs.flatMap bytR
theorem encR_cons (r : Rec) (rs : List Rec) : encR (r :: rs) = bytR r ++ encR rs := rfl
theorem encR_snoc (rs : List Rec) (r : Rec) : encR (rs ++ [r]) = encR rs ++ bytR r := by simp [encR]
theorem read_pre : ∀ (rs : List Rec) (part : List UInt8) (c f : Nat), (∀ r ∈ rs, chkR r = 0) → Torn part → ((encR rs ++ part).take c).length ≤ f →
    ∃ k, k ≤ rs.length ∧ readN f ((encR rs ++ part).take c) = (rs.take k, (encR (rs.take k)).length) ∧ ((encR rs ++ part).take c).take (encR (rs.take k)).length = encR (rs.take k) ∧ ∀ n, n ≤ rs.length → (encR (rs.take n)).length ≤ c → n ≤ k
  | [], part, c, f, _, hp, hf => by
    refine ⟨0, Nat.le_refl _, ?_, by simp [encR], fun n hn _ => by simpa using hn⟩
    have e : encR [] ++ part = part := rfl
    rw [e]
    cases f with
    | zero => rfl
    | succ f => simp only [readN, hp c]; rfl
  | r :: rs, part, c, f, h, hp, hf => by
    have hr := h r (by simp)
    have e : encR (r :: rs) ++ part = bytR r ++ (encR rs ++ part) := by rw [encR_cons, List.append_assoc]
    have hbl := bytR_len r
    rw [e] at hf ⊢
    by_cases hc : c < (bytR r).length
    · refine ⟨0, Nat.zero_le _, ?_, by simp [encR], fun n hn hl => ?_⟩
      · have e2 : (bytR r ++ (encR rs ++ part)).take c = (bytR r).take c := List.take_append_of_le_length (by omega)
        rw [e2]
        cases f with
        | zero => rfl
        | succ f => simp only [readN, one_cut hr hc]; rfl
      · cases n with
        | zero => exact Nat.le_refl _
        | succ n =>
          rw [List.take_succ_cons, encR_cons, List.length_append] at hl
          omega
    · have e2 : (bytR r ++ (encR rs ++ part)).take c = bytR r ++ (encR rs ++ part).take (c - (bytR r).length) := by
        rw [List.take_append, List.take_of_length_le (by omega)]
      rw [e2, List.length_append] at hf
      obtain ⟨f, rfl⟩ : ∃ f', f = f' + 1 := ⟨f - 1, by omega⟩
      obtain ⟨k, h1, h2, h3, h4⟩ := read_pre rs part (c - (bytR r).length) f (fun q hq => h q (by simp [hq])) hp (by omega)
      refine ⟨k + 1, by simpa using h1, ?_, ?_, fun n hn hl => ?_⟩
      · rw [e2]
        simp only [readN, one_enc hr, List.drop_left' rfl, h2, List.take_succ_cons, encR_cons, List.length_append]
      · rw [e2, List.take_succ_cons, encR_cons, List.length_append, List.take_append, List.take_of_length_le (by omega), Nat.add_sub_cancel_left, h3]
      · cases n with
        | zero => omega
        | succ n =>
          rw [List.take_succ_cons, encR_cons, List.length_append] at hl
          have := h4 n (by simpa using hn) (by omega)
          omega
structure Inv (s : DS) (rs : List Rec) (n : Nat) : Prop where
  bytes : ∃ part, s.D ++ s.P = encR rs ++ part ∧ Torn part ∧ (s.stop = false → part = [])
  sync : n ≤ rs.length ∧ (encR (rs.take n)).length ≤ s.D.length
  ok : ∀ r ∈ rs, chkR r = 0
  left : OkS s
theorem Inv.append {s : DS} {rs : List Rec} {n : Nat} (h : Inv s rs n) (r : Rec) : Inv (appS s rs r).1 (appS s rs r).2.2 n := by
  obtain ⟨⟨part, hb, ht, hst⟩, ⟨h1, h2⟩, hok, hl⟩ := h
  unfold appS
  by_cases h0 : chkR r = 0
  · simp only [h0, if_true]
    have hok' : ∀ q ∈ rs ++ [r], chkR q = 0 := fun q hq => by
      rcases List.mem_append.1 hq with h | h
      · exact hok q h
      · rw [List.mem_singleton.1 h]; exact h0
    have htk : (rs ++ [r]).take n = rs.take n := List.take_append_of_le_length h1
    unfold wrS
    cases hs : s.stop with
    | true =>
      simp
      exact ⟨⟨part, hb, ht, fun e => by rw [hs] at e; cases e⟩, ⟨h1, h2⟩, hok, hl⟩
    | false =>
      have hpe := hst hs
      subst hpe
      rw [List.append_nil] at hb
      simp only [Bool.false_eq_true, if_false]
      by_cases hm : s.left = -1
      · simp only [hm, if_true]
        refine ⟨⟨[], ?_, torn_nil, fun _ => rfl⟩, ⟨by simp; omega, by rw [htk]; exact h2⟩, hok', ⟨by simp, by simp⟩⟩
        simp only [List.append_nil, encR_snoc]
        rw [← hb, List.append_assoc]
      · simp only [hm, if_false]
        by_cases hlt : s.left < ((bytR r).length : Int)
        · simp only [hlt, if_true]
          rw [if_neg (by omega)]
          have hl0 : 0 ≤ s.left := by have := hl.1; omega
          refine ⟨⟨(bytR r).take s.left.toNat, ?_, torn_cut h0 (by omega), fun e => by cases e⟩, ⟨h1, h2⟩, hok, ⟨by simp, by simp⟩⟩
          rw [← hb, List.append_assoc]
        · simp only [hlt, if_false, if_true]
          refine ⟨⟨[], ?_, torn_nil, fun _ => rfl⟩, ⟨by simp; omega, by rw [htk]; exact h2⟩, hok', ?_⟩
          · simp only [List.append_nil, encR_snoc]
            rw [← hb, List.append_assoc]
          · have := hl.1; have := hl.2
            constructor <;> simp only <;> omega
  · simp only [h0, if_false]
    exact ⟨⟨part, hb, ht, hst⟩, ⟨h1, h2⟩, hok, hl⟩
theorem Inv.sync' {s : DS} {rs : List Rec} {n : Nat} (h : Inv s rs n) : Inv (syncS s).1 rs (if (syncS s).2 = 0 then rs.length else n) := by
  obtain ⟨⟨part, hb, ht, hst⟩, ⟨h1, h2⟩, hok, hl⟩ := h
  unfold syncS
  cases hs : s.stop with
  | true =>
    simp
    exact ⟨⟨part, hb, ht, fun e => by rw [hs] at e; cases e⟩, ⟨h1, h2⟩, hok, hl⟩
  | false =>
    have hpe := hst hs
    subst hpe
    simp only [Bool.false_eq_true, if_false]
    by_cases hm : s.left = 0
    · simp only [hm, if_true]
      rw [if_neg (by omega)]
      exact ⟨⟨[], hb, torn_nil, fun _ => rfl⟩, ⟨h1, h2⟩, hok, ⟨by simp, by simp⟩⟩
    · simp only [hm, if_false, if_true]
      refine ⟨⟨[], by simpa using hb, torn_nil, fun _ => rfl⟩, ⟨Nat.le_refl _, ?_⟩, hok, hl⟩
      rw [List.take_length]
      show _ ≤ (s.D ++ s.P).length
      rw [hb]; simp
theorem Inv.fuse {s : DS} {rs : List Rec} {n : Nat} (h : Inv s rs n) (k : Int) (hk : k ≤ 9223372036854775807) : Inv (fuseS s k).1 rs n := by
  obtain ⟨⟨part, hb, ht, hst⟩, hsy, hok, hl⟩ := h
  unfold fuseS
  by_cases h1 : k < -1
  · rw [if_pos h1]; exact ⟨⟨part, hb, ht, hst⟩, hsy, hok, hl⟩
  · rw [if_neg h1]
    cases hs : s.stop with
    | true => simp; exact ⟨⟨part, hb, ht, hst⟩, hsy, hok, hl⟩
    | false => simp; exact ⟨⟨part, hb, ht, fun _ => hst hs⟩, hsy, hok, ⟨by simp only; omega, by simp only; omega⟩⟩
theorem Inv.crash {s : DS} {rs : List Rec} {n : Nat} (h : Inv s rs n) {k : Int} (hk : ¬ k < 0) :
    ∃ m, n ≤ m ∧ m ≤ rs.length ∧ (readR (crashS s k).1.D).1 = rs.take m ∧ (crashS s k).1.stop = false ∧ (crashS s k).1.P = [] ∧ (crashS s k).2 = 0 ∧ (crashS s k).1.D.length ≤ s.D.length + s.P.length ∧
      Inv ⟨(crashS s k).1.D.take (readR (crashS s k).1.D).2, [], (crashS s k).1.left, false⟩ (rs.take m) (rs.take m).length := by
  obtain ⟨⟨part, hb, ht, hst⟩, ⟨h1, h2⟩, hok, hl⟩ := h
  have hc : crashS s k = (⟨s.D ++ s.P.take k.toNat, [], -1, false⟩, 0) := by unfold crashS; rw [if_neg hk]
  have hD : s.D ++ s.P.take k.toNat = (encR rs ++ part).take (s.D.length + (s.P.take k.toNat).length) := by
    have e1 : ∀ x, s.D.take (s.D.length + x) = s.D := fun x => List.take_of_length_le (by omega)
    have e2 : s.P.take (s.P.take k.toNat).length = s.P.take k.toNat := by
      rw [List.length_take, ← List.take_take, List.take_length]
    rw [← hb, List.take_append, e1, Nat.add_sub_cancel_left, e2]
  have hlen : (s.P.take k.toNat).length ≤ s.P.length := by rw [List.length_take]; omega
  generalize hcc : s.D.length + (s.P.take k.toNat).length = c at hD
  obtain ⟨m, m1, m2, m3, m4⟩ := read_pre rs part c _ hok ht (Nat.le_refl _)
  have hR : readR ((encR rs ++ part).take c) = (rs.take m, (encR (rs.take m)).length) := m2
  have hD' : (crashS s k).1.D = (encR rs ++ part).take c := by rw [hc]; exact hD
  refine ⟨m, m4 n h1 (by omega), m1, by rw [hD', hR], by rw [hc], by rw [hc], by rw [hc], ?_, ?_⟩
  · rw [hD', List.length_take]; omega
  · have hl' : (crashS s k).1.left = -1 := by rw [hc]
    rw [hD', hR, hl']
    refine ⟨⟨[], ?_, torn_nil, fun _ => rfl⟩, ⟨Nat.le_refl _, ?_⟩, fun r hr => hok r (List.mem_of_mem_take hr), ⟨by simp, by simp⟩⟩
    · simp only [List.append_nil]; exact m3
    · rw [List.take_length]
      show _ ≤ (((encR rs ++ part).take c).take (encR (rs.take m)).length).length
      rw [m3]; exact Nat.le_refl _
theorem inv0 : Inv ⟨[], [], -1, false⟩ [] 0 := ⟨⟨[], rfl, torn_nil, fun _ => rfl⟩, ⟨Nat.le_refl _, Nat.le_refl _⟩, fun r hr => by simp at hr, ⟨by simp, by simp⟩⟩
end Go.Proofs.YtncohjljeoknkaaDoor.D
namespace Go.Proofs.YtncohjljeoknkaaDoor.D
open Go.Ab
set_option maxHeartbeats 8000000
set_option maxRecDepth 100000
set_option linter.unusedSimpArgs false
set_option linter.unusedVariables false
theorem at12 : env.P.funcs[12]? = some Tryd.f12 := by kernel_rfl
structure KA where
  kind : Int
  n : Int
  r : Rec
  fv : V
  fld : Fld fv r.fs
  nb : -9223372036854775808 ≤ n ∧ n ≤ 9223372036854775807
def KA.cs (a : KA) : List V := [.int .i64 a.kind, .int .i64 a.n, .int .i64 a.r.k, a.fv]
def flatK (l : List KA) : List V := l.flatMap KA.cs
theorem flatK_len : ∀ l : List KA, (flatK l).length = l.length * 4
  | [] => rfl
  | a :: l => by
    have := flatK_len l
    simp only [flatK, List.flatMap_cons, List.length_append, List.length_cons] at this ⊢
    rw [this]; simp [KA.cs]; omega
theorem flatK_get : ∀ (l : List KA) (i : Nat) (h : i < l.length), ((flatK l).drop (i * 4)).take 4 = l[i].cs
  | [], i, h => by simp at h
  | a :: l, 0, _ => rfl
  | a :: l, i + 1, h => by
    have := flatK_get l i (by simpa using h)
    rw [show (i + 1) * 4 = i * 4 + 4 by omega]
    exact this
def IsKA (v : V) (l : List KA) : Prop := (v = .nilsl ∧ l = []) ∨ v = .row (flatK l) l.length .unk
theorem IsKA.rd {v : V} {l : List KA} (h : IsKA v l) (L : List AObj) : RdS L 4 v l.length (flatK l) := by
  rcases h with ⟨rfl, rfl⟩ | rfl
  · exact RdS.nil L 4
  · exact RdS.row L 4 _ _ .unk (flatK_len l)
theorem ty78 : sz env 78 = some 4 ∧ env.P.underlying 73 = some (.slice 78) ∧ fldOff env 78 0 = some 0 ∧ fldOff env 78 1 = some 1 ∧ fldOff env 78 2 = some 2 := ⟨by kernel_rfl, by kernel_rfl, by kernel_rfl, by kernel_rfl, by kernel_rfl⟩
theorem agg78 (h : List AObj) (p : V) : aload env h 78 p = (loadCellsV h 4 p).map .agg := by
  unfold aload
  rw [show aggT env 78 = some true by kernel_rfl, show sz env 78 = some 4 by kernel_rfl]
  rfl
theorem z78 : zeroV env 78 = some (.agg [.int .i64 0, .int .i64 0, .int .i64 0, .nilsl]) := by kernel_rfl
theorem OutR.cut {n0 : Nat} {L : List AObj} {u : V} {rs : List Rec} (h : OutR n0 L u rs) {k : Nat} (hk : k ≤ rs.length) : ∃ w, sliceO env 58 u none (some (.int .i64 (k : Int))) none = some w ∧ RdR L w (rs.take k) := by
  rcases h with ⟨rfl, rfl⟩ | ⟨rfl, rfl⟩ | ⟨b, cs, rfl, h1, h2, _⟩
  · have : k = 0 := by simpa using hk
    subst this
    exact ⟨.nilsl, by simp [sliceO, u58, s55, vSlice, vBound], [], RdS.nil L 2, rfl⟩
  · have : k = 0 := by simpa using hk
    subst this
    exact ⟨.row [] 0 .full, by simp [sliceO, u58, s55, vSlice, vBound, subCap], [], RdS.row L 2 [] 0 .full rfl, rfl⟩
  · have hcl := h2.cell.2
    refine ⟨.hsl b 0 k rs.length ((HCap.grow 2).cut 2), by simp [sliceO, u58, s55, vSlice, vBound, hk], cs.take (k * 2), ?_, ?_⟩
    · have := RdS.hsl (w := 2) (off := 0) (n := k) (cap := rs.length) (ex := (HCap.grow 2).cut 2) h1 (by omega)
      rw [List.drop_zero] at this
      rw [List.length_take, Nat.min_eq_left hk]
      exact this
    · clear h1 hcl
      induction rs generalizing cs k with
      | nil =>
        have : k = 0 := by simpa using hk
        subst this; rfl
      | cons a rs ih =>
        cases k with
        | zero => rfl
        | succ k =>
          obtain ⟨gv, cs', rfl, h3, h4⟩ := h2
          exact ⟨gv, cs'.take (k * 2), by rw [show (k + 1) * 2 = k * 2 + 2 by omega]; rfl, h3, ih (by simpa using hk) _ h4⟩
structure At12 (L : List AObj) (ts : List Nat) (d j : Nat) (s : DS) (rs : List Rec) (n : Nat) (bv dv : V) (lr : Int) (lv : V) : Prop where
  js : JS L ts j d s rs n bv dv lr lv
  inv : Inv s rs n
theorem JS.keep {L L' : List AObj} {ts ts' : List Nat} {j d n : Nat} {s : DS} {rs : List Rec} {bv dv lv : V} {lr : Int} (h : JS L ts j d s rs n bv dv lr lv) (k : Keep L L') (ht : TK ts ts') : JS L' ts' j d s rs n bv dv lr lv := by
  obtain ⟨cs, h1, h2⟩ := h.row
  exact ⟨h.dk.keep k, k.get h.cell, h.sep, cs, ht.row h1, h2⟩
theorem JS.step {L L' : List AObj} {ts : List Nat} {j d n : Nat} {s s' : DS} {rs : List Rec} {bv dv bv' dv' lv : V} {lr lr' : Int} (h : JS L ts j d s rs n bv dv lr lv) (hd : Dk L' d s' bv' dv' lr') (hs : Step L L' (fp d bv dv) (fp d bv' dv')) : JS L' ts j d s' rs n bv' dv' lr' lv :=
  ⟨hd, by rw [hs.2.1 j (B.lt_get h.cell) h.sep]; exact h.cell, fun hf => by
    rcases hs.2.2 j hf with h' | h'
    · exact h.sep h'
    · have := B.lt_get h.cell; omega, h.row⟩
theorem OutR.mv {n0 : Nat} {L L' : List AObj} {u : V} {rs : List Rec} (h : OutR n0 L u rs) (k : ∀ q, blkOf u = some q → n0 ≤ q → q < L.length → L'[q]? = L[q]?) : OutR n0 L' u rs := by
  rcases h with h | h | ⟨b, cs, rfl, h1, h2, h3⟩
  · exact .inl h
  · exact .inr (.inl h)
  · exact .inr (.inr ⟨b, cs, rfl, by rw [k b rfl h3 (B.lt_get h1)]; exact h1, h2, h3⟩)
theorem sync_len (s : DS) : (syncS s).1.D.length + (syncS s).1.P.length ≤ s.D.length + s.P.length := by
  unfold syncS
  split
  · exact Nat.le_refl _
  · split
    · exact Nat.le_refl _
    · simp
theorem fuse_len (s : DS) (k : Int) : (fuseS s k).1.D.length + (fuseS s k).1.P.length ≤ s.D.length + s.P.length := by
  unfold fuseS
  split
  · exact Nat.le_refl _
  · split <;> exact Nat.le_refl _
theorem app_len (s : DS) (rs : List Rec) (r : Rec) : (appS s rs r).1.D.length + (appS s rs r).1.P.length ≤ s.D.length + s.P.length + 200000 ∧ (appS s rs r).2.2.length ≤ rs.length + 1 := by
  unfold appS
  by_cases h0 : chkR r = 0
  · simp only [h0, if_true]
    have hb := bytR_len r
    obtain ⟨_, _, _, _, h5⟩ := chk0 h0
    have hw : (wrS s (bytR r)).1.D.length + (wrS s (bytR r)).1.P.length ≤ s.D.length + s.P.length + 200000 := by
      unfold wrS
      split
      · simp only; omega
      · split
        · simp only [List.length_append]; omega
        · split
          · simp only [List.length_append, List.length_take]; omega
          · simp only [List.length_append]; omega
    split
    · exact ⟨hw, by simp⟩
    · exact ⟨hw, by simp⟩
  · simp only [h0, if_false]
    exact ⟨by omega, by omega⟩
theorem long_ok' {r : Rec} (h : longR r = false) : r.fs.length ≤ 70 := by
  unfold longR at h
  rw [Bool.or_eq_false_iff, decide_eq_false_iff_not] at h
  omega
noncomputable def tail12 : Code := dropC 3 ((blkC 1 (bodyOf Tryd.f12)).getD .skip)
theorem act12 {Q : Post} {ks : List Kt} {T : Tm} {L : List AObj} {ts : List Nat} {d j n i x : Nat} {s : DS} {rs : List Rec} {bv dv lv v : V} {lr : Int} {a : KA} (hi : i < 40) (hlong : longR a.r = false) (c : Code) (hc : c = tail12)
    (t0 : T 0 = v) (t3 : T 3 = .bool true) (t4 : T 4 = .ptr d 0) (t5 : T 5 = .ptr j 0) (t8 : T 8 = .int .i64 i) (t9 : T 9 = .ptr x 0) (t48 : T 48 = .int .i64 a.kind) (hx : L[x]? = some (.cells a.cs 78)) (hxn : ¬ fp d bv dv x) (hxj : x ≠ j) (h : At12 L ts d j s rs n bv dv lr lv) (hrs : rs.length ≤ i) (hlen : s.D.length + s.P.length ≤ i * 200000)
    (hQ : ∀ T' L' ts' j' s' rs' n' bv' dv' lr' lv', T' 0 = v → T' 3 = .bool true → T' 4 = .ptr d 0 → T' 5 = .ptr j' 0 → T' 8 = .int .i64 i → At12 L' ts' d j' s' rs' n' bv' dv' lr' lv' → rs'.length ≤ i + 1 → s'.D.length + s'.P.length ≤ (i + 1) * 200000 → G env 12 none 118 Q ks .skip T' [] ⟨L', ts'⟩) :
    G env 12 none 118 Q (.blk 1 :: ks) c T [] ⟨L, ts⟩ := by
  subst hc
  simp only [tail12, bodyOf, Tryd.f12, Option.getD_some, blkC, Option.or, dropC, Nat.reduceEqDiff, if_false, if_true, reduceIte]
  obtain ⟨hjs, hinv⟩ := h
  have hfs := long_ok' hlong
  have o1 : rs.length ≤ i + 1 := by omega
  have o2 : s.D.length + s.P.length ≤ (i + 1) * 200000 := Nat.le_trans hlen (Nat.mul_le_mul_right _ (Nat.le_succ i))
  have ld1 : (loadCellsV L 1 (.ptr x 1)).bind (·[0]?) = some (.int .i64 a.n) := by rw [YA, hx]; rfl
  have ld2 : loadCellsV L 2 (.ptr x 2) = some [.int .i64 a.r.k, a.fv] := by simp [loadCellsV, hx, KA.cs]
  by_cases k012 : a.kind = 0 ∨ a.kind = 1 ∨ a.kind = 2
  · obtain ⟨L', ts', bv', dv', lr', lv', hA, hJ, _⟩ := jappend_call hjs hinv.left a.fld (by omega) (by omega) (by omega)
    have hI := hinv.append a.r
    obtain ⟨l1, l2⟩ := app_len s rs a.r
    have fin : ∀ T', T' 0 = v → T' 3 = .bool true → T' 4 = .ptr d 0 → T' 5 = .ptr j 0 → T' 8 = .int .i64 i → G env 12 none 118 Q ks .skip T' [] ⟨L', ts'⟩ := fun T' u0 u3 u4 u5 u8 => hQ T' L' ts' j _ _ _ _ _ _ _ u0 u3 u4 u5 u8 ⟨hJ, hI⟩ (by omega) (by omega)
    rcases k012 with e | e | e
    · have e' := eq_true e
      simp -implicitDefEqProofs only [Wa,Wb,Wc,Wd,We,Wf,Wg,Wh,Wi,Wj,Wk,Wl,Wm,Wn,Zo,Zp,evalT,Nat.reduceLT,Nat.reduceEqDiff,if_true,if_false,reduceIte,Ys,ofVal,ofCell,argT,resT,setT,Y0,Int.reduceEq,Int.reduceLT,Int.reduceLE,Int.reduceNeg,mb,Nat.reduceBEq,tys,stb,Va,storeList,Nat.reduceAdd,Nat.reduceLeDiff,tyj,vBin_xor,vBin_or,vBin_shl,vBin_shr,ty78,t5,t9,t48,e,agg55,ld2,hA]
      exact fin _ t0 t3 t4 t5 t8
    · simp -implicitDefEqProofs only [Wa,Wb,Wc,Wd,We,Wf,Wg,Wh,Wi,Wj,Wk,Wl,Wm,Wn,Zo,Zp,evalT,Nat.reduceLT,Nat.reduceEqDiff,if_true,if_false,reduceIte,Ys,ofVal,ofCell,argT,resT,setT,Y0,Int.reduceEq,Int.reduceLT,Int.reduceLE,Int.reduceNeg,mb,Nat.reduceBEq,tys,stb,Va,storeList,Nat.reduceAdd,Nat.reduceLeDiff,tyj,vBin_xor,vBin_or,vBin_shl,vBin_shr,ty78,t5,t9,t48,e,agg55,ld2,hA]
      exact fin _ t0 t3 t4 t5 t8
    · simp -implicitDefEqProofs only [Wa,Wb,Wc,Wd,We,Wf,Wg,Wh,Wi,Wj,Wk,Wl,Wm,Wn,Zo,Zp,evalT,Nat.reduceLT,Nat.reduceEqDiff,if_true,if_false,reduceIte,Ys,ofVal,ofCell,argT,resT,setT,Y0,Int.reduceEq,Int.reduceLT,Int.reduceLE,Int.reduceNeg,mb,Nat.reduceBEq,tys,stb,Va,storeList,Nat.reduceAdd,Nat.reduceLeDiff,tyj,vBin_xor,vBin_or,vBin_shl,vBin_shr,ty78,t5,t9,t48,e,agg55,ld2,hA]
      exact fin _ t0 t3 t4 t5 t8
  · have n0 : ¬ a.kind = 0 := fun e => k012 (.inl e)
    have n1 : ¬ a.kind = 1 := fun e => k012 (.inr (.inl e))
    have n2 : ¬ a.kind = 2 := fun e => k012 (.inr (.inr e))
    by_cases k3 : a.kind = 3
    · obtain ⟨L', bv', dv', lr', hA, hJ, _⟩ := jsync_call (ts := ts) hjs (by omega)
      have hI := hinv.sync'
      have l1 := sync_len s
      simp -implicitDefEqProofs only [Wa,Wb,Wc,Wd,We,Wf,Wg,Wh,Wi,Wj,Wk,Wl,Wm,Wn,Zo,Zp,evalT,Nat.reduceLT,Nat.reduceEqDiff,if_true,if_false,reduceIte,Ys,ofVal,ofCell,argT,resT,setT,Y0,Int.reduceEq,Int.reduceLT,Int.reduceLE,Int.reduceNeg,mb,Nat.reduceBEq,tys,stb,Va,storeList,Nat.reduceAdd,Nat.reduceLeDiff,tyj,vBin_xor,vBin_or,vBin_shl,vBin_shr,ty78,t5,t9,t48,k3,hA]
      exact hQ _ L' ts j _ _ _ _ _ _ _ t0 t3 t4 t5 t8 ⟨hJ, hI⟩ (by omega) (by omega)
    · by_cases k5 : a.kind = 5
      · obtain ⟨L', bv', dv', lr', hA, hD, hS⟩ := fuse_call (ts := ts) a.n hjs.dk
        have hI := hinv.fuse a.n a.nb.2
        have l1 := fuse_len s a.n
        simp -implicitDefEqProofs only [Wa,Wb,Wc,Wd,We,Wf,Wg,Wh,Wi,Wj,Wk,Wl,Wm,Wn,Zo,Zp,evalT,Nat.reduceLT,Nat.reduceEqDiff,if_true,if_false,reduceIte,Ys,ofVal,ofCell,argT,resT,setT,Y0,Int.reduceEq,Int.reduceLT,Int.reduceLE,Int.reduceNeg,mb,Nat.reduceBEq,tys,stb,Va,storeList,Nat.reduceAdd,Nat.reduceLeDiff,tyj,vBin_xor,vBin_or,vBin_shl,vBin_shr,ty78,t4,t5,t9,t48,k5,ld1,hA]
        exact hQ _ L' ts j _ _ _ _ _ _ _ t0 t3 t4 t5 t8 ⟨hjs.step hD hS, hI⟩ (by omega) (by omega)
      · by_cases k4 : a.kind = 4
        · obtain ⟨u, L1, ts1, hR, hK1, hT1, hO1⟩ := records_call2 (ts := ts) hjs (by omega) (fun r hr => by have := (chk0 (hinv.ok r hr)).2.2.1; omega)
          have hjs1 := hjs.keep hK1 hT1
          have hSy := synced_call (ts := ts1) hjs1
          have ld3 : (loadCellsV L1 1 (.ptr x 1)).bind (·[0]?) = some (.int .i64 a.n) := by rw [YA, hK1.get hx]; rfl
          obtain ⟨L2, bv2, dv2, lr2, hC, hD2, hS2⟩ := crash_call (ts := ts1) a.n hjs1.dk (by omega)
          by_cases hneg : a.n < 0
          · have hcs : crashS s a.n = (s, 2) := by unfold crashS; rw [if_pos hneg]
            rw [hcs] at hC hD2
            simp -implicitDefEqProofs only [Wa,Wb,Wc,Wd,We,Wf,Wg,Wh,Wi,Wj,Wk,Wl,Wm,Wn,Zo,Zp,evalT,Nat.reduceLT,Nat.reduceEqDiff,if_true,if_false,reduceIte,Ys,ofVal,ofCell,argT,resT,setT,Y0,Int.reduceEq,Int.reduceLT,Int.reduceLE,Int.reduceNeg,mb,Nat.reduceBEq,tys,stb,Va,storeList,Nat.reduceAdd,Nat.reduceLeDiff,tyj,vBin_xor,vBin_or,vBin_shl,vBin_shr,ty78,t4,t5,t9,t48,k4,hR,hSy,ld3,hC]
            exact hQ _ L2 ts1 j _ _ _ _ _ _ _ t0 t3 t4 t5 t8 ⟨hjs1.step hD2 hS2, hinv⟩ o1 o2
          · obtain ⟨m, m1, m2, m3, m4, m5, m6, m7, m8⟩ := hinv.crash hneg
            rw [m6] at hC
            obtain ⟨L3, ts3, bv3, dv3, lr3, j3, lv3, w, hOp, hJ3, hW3, hT3, _, low3, len3, _, _⟩ := open_ok (ts := ts1) hD2 m4 m5 (by omega)
            rw [m3] at hJ3 hW3
            have hO3 : OutR L.length L3 u rs := hO1.mv fun q hq hn hlt => by
              have nf : ¬ fp d bv dv q := fun hf => by have := hjs.dk.flt hf; omega
              have nf2 : ¬ fp d bv2 dv2 q := fun hf => by
                rcases hS2.2.2 q hf with h' | h'
                · exact nf h'
                · omega
              rw [low3 q (by have := hS2.1; omega) nf2, hS2.2.1 q hlt nf]
            obtain ⟨w2, hsl, hrd2⟩ := hO3.cut m2
            have hlm : (rs.take m).length = m := by rw [List.length_take]; omega
            have lw := hW3.rd.len 55
            have lu := hO3.rd.len 55
            rw [hlm] at lw
            have hS := same_call (L := L3) (ts := ts3) hW3.rd hrd2 (by rw [hlm]; omega) (fun r hr => by have := (chk0 (hinv.ok r (List.mem_of_mem_take hr))).2.2.1; omega)
            have c1 : ¬ (m : Int) < (n : Int) := by omega
            have c2 : ¬ (rs.length : Int) < (m : Int) := by omega
            have c3 : ¬ (n : Int) < 0 := by omega
            simp -implicitDefEqProofs only [Wa,Wb,Wc,Wd,We,Wf,Wg,Wh,Wi,Wj,Wk,Wl,Wm,Wn,Zo,Zp,evalT,Nat.reduceLT,Nat.reduceEqDiff,if_true,if_false,reduceIte,Ys,ofVal,ofCell,argT,resT,setT,Y0,Int.reduceEq,Int.reduceLT,Int.reduceLE,Int.reduceNeg,mb,Nat.reduceBEq,tys,stb,Va,storeList,Nat.reduceAdd,Nat.reduceLeDiff,tyj,vBin_xor,vBin_or,vBin_shl,vBin_shr,ty78,t4,t5,t9,t48,k4,hR,hSy,ld3,hC,hOp,neq63,lw,lu,c1,c2,c3,opT_slice,optO_none,optO_some,hsl,hS]
            exact hQ _ L3 ts3 j3 _ _ _ _ _ _ _ t0 t3 t4 rfl t8 ⟨hJ3, m8⟩ (by omega) (by simp only [List.length_take, List.length_nil]; omega)
        · simp -implicitDefEqProofs only [Wa,Wb,Wc,Wd,We,Wf,Wg,Wh,Wi,Wj,Wk,Wl,Wm,Wn,Zo,Zp,evalT,Nat.reduceLT,Nat.reduceEqDiff,if_true,if_false,reduceIte,Ys,ofVal,ofCell,argT,resT,setT,Y0,Int.reduceEq,Int.reduceLT,Int.reduceLE,Int.reduceNeg,mb,Nat.reduceBEq,tys,stb,Va,storeList,Nat.reduceAdd,Nat.reduceLeDiff,tyj,vBin_xor,vBin_or,vBin_shl,vBin_shr,ty78,t5,t9,t48,n0,n1,n2,k3,k4,k5]
          exact hQ _ L ts j _ _ _ _ _ _ _ t0 t3 t4 t5 t8 ⟨hjs, hinv⟩ o1 o2
noncomputable def body12 : Code := (blkC 1 (bodyOf Tryd.f12)).getD .skip
theorem turn12 {v : V} {l : List KA} (hv : IsKA v l) {Q : Post} {ks : List Kt} {T : Tm} {L : List AObj} {ts : List Nat} {d j n i : Nat} {s : DS} {rs : List Rec} {bv dv lv : V} {lr : Int} (hi : i < l.length) (h40 : l.length ≤ 40) (hlong : longR l[i].r = false) (c : Code) (hc : c = body12)
    (t0 : T 0 = v) (t3 : T 3 = .bool true) (t4 : T 4 = .ptr d 0) (t5 : T 5 = .ptr j 0) (t8 : T 8 = .int .i64 i) (h : At12 L ts d j s rs n bv dv lr lv) (hrs : rs.length ≤ i) (hlen : s.D.length + s.P.length ≤ i * 200000)
    (hQ : ∀ T' L' ts' j' s' rs' n' bv' dv' lr' lv', T' 0 = v → T' 3 = .bool true → T' 4 = .ptr d 0 → T' 5 = .ptr j' 0 → T' 8 = .int .i64 i → At12 L' ts' d j' s' rs' n' bv' dv' lr' lv' → rs'.length ≤ i + 1 → s'.D.length + s'.P.length ≤ (i + 1) * 200000 → G env 12 none 118 Q ks .skip T' [] ⟨L', ts'⟩) :
    G env 12 none 118 Q (.blk 1 :: ks) c T [] ⟨L, ts⟩ := by
  subst hc
  rw [G_cut 3]
  have hRt : dropC 3 body12 = tail12 := rfl
  rw [hRt]
  obtain ⟨p, hp, hld⟩ := (hv.rd L).2.2.2 i hi
  rw [flatK_get l i hi] at hld
  generalize hla : l[i] = a at *
  obtain ⟨hjs, hinv⟩ := h
  have hk1 := Keep.app L [.cells a.cs 78]
  have hk2 := Keep.app (L ++ [.cells a.cs 78]) [.cells [.int .i64 a.r.k, a.fv] 55]
  have qe : (L ++ [AObj.cells a.cs 78])[L.length]? = some (.cells a.cs 78) := by simp
  have qz : ∀ o : AObj, (L ++ [o])[L.length]? = some o := fun o => by simp
  have qs : ∀ o o' : AObj, (L ++ [o]).set L.length o' = L ++ [o'] := fun o o' => by simp
  have hL := long_call (L := L ++ [.cells a.cs 78]) (ts := ts) a.fld
  rw [hlong] at hL
  have ld2 : loadCellsV (L ++ [AObj.cells a.cs 78]) 2 (.ptr L.length 2) = some [.int .i64 a.r.k, a.fv] := by simp [loadCellsV, KA.cs]
  have qk : ((L ++ [AObj.cells a.cs 78]) ++ [AObj.cells [.int .i64 a.r.k, a.fv] 55])[L.length]? = some (.cells a.cs 78) := hk2.get qe
  have hcs : a.cs = [.int .i64 a.kind, .int .i64 a.n, .int .i64 a.r.k, a.fv] := rfl
  have lk : (loadCellsV ((L ++ [AObj.cells a.cs 78]) ++ [AObj.cells [.int .i64 a.r.k, a.fv] 55]) 1 (.ptr L.length 0)).bind (·[0]?) = some (.int .i64 a.kind) := by rw [YA, qk]; rfl
  have hac : a.fld.cells = a.fld.cells := rfl
  have hcc : (V.agg a.cs).cells = a.cs := rfl
  have hall : a.cs.all V.isCell = true := by
    rw [hcs]
    simp only [List.all_cons, List.all_nil, a.fld.isCell]; rfl
  have hlen4 : a.cs.length = 4 := rfl
  have zl : ([.int .i64 0, .int .i64 0, .int .i64 0, .nilsl] : List V).length = 4 := rfl
  have hst : storeList [V.int .i64 0, V.int .i64 0, V.int .i64 0, V.nilsl] 0 a.cs = a.cs := rfl
  simp only [body12, bodyOf, Tryd.f12, Option.getD_some, blkC, Option.or, takeC, Nat.reduceEqDiff, if_false, if_true, reduceIte]
  simp -implicitDefEqProofs only [Wa,Wb,Wc,Wd,We,Wf,Wg,Wh,Wi,Wj,Wk,Wl,Wm,Wn,Zo,Zp,evalT,Nat.reduceLT,Nat.reduceEqDiff,if_true,if_false,reduceIte,Ys,ofVal,ofCell,argT,resT,setT,Y0,Int.reduceEq,Int.reduceLT,Int.reduceLE,Int.reduceNeg,mb,Nat.reduceBEq,tys,stb,tyj,vBin_xor,vBin_or,vBin_shl,vBin_shr,hst,hall,Nat.le_refl,ty78,t0,t3,t8,hp,agg78,hld,z78,qz,qs,hcc,hlen4,hst,agg55,ld2,hL,lk]
  refine act12 (a := a) (x := L.length) (i := i) (j := j) (by omega) hlong _ rfl t0 t3 t4 t5 t8 rfl rfl qk (fun hf => by have := hjs.dk.flt hf; omega) (fun e => by have := B.lt_get hjs.cell; omega) ⟨hjs.keep (hk1.trans hk2) (TK.refl _), hinv⟩ hrs hlen hQ
theorem IsKA.len {v : V} {l : List KA} (h : IsKA v l) (e : TypeId) : vLenT (some (.slice e)) v = some (.int .i64 l.length) := (h.rd []).2.1 e
theorem keeps_found {v : V} {l : List KA} (hv : IsKA v l) : Go.Ab.Found env 12 [v] := by
  refine found_of_wp at12 rfl (by simp [Tryd.f12]) (by simp [Tryd.f12]) (G_start ?_)
  have lv := hv.len 78
  by_cases h40 : 40 < l.length
  · have c1 : (40 : Int) < (l.length : Int) := by omega
    simp -implicitDefEqProofs only [Tryd.f12,Wa,Wb,Wc,Wd,We,Wf,Wg,Wh,Wi,Wj,Wk,Wl,Wm,Wn,Zo,Zp,evalT,Nat.reduceLT,Nat.reduceEqDiff,if_true,if_false,reduceIte,Ys,ofVal,ofCell,argT,resT,setT,Y0,Int.reduceEq,Int.reduceLT,Int.reduceLE,Int.reduceNeg,mb,Nat.reduceBEq,tys,stb,Va,storeList,Nat.reduceAdd,Nat.reduceLeDiff,tyj,vBin_xor,vBin_or,vBin_shl,vBin_shr,ty78,jknown_call,lv,c1]
    simp only [oneOr]
  · have c1 : ¬ (40 : Int) < (l.length : Int) := by omega
    obtain ⟨L1, hC1, hD1, hK1⟩ := new_call [] []
    obtain ⟨L2, ts2, bv2, dv2, lr2, j2, lv2, u2, hO, hJ, _, _, _, _, _, _, _⟩ := open_ok (ts := []) hD1 rfl rfl (by simp)
    have hr0 : readR [] = ([], 0) := rfl
    simp only [hr0, List.length_nil] at hJ hC1
    simp only [List.length_nil] at hO
    simp -implicitDefEqProofs only [Tryd.f12,Wa,Wb,Wc,Wd,We,Wf,Wg,Wh,Wi,Wj,Wk,Wl,Wm,Wn,Zo,Zp,evalT,Nat.reduceLT,Nat.reduceEqDiff,if_true,if_false,reduceIte,Ys,ofVal,ofCell,argT,resT,setT,Y0,Int.reduceEq,Int.reduceLT,Int.reduceLE,Int.reduceNeg,mb,Nat.reduceBEq,tys,stb,Va,storeList,Nat.reduceAdd,Nat.reduceLeDiff,tyj,vBin_xor,vBin_or,vBin_shl,vBin_shr,ty78,jknown_call,lv,c1,S.empty,hC1,hO,neq63]
    refine loop_rule (fun m T D σ => D = [] ∧ T 0 = v ∧ T 3 = .bool true ∧ T 4 = .ptr 0 0 ∧ ∃ (i : Nat) (L : List AObj) (ts : List Nat) (j n : Nat) (s : DS) (rs : List Rec) (bv dv lv : V) (lr : Int), i ≤ l.length ∧ m = l.length - i ∧ T 5 = .ptr j 0 ∧ T 8 = .int .i64 i ∧ σ = ⟨L, ts⟩ ∧ At12 L ts 0 j s rs n bv dv lr lv ∧ rs.length ≤ i ∧ s.D.length + s.P.length ≤ i * 200000) ?_ l.length _ _ _
      ⟨rfl, rfl, rfl, rfl, 0, L2, ts2, j2, 0, _, [], bv2, dv2, lv2, lr2, by omega, rfl, rfl, rfl, rfl, ⟨hJ, inv0⟩, by simp, by simp⟩
    rintro m T D σ ⟨rfl, t0, t3, t4, i, L, ts, j, n, s, rs, bv, dv, lw, lr, hi, rfl, t5, t8, rfl, hA, hrs, hlen⟩
    refine G_start ?_
    by_cases hlt : i < l.length
    · have c1 : (i : Int) < (l.length : Int) := by omega
      have w1 : IntKind.wrap .i64 ((i : Int) + 1) = ((i + 1 : Nat) : Int) := by rw [B.wrap64 (by omega)]; omega
      cases hlong : longR l[i].r with
      | false =>
        simp -implicitDefEqProofs only [Za,Zc,Zd,Ze,Zf,Zg,Zh,Zi,Zj,Zk,Zl,Zm,Zn,Zo,Zp,Zq,Zr,Zs,Zt,Zu,Zv,Zw,Zx,Zy,Zz,ZA,ZB,ZC,ZD,ZE,ZF,ZG,ZH,ZI,ZJ,ZK,ZL,ZM,ZN,ZO,ZP,ZQ,ZR,ZS,ZT,ZU,ZV,ZW,ZX,ZY,ZZ,Z0,Z1,Z2,Z3,Z4,Z5,Z6,evalT,Z7,Nat.reduceLT,Nat.reduceEqDiff,if_true,if_false,reduceIte,true_and,Z8,Z9,map_ite',Ya,bind_ite',Yb,Yc,Yd,Ye,Yf,Yg,Yh,Yi,Yj,Yk,Yl,Ym,Yn,Yo,Yp,Yq,Yr,Ys,Yt,Yu,Yv,Yw,ofVal,ofCell,argT,ZL1,resT,Yx,Yy,Nat.mul_one,Yz,YA,YB,YC,YD,YE,YF,YG,YH,YI,YJ,setT,YK,YL,YM,YN,YO,List.append_eq,YP,YQ,YR,YS,YT,YU,YV,YW,YX,Nat.add_zero,YY,YZ,Y0,Y1,Y2,Y3,Int.toNat_natCast,Bool.false_eq_true,Int.reduceEq,Int.reduceLT,Int.reduceLE,Int.reduceNeg,not_false_eq_true,and_self,Y4,Y5,Int.natCast_one,Int.cast_ofNat_Int,not_true_eq_false,decide_true,decide_false,true_implies,false_implies,Int.toNat_zero,List.length_cons,List.length_nil,Nat.zero_add,mb,Nat.reduceBEq,Bool.false_and,Bool.and_false,Y6,tys,stb,Y7,Y8,Y9,Qa,Qb,Qc,ZB1,Qd,Qe,Va,storeList,Nat.reduceAdd,Nat.reduceLeDiff,tyj,vBin_xor,vBin_or,vBin_shl,vBin_shr,ty78,t0,t8,lv,c1]
        rw [Zb]
        refine turn12 hv hlt (by omega) hlong _ rfl t0 t3 t4 t5 t8 hA hrs hlen ?_
        intro T' L' ts' j' s' rs' n' bv' dv' lr' lv' k0 k3 k4 k5 k8 hA' hrs' hlen'
        simp -implicitDefEqProofs only [Wa,Wb,Wc,Wd,We,Wf,Wg,Wh,Wi,Wj,Wk,Wl,Wm,Wn,Zo,Zp,evalT,Nat.reduceLT,Nat.reduceEqDiff,if_true,if_false,reduceIte,Ys,ofVal,ofCell,argT,resT,setT,Y0,Int.reduceEq,Int.reduceLT,Int.reduceLE,Int.reduceNeg,mb,Nat.reduceBEq,tys,stb,Va,storeList,Nat.reduceAdd,Nat.reduceLeDiff,tyj,vBin_xor,vBin_or,vBin_shl,vBin_shr,k8,w1]
        exact ⟨l.length - (i + 1), by omega, k0, k3, k4, i + 1, L', ts', j', n', s', rs', bv', dv', lv', lr', by omega, rfl, k5, rfl, rfl, hA', hrs', hlen'⟩
      | true =>
        obtain ⟨p, hp, hld⟩ := (hv.rd L).2.2.2 i hlt
        rw [flatK_get l i hlt] at hld
        generalize l[i] = a at *
        have qz : ∀ o : AObj, (L ++ [o])[L.length]? = some o := fun o => by simp
        have qs : ∀ o o' : AObj, (L ++ [o]).set L.length o' = L ++ [o'] := fun o o' => by simp
        have hL := long_call (L := L ++ [.cells a.cs 78]) (ts := ts) a.fld
        rw [hlong] at hL
        have ld2 : loadCellsV (L ++ [AObj.cells a.cs 78]) 2 (.ptr L.length 2) = some [.int .i64 a.r.k, a.fv] := by simp [loadCellsV, KA.cs]
        have hcc : (V.agg a.cs).cells = a.cs := rfl
        have hcs : a.cs = [.int .i64 a.kind, .int .i64 a.n, .int .i64 a.r.k, a.fv] := rfl
        have hall : a.cs.all V.isCell = true := by
          rw [hcs]
          simp only [List.all_cons, List.all_nil, a.fld.isCell]; rfl
        have hlen4 : a.cs.length = 4 := rfl
        have hst : storeList [V.int .i64 0, V.int .i64 0, V.int .i64 0, V.nilsl] 0 a.cs = a.cs := rfl
        simp -implicitDefEqProofs only [Wa,Wb,Wc,Wd,We,Wf,Wg,Wh,Wi,Wj,Wk,Wl,Wm,Wn,Zo,Zp,evalT,Nat.reduceLT,Nat.reduceEqDiff,if_true,if_false,reduceIte,Ys,ofVal,ofCell,argT,resT,setT,Y0,Int.reduceEq,Int.reduceLT,Int.reduceLE,Int.reduceNeg,mb,Nat.reduceBEq,tys,stb,tyj,vBin_xor,vBin_or,vBin_shl,vBin_shr,hst,hall,Nat.le_refl,ty78,t0,t3,t8,lv,c1,hp,agg78,hld,z78,qz,qs,hcc,hlen4,hst,agg55,ld2,hL]
        simp only [oneOr]
    · have c1 : ¬ (i : Int) < (l.length : Int) := by omega
      simp -implicitDefEqProofs only [Wa,Wb,Wc,Wd,We,Wf,Wg,Wh,Wi,Wj,Wk,Wl,Wm,Wn,Zo,Zp,evalT,Nat.reduceLT,Nat.reduceEqDiff,if_true,if_false,reduceIte,Ys,ofVal,ofCell,argT,resT,setT,Y0,Int.reduceEq,Int.reduceLT,Int.reduceLE,Int.reduceNeg,mb,Nat.reduceBEq,tys,stb,Va,storeList,Nat.reduceAdd,Nat.reduceLeDiff,tyj,vBin_xor,vBin_or,vBin_shl,vBin_shr,ty78,t0,t3,t8,lv,c1]
      simp only [oneOr]
theorem fts78 : fieldTs env.P 78 = some [3, 3, 55] := by kernel_rfl
theorem tyd_KA {x : List V} {k : Nat} (h : Tyd env.P (k + 4) 78 x) : ∃ a : KA, x = a.cs := by
  obtain ⟨a, r, rfl, ha, b, r2, rfl, hb, c, r3, rfl, hc, rfl⟩ := tyd_struct h fts78
  obtain ⟨n, rfl, _⟩ := tyd_int ha u3
  obtain ⟨m, rfl, hm1, hm2⟩ := tyd_int hb u3
  obtain ⟨a, rfl⟩ := tyd_R hc
  exact ⟨⟨n, m, a.r, a.fv, a.fld, hm1, hm2⟩, rfl⟩
theorem tyd_KS {v : V} {k : Nat} (h : Tyd env.P (k + 5) 73 [v]) : ∃ l, IsKA v l := by
  rcases tyd_slice h ty78.2.1 with h | ⟨vss, h, hl, _, ht⟩
  · simp only [List.cons.injEq, and_true] at h
    exact ⟨[], .inl ⟨h, rfl⟩⟩
  · simp only [List.cons.injEq, and_true] at h
    obtain ⟨cs, rfl⟩ := tyd_map (f := KA.cs) (fun x hx => tyd_KA hx) ht
    subst h
    exact ⟨cs, .inr (by rw [List.length_map]; rfl)⟩
theorem keeps_foundt {u : V} (h : Tyd Tryd.prog 6 73 [u]) : Go.Ab.Found env 12 [u] := by
  obtain ⟨l, h1⟩ := tyd_KS (k := 1) h
  exact keeps_found h1
end Go.Proofs.YtncohjljeoknkaaDoor.D
