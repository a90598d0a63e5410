/- Proved here: copies of disks, the reference's disks, acts. Conditions: those of each theorem; no statement of the seat is proved in this text. -/
import Derived.Test.YtncohjljeoknkaaDoorDkA
namespace Go.Proofs.YtncohjljeoknkaaDoor.D
open Go.Ab
set_option maxHeartbeats 4000000
set_option maxRecDepth 100000
set_option linter.unusedSimpArgs false
set_option linter.unusedVariables false
set_option linter.unusedSectionVars false
theorem at55 : env.P.funcs[55]? = some Tryd.f55 := by kernel_rfl
theorem at57 : env.P.funcs[57]? = some Tryd.f57 := by kernel_rfl
theorem at73 : env.P.funcs[73]? = some Tryd.f73 := by kernel_rfl
theorem mb57 (r : Nat) : env.mutb 57 r = true := rfl
theorem mb73 (r : Nat) : env.mutb 73 r = true := rfl
theorem mb55 (r : Nat) : env.mutb 55 r = true := rfl
theorem opT_rowB {m : Bool} {T : Tm} {σ : S} (t : TypeId) (len : Nat) (parts : Array (Nat × Operand)) : opT env m T σ (.buildSlice t len parts) = (partsO (evalT env T) parts.toList).bind fun ps => (rowO env t len ps).map fun v => (v, σ) := by
  have hb : env.rowB = true := rfl
  unfold opT rowO
  simp only [apure, aread, astate, hb, Bool.not_true, Bool.and_false, Bool.false_eq_true, if_false]
  cases partsO (evalT env T) parts.toList with
  | none => rfl
  | some ps =>
    simp only [Option.bind_some]
    cases elemS env t with
    | none => rfl
    | some e =>
      simp only [Option.bind_some]
      cases sz env e with
      | none => rfl
      | some s =>
        simp only [Option.bind_some]
        generalize (if len * s = 0 then some (V.agg []) else zeroV env e) = oz
        cases oz with
        | none => rfl
        | some z =>
          simp only [Option.bind_some]
          split
          · cases vFill (fun i => some (i * s, s)) (List.replicate len z.cells).flatten ps <;> rfl
          · rfl
theorem row0 : rowO env 26 0 [] = some (.row [] 0 .full) := by kernel_rfl
theorem row2 (u v : V) (hu : u.cells = [u]) (hv : v.cells = [v]) : rowO env 37 2 [(0, u), (1, v)] = some (.row [u, v] 2 .full) := by
  have e : elemS env 37 = some 26 := by kernel_rfl
  have z : zeroV env 26 = some .nilsl := by kernel_rfl
  have zc : V.nilsl.cells = [V.nilsl] := rfl
  unfold rowO
  simp only [e, s26, z, Option.bind_some]
  simp [vFill, hu, hv, zc]
def Keep (L L' : List AObj) : Prop := L.length ≤ L'.length ∧ ∀ q, q < L.length → L'[q]? = L[q]?
theorem Keep.refl (L : List AObj) : Keep L L := ⟨Nat.le_refl _, fun _ _ => rfl⟩
theorem Keep.trans {L L' L'' : List AObj} (h : Keep L L') (k : Keep L' L'') : Keep L L'' := ⟨Nat.le_trans h.1 k.1, fun q hq => by rw [k.2 q (Nat.lt_of_lt_of_le hq h.1), h.2 q hq]⟩
theorem Keep.app (L X : List AObj) : Keep L (L ++ X) := ⟨by simp, fun q hq => by rw [List.getElem?_append_left hq]⟩
theorem Keep.get {L L' : List AObj} (h : Keep L L') {q : Nat} {o : AObj} (hq : L[q]? = some o) : L'[q]? = some o := by rw [h.2 q (B.lt_get hq)]; exact hq
theorem Keep.rd {L L' : List AObj} (h : Keep L L') {y : V} {t : List UInt8} (hy : Rd L y t) : Rd L' y t := hy.move fun q hq => h.2 q (hy.lt hq)
def New (n : Nat) (v : V) : Prop := ∀ q, blkOf v = some q → n ≤ q
theorem eql_nil {L : List AObj} {y : V} {t : List UInt8} (h : Rd L y t) (cc : Bool) : binO env 26 cc .eql (some y) (some .nilsl) = some (.bool true) ∧ y = .nilsl ∨ binO env 26 cc .eql (some y) (some .nilsl) = some (.bool false) := by
  rcases h with ⟨rfl, rfl⟩ | ⟨b, off, cap, ex, cs, rfl, _⟩ | ⟨cells, cap, rfl, _⟩
  · exact .inl ⟨by cases cc <;> kernel_rfl, rfl⟩
  · exact .inr (by cases cc <;> kernel_rfl)
  · exact .inr (by cases cc <;> kernel_rfl)
theorem clone_call {L : List AObj} {ts : List Nat} {y : V} {t : List UInt8} (hy : Rd L y t) (hl : t.length ≤ 2 ^ 38) :
    ∃ v L', callFn env (ev env) 57 [y] ⟨L, ts⟩ = some (v, ⟨L', ts⟩) ∧ Own L' v t ∧ Keep L L' ∧ New L.length v := by
  rcases eql_nil hy (isConst (.tmp 3) || isConst (.const (.slice none 0 0))) with ⟨h1, rfl⟩ | h1
  · have ht : t = [] := by
      have := hy.len
      simp only [vLen, Option.some.injEq] at this
      exact List.eq_nil_of_length_eq_zero this.symm
    subst ht
    refine ⟨.nilsl, L, ?_, .inl ⟨rfl, rfl⟩, Keep.refl L, fun q h => by cases h⟩
    refine callFn_eq rfl rfl at57 rfl (by simp [Tryd.f57]) (by simp [Tryd.f57]) (G_start ?_)
    simp -implicitDefEqProofs only [Tryd.f57,Wa,Wb,Wc,Wd,We,Wf,Wg,Wh,Wi,Wj,Wk,Wl,Wm,Wn,Zo,Zp,evalT,Nat.reduceLT,Nat.reduceEqDiff,if_true,if_false,reduceIte,Ys,ofVal,ofCell,argT,resT,setT,Y0,Int.reduceEq,Int.reduceLT,Int.reduceLE,Int.reduceNeg,mb,Nat.reduceBEq,tys,stb,Va,storeList,Nat.reduceAdd,Nat.reduceLeDiff,h1]
    exact ⟨rfl, trivial⟩
  · obtain ⟨v, L', hA, hO, h2, h3, h4⟩ := app_own (ts := ts) (L := L) (x := .row [] 0 .full) (s := []) (.inr (.inl ⟨rfl, rfl⟩)) hy (by simpa using hl)
    refine ⟨v, L', ?_, by simpa using hO, ⟨h2, fun q hq => h3 q hq (fun e => by cases e)⟩, fun q hq => ?_⟩
    · refine callFn_eq rfl rfl at57 rfl (by simp [Tryd.f57]) (by simp [Tryd.f57]) (G_start ?_)
      simp -implicitDefEqProofs only [Tryd.f57,Wa,Wb,Wc,Wd,We,Wf,Wg,Wh,Wi,Wj,Wk,Wl,Wm,Wn,Zo,Zp,evalT,Nat.reduceLT,Nat.reduceEqDiff,if_true,if_false,reduceIte,Ys,ofVal,ofCell,argT,resT,setT,Y0,Int.reduceEq,Int.reduceLT,Int.reduceLE,Int.reduceNeg,mb,Nat.reduceBEq,tys,stb,Va,storeList,Nat.reduceAdd,Nat.reduceLeDiff,h1,mb57,hA,opT_rowB,row0]
      exact ⟨rfl, trivial⟩
    · rcases h4 with e | ⟨p, e1, e2⟩
      · rw [e] at hq; cases hq
      · rw [e1] at hq; cases hq; exact e2
section
variable {L : List AObj} {ts : List Nat} {d : Nat} {s : DS} {bv dv : V} {lr : Int}
theorem durable_call (h : Dk L d s bv dv lr) (hl : s.D.length ≤ 2 ^ 38) :
    ∃ v L', callFn env (ev env) 18 [.ptr d 0] ⟨L, ts⟩ = some (v, ⟨L', ts⟩) ∧ Own L' v s.D ∧ Keep L L' ∧ New L.length v := by
  obtain ⟨v, L', h1, h2, h3, h4⟩ := clone_call (ts := ts) h.dur.rd hl
  refine ⟨v, L', ?_, h2, h3, h4⟩
  have hI := Q2 (ts := ts) h
  have hne : (stI s.stop = 0) = False := by cases s.stop <;> simp [stI]
  refine callFn_eq rfl rfl at18 rfl (by simp [Tryd.f18]) (by simp [Tryd.f18]) (G_start ?_)
  simp -implicitDefEqProofs only [Tryd.f18,Wa,Wb,Wc,Wd,We,Wf,Wg,Wh,Wi,Wj,Wk,Wl,Wm,Wn,Zo,Zp,evalT,Nat.reduceLT,Nat.reduceEqDiff,if_true,if_false,reduceIte,Ys,ofVal,ofCell,argT,resT,setT,Y0,Int.reduceEq,Int.reduceLT,Int.reduceLE,Int.reduceNeg,mb,Nat.reduceBEq,tys,stb,Va,storeList,Nat.reduceAdd,Nat.reduceLeDiff,hI,hne,opT_nilCheck,nilO_ptr,h.cell,h1]
  exact ⟨rfl, trivial⟩
def cutS (s : DS) (n : Int) : DS × Int :=
  if s.stop then (s, 13) else if 0 < s.P.length then (s, 13) else if n < 0 ∨ (s.D.length : Int) < n then (s, 2) else (⟨s.D.take n.toNat, s.P, s.left, false⟩, 0)
theorem cut_call (n : Int) (h : Dk L d s bv dv lr) (hl : s.D.length + s.P.length ≤ 2 ^ 38) :
    ∃ L' bv' dv' lr', callFn env (ev env) 20 [.ptr d 0, .int .i64 n] ⟨L, ts⟩ = some (.int .i64 (cutS s n).2, ⟨L', ts⟩) ∧ Dk L' d (cutS s n).1 bv' dv' lr' ∧ Step L L' (fp d bv dv) (fp d bv' dv') := by
  have hR := ready_call (ts := ts) h
  have hLn := len_call (ts := ts) h.cell h.buf (by omega)
  unfold cutS
  cases hs : s.stop with
  | true =>
    rw [if_pos rfl]
    rw [hs] at hR
    refine ⟨L, bv, dv, lr, ?_, h, Step.refl _ _⟩
    refine callFn_eq rfl rfl at20 rfl (by simp [Tryd.f20]) (by simp [Tryd.f20]) (G_start ?_)
    simp -implicitDefEqProofs only [Tryd.f20,Wa,Wb,Wc,Wd,We,Wf,Wg,Wh,Wi,Wj,Wk,Wl,Wm,Wn,Zo,Zp,evalT,Nat.reduceLT,Nat.reduceEqDiff,if_true,if_false,reduceIte,Ys,ofVal,ofCell,argT,resT,setT,Y0,Int.reduceEq,Int.reduceLT,Int.reduceLE,Int.reduceNeg,mb,Nat.reduceBEq,tys,stb,Va,storeList,Nat.reduceAdd,Nat.reduceLeDiff,hR]
    exact ⟨rfl, trivial⟩
  | false =>
    rw [if_neg (by simp)]
    rw [hs] at hR
    by_cases c1 : 0 < s.P.length
    · rw [if_pos c1]
      refine ⟨L, bv, dv, lr, ?_, h, Step.refl _ _⟩
      have c1' : (0 : Int) < (s.P.length : Int) := by omega
      refine callFn_eq rfl rfl at20 rfl (by simp [Tryd.f20]) (by simp [Tryd.f20]) (G_start ?_)
      simp -implicitDefEqProofs only [Tryd.f20,Wa,Wb,Wc,Wd,We,Wf,Wg,Wh,Wi,Wj,Wk,Wl,Wm,Wn,Zo,Zp,evalT,Nat.reduceLT,Nat.reduceEqDiff,if_true,if_false,reduceIte,Ys,ofVal,ofCell,argT,resT,setT,Y0,Int.reduceEq,Int.reduceLT,Int.reduceLE,Int.reduceNeg,mb,Nat.reduceBEq,tys,stb,Va,storeList,Nat.reduceAdd,Nat.reduceLeDiff,hR,opT_nilCheck,nilO_ptr,hLn,c1']
      exact ⟨rfl, trivial⟩
    · rw [if_neg c1]
      have c1' : ¬ (0 : Int) < (s.P.length : Int) := by omega
      have hlT := h.dur.rd.lenT 5
      by_cases c2 : n < 0
      · rw [if_pos (.inl c2)]
        refine ⟨L, bv, dv, lr, ?_, h, Step.refl _ _⟩
        refine callFn_eq rfl rfl at20 rfl (by simp [Tryd.f20]) (by simp [Tryd.f20]) (G_start ?_)
        simp -implicitDefEqProofs only [Tryd.f20,Wa,Wb,Wc,Wd,We,Wf,Wg,Wh,Wi,Wj,Wk,Wl,Wm,Wn,Zo,Zp,evalT,Nat.reduceLT,Nat.reduceEqDiff,if_true,if_false,reduceIte,Ys,ofVal,ofCell,argT,resT,setT,Y0,Int.reduceEq,Int.reduceLT,Int.reduceLE,Int.reduceNeg,mb,Nat.reduceBEq,tys,stb,Va,storeList,Nat.reduceAdd,Nat.reduceLeDiff,hR,opT_nilCheck,nilO_ptr,hLn,c1',c2]
        exact ⟨rfl, trivial⟩
      · by_cases c3 : (s.D.length : Int) < n
        · rw [if_pos (.inr c3)]
          refine ⟨L, bv, dv, lr, ?_, h, Step.refl _ _⟩
          refine callFn_eq rfl rfl at20 rfl (by simp [Tryd.f20]) (by simp [Tryd.f20]) (G_start ?_)
          simp -implicitDefEqProofs only [Tryd.f20,Wa,Wb,Wc,Wd,We,Wf,Wg,Wh,Wi,Wj,Wk,Wl,Wm,Wn,Zo,Zp,evalT,Nat.reduceLT,Nat.reduceEqDiff,if_true,if_false,reduceIte,Ys,ofVal,ofCell,argT,resT,setT,Y0,Int.reduceEq,Int.reduceLT,Int.reduceLE,Int.reduceNeg,mb,Nat.reduceBEq,tys,stb,Va,storeList,Nat.reduceAdd,Nat.reduceLeDiff,hR,opT_nilCheck,nilO_ptr,hLn,c1',c2,c3,h.cell,hlT]
          exact ⟨rfl, trivial⟩
        · rw [if_neg (by omega)]
          have hk : ((n.toNat : Nat) : Int) = n := by omega
          obtain ⟨y, hsl, hy, hyb⟩ := h.dur.rd.take (n := n.toNat) (by omega) (.inl rfl)
          rw [hk] at hsl
          obtain ⟨v, L', hC, hO, hK, hN⟩ := clone_call (ts := ts) hy (by rw [List.length_take]; omega)
          have hdl := B.lt_get h.cell
          have hd' := hK.get h.cell
          have hvd : blkOf v ≠ some d := fun e => by have := hN d e; omega
          have hb' : BufV L' bv s.P := h.buf.move fun q hq => hK.2 q (h.buf.rd.lt hq)
          refine ⟨L'.set d (.cells [bv, .int .i64 0, .int .i8 lr, v, .int .i64 s.left, .int .i64 (stI s.stop)] 50), bv, v, lr, ?_, ⟨?_, hb'.move fun q hq => ?_, hO.move fun q hq => ?_, h.bd, hvd, fun q hq e => ?_⟩, ⟨by rw [List.length_set]; exact hK.1, fun q hq hn => ?_, fun q hq => ?_⟩⟩
          · refine callFn_eq rfl rfl at20 rfl (by simp [Tryd.f20]) (by simp [Tryd.f20]) (G_start ?_)
            simp -implicitDefEqProofs only [Tryd.f20,Wa,Wb,Wc,Wd,We,Wf,Wg,Wh,Wi,Wj,Wk,Wl,Wm,Wn,Zo,Zp,evalT,Nat.reduceLT,Nat.reduceEqDiff,if_true,if_false,reduceIte,Ys,ofVal,ofCell,argT,resT,setT,Y0,Int.reduceEq,Int.reduceLT,Int.reduceLE,Int.reduceNeg,mb,Nat.reduceBEq,tys,stb,Va,storeList,Nat.reduceAdd,Nat.reduceLeDiff,hR,opT_nilCheck,nilO_ptr,hLn,c1',c2,c3,h.cell,hlT,opT_slice,optO_none,optO_some,hsl,hC,hd',hO.rd.cells,hO.rd.isCell]
            exact ⟨rfl, trivial⟩
          · rw [List.getElem?_set_self (by have := hK.1; omega), hs]
          · rw [List.getElem?_set_ne (fun e => h.bd (by rw [hq, e]))]
          · rw [List.getElem?_set_ne (fun e => hvd (by rw [hq, e]))]
          · have := hN q e
            have := h.buf.rd.lt hq
            omega
          · rw [List.getElem?_set_ne (fun e => hn (.inl e.symm)), hK.2 q hq]
          · rcases hq with rfl | hq | hq
            · exact .inl (.inl rfl)
            · exact .inl (.inr (.inl hq))
            · exact .inr (hN q hq)
end
end Go.Proofs.YtncohjljeoknkaaDoor.D
namespace Go.Proofs.YtncohjljeoknkaaDoor.D
open Go.Ab
set_option maxHeartbeats 4000000
set_option maxRecDepth 100000
set_option linter.unusedSimpArgs false
set_option linter.unusedVariables false
def Gr (L2 L : List AObj) (n : Nat) (x : V) (s : List UInt8) : Prop :=
  (n = 0 ∧ x = .nilsl ∧ L2 = L ∧ s = []) ∨ (0 < n ∧ s.length ≤ n ∧ x = .hsl L.length 0 s.length n (.grow 1) ∧ L2 = L ++ [.cells (byteCells s ++ List.replicate (n - s.length) (.int .u8 0)) 5])
theorem Gr.keep {L2 L : List AObj} {n : Nat} {x : V} {s : List UInt8} (h : Gr L2 L n x s) : Keep L L2 := by
  rcases h with ⟨_, _, rfl, _⟩ | ⟨_, _, _, rfl⟩
  · exact Keep.refl _
  · exact Keep.app _ _
theorem Gr.push {L2 L : List AObj} {ts : List Nat} {n : Nat} {x y : V} {s t : List UInt8} (h : Gr L2 L n x s) (hy : Rd L y t) (hl : s.length + t.length ≤ n) (hn : n ≤ 2 ^ 38) :
    ∃ x' L3, appO env true ⟨L2, ts⟩ 26 26 x y = some (x', ⟨L3, ts⟩) ∧ Gr L3 L n x' (s ++ t) := by
  have hy2 := h.keep.rd hy
  have hc := hy2.vcells
  simp only [appO, e26, s5, b5, z5, u26, Option.bind_some, hy.len, hc, if_true]
  by_cases h0 : t.length = 0
  · have : t = [] := List.eq_nil_of_length_eq_zero h0
    subst this
    refine ⟨x, L2, ?_, by simpa using h⟩
    rcases h with ⟨rfl, rfl, rfl, rfl⟩ | ⟨_, h2, rfl, rfl⟩
    · simp [aappend]
    · simp [aappend, h2]
  · rcases h with ⟨rfl, rfl, rfl, rfl⟩ | ⟨h1, h2, rfl, rfl⟩
    · omega
    · refine ⟨.hsl L.length 0 (s.length + t.length) n (.grow 1), L ++ [.cells (byteCells (s ++ t) ++ List.replicate (n - (s.length + t.length)) (.int .u8 0)) 5], ?_, .inr ⟨h1, by simpa using hl, by simp, by simp⟩⟩
      have e1 : (L ++ [AObj.cells (byteCells s ++ List.replicate (n - s.length) (V.int .u8 0)) 5])[L.length]? = some (.cells (byteCells s ++ List.replicate (n - s.length) (V.int .u8 0)) 5) := by simp
      have hlen : 0 + s.length * 1 + (byteCells t).length ≤ (byteCells s ++ List.replicate (n - s.length) (V.int .u8 0)).length := by
        rw [List.length_append, byteCells_len, byteCells_len, List.length_replicate]; omega
      have hcell := byteCells_cell t
      have est : storeList (byteCells s ++ List.replicate (n - s.length) (V.int .u8 0)) (0 + s.length * 1) (byteCells t) = byteCells (s ++ t) ++ List.replicate (n - (s.length + t.length)) (.int .u8 0) := by
        have e : 0 + s.length * 1 = (byteCells s).length := by rw [byteCells_len]; omega
        rw [storeList, e, List.take_left' rfl, byteCells_app, List.drop_append, List.drop_of_length_le (by omega), List.nil_append, Nat.add_sub_cancel_left, List.drop_replicate, byteCells_len]
        congr 2
        omega
      simp only [aappend, hl, h0, if_true, if_false, storeCellsV, e1]
      rw [if_pos ⟨hlen, hcell⟩, est]
      simp [S.set]
theorem Gr.own {L2 L : List AObj} {n : Nat} {x : V} {s : List UInt8} (h : Gr L2 L n x s) (hn : s.length = n) : Own L2 x s ∧ New L.length x := by
  rcases h with ⟨rfl, rfl, rfl, rfl⟩ | ⟨h1, h2, rfl, rfl⟩
  · exact ⟨.inl ⟨rfl, rfl⟩, fun q hq => by cases hq⟩
  · subst hn
    exact ⟨.inr (.inr ⟨L.length, rfl, by simp⟩), fun q hq => by cases hq; exact Nat.le_refl _⟩
theorem azero_ok {m : Nat} (h : 0 < m) (hm : m ≤ 2 ^ 39) (L : List AObj) (ts : List Nat) : appO env true ⟨L, ts⟩ 26 3 .nilsl (.int .i64 (m : Int)) = some (.hsl L.length 0 m m (.grow 1), ⟨L ++ [.cells (List.replicate m (.int .u8 0)) 5], ts⟩) := by
  have h0 : ¬ ((m : Int) = 0) := by omega
  have h1 : (0 : Int) < m ∧ (m : Int) ≤ lim ∧ (m : Int) * (1 : Nat) ≤ lim ∧ 0 < 1 := by unfold lim; omega
  have h2 : (List.replicate m [V.int .u8 0]).flatten = List.replicate m (V.int .u8 0) := by
    clear h hm h0 h1
    induction m with
    | zero => rfl
    | succ m ih => simp [List.replicate_succ, ih]
  simp only [appO, e26, s5, b5, u3, Option.bind_some, azero, h0, h1, if_false, if_true, zv5, and_self, V.cells, List.length_cons, List.length_nil, Nat.zero_add, S.push, Int.toNat_natCast, h2]
theorem grow_call (n : Nat) (hn : n ≤ 2 ^ 38) (L : List AObj) (ts : List Nat) : ∃ x L2, callFn env (ev env) 73 [.nilsl, .int .i64 n] ⟨L, ts⟩ = some (x, ⟨L2, ts⟩) ∧ Gr L2 L n x [] := by
  have v0 : ((0 : Nat) : Int) = 0 := rfl
  have w0 : IntKind.wrap .i64 ((0 : Int) - 0) = 0 := by kernel_rfl
  have w1 : IntKind.wrap .i64 ((n : Int) - 0) = (n : Int) := by rw [B.wrap64 (by omega)]; omega
  have c0 : ¬ ((n : Int) < 0) := by omega
  have hv : ∀ e, vCapT (some (.slice e)) .nilsl = some (.int .i64 0) := fun _ => rfl
  have hsn : sliceO env 26 .nilsl none (some (.int .i64 0)) none = some .nilsl := by simp [sliceO, u26, s5, vSlice, vBound]
  by_cases h0 : n = 0
  · subst h0
    refine ⟨.nilsl, L, ?_, .inl ⟨rfl, rfl, rfl, rfl⟩⟩
    have w1 : IntKind.wrap .i64 ((0 : Int) - 0) = 0 := by kernel_rfl
    refine callFn_eq rfl rfl at73 rfl (by simp [Tryd.f73]) (by simp [Tryd.f73]) (G_start ?_)
    simp -implicitDefEqProofs only [Tryd.f73,Wa,Wb,Wc,Wd,We,Wf,Wg,Wh,Wi,Wj,Wk,Wl,Wm,Wn,Zo,Zp,evalT,Nat.reduceLT,Nat.reduceEqDiff,if_true,if_false,reduceIte,Ys,ofVal,ofCell,argT,resT,setT,Y0,Int.reduceEq,Int.reduceLT,Int.reduceLE,Int.reduceNeg,mb,Nat.reduceBEq,tys,stb,Va,storeList,Nat.reduceAdd,Nat.reduceLeDiff,v0,opT_cap,hv,w0]
    exact ⟨rfl, trivial⟩
  · refine ⟨.hsl L.length 0 0 n (.grow 1), L ++ [.cells (List.replicate n (.int .u8 0)) 5], ?_, .inr ⟨by omega, Nat.zero_le _, rfl, by simp [byteCells]⟩⟩
    have c1 : (0 : Int) < (n : Int) := by omega
    have hA := azero_ok (m := n) (by omega) (by omega) L ts
    have hcut : sliceO env 26 (.hsl L.length 0 n n (.grow 1)) none (some (.int .i64 0)) none = some (.hsl L.length 0 0 n (.grow 1)) := by simp [sliceO, u26, s5, vSlice, vBound, HCap.cut]
    refine callFn_eq rfl rfl at73 rfl (by simp [Tryd.f73]) (by simp [Tryd.f73]) (G_start ?_)
    simp -implicitDefEqProofs only [Tryd.f73,Wa,Wb,Wc,Wd,We,Wf,Wg,Wh,Wi,Wj,Wk,Wl,Wm,Wn,Zo,Zp,evalT,Nat.reduceLT,Nat.reduceEqDiff,if_true,if_false,reduceIte,Ys,ofVal,ofCell,argT,resT,setT,Y0,Int.reduceEq,Int.reduceLT,Int.reduceLE,Int.reduceNeg,mb,Nat.reduceBEq,tys,stb,Va,storeList,Nat.reduceAdd,Nat.reduceLeDiff,c0,c1,opT_cap,hv,w0,w1,opT_slice,optO_none,optO_some,hsn,mb73,hA,hcut]
    exact ⟨rfl, trivial⟩
theorem concat_call {L : List AObj} {ts : List Nat} {u v : V} {s t : List UInt8} (hu : Rd L u s) (hv : Rd L v t) (hl : s.length + t.length ≤ 2 ^ 38) :
    ∃ x L', callFn env (ev env) 55 [.row [u, v] 2 .full] ⟨L, ts⟩ = some (x, ⟨L', ts⟩) ∧ Own L' x (s ++ t) ∧ Keep L L' ∧ New L.length x := by
  obtain ⟨x0, L0, hG, g0⟩ := grow_call (s.length + t.length) hl L ts
  obtain ⟨x1, L1, hA1, g1⟩ := g0.push (ts := ts) hu (by simp) hl
  rw [List.nil_append] at g1
  obtain ⟨x2, L2, hA2, g2⟩ := g1.push (ts := ts) hv (by simp) hl
  obtain ⟨o1, o2⟩ := g2.own (by simp)
  refine ⟨x2, L2, ?_, o1, g2.keep, o2⟩
  refine callFn_eq rfl rfl at55 rfl (by simp [Tryd.f55]) (by simp [Tryd.f55]) (G_start ?_)
  have u37 : env.P.underlying 37 = some (.slice 26) := by kernel_rfl
  simp -implicitDefEqProofs only [Tryd.f55,Wa,Wb,Wc,Wd,We,Wf,Wg,Wh,Wi,Wj,Wk,Wl,Wm,Wn,Zo,Zp,evalT,Nat.reduceLT,Nat.reduceEqDiff,if_true,if_false,reduceIte,Ys,ofVal,ofCell,argT,resT,setT,Y0,Int.reduceEq,Int.reduceLT,Int.reduceLE,Int.reduceNeg,mb,Nat.reduceBEq,tys,stb,Va,storeList,Nat.reduceAdd,Nat.reduceLeDiff,u37]
  refine loop_rule (fun m T D σ => D = [] ∧ σ = ⟨L, ts⟩ ∧ T 0 = .row [u, v] 2 .full ∧ T 9 = .row [u, v] 2 .full ∧ T 10 = .int .i64 2 ∧ ∃ i : Nat, i ≤ 2 ∧ m = 2 - i ∧ T 11 = .int .i64 i ∧ T 3 = .int .i64 ((if i = 0 then 0 else if i = 1 then s.length else s.length + t.length : Nat) : Int)) ?_ 2 _ _ _ ⟨rfl, rfl, rfl, rfl, rfl, 0, by omega, rfl, rfl, rfl⟩
  rintro m T D σ ⟨rfl, rfl, t0, t9, t10, i, hi, rfl, t11, t3⟩
  refine G_start ?_
  have w1 : IntKind.wrap .i64 ((0 : Int) + s.length) = (s.length : Int) := by rw [B.wrap64 (by omega)]; omega
  have w2 : IntKind.wrap .i64 ((s.length : Int) + t.length) = ((s.length + t.length : Nat) : Int) := by rw [B.wrap64 (by omega)]; omega
  have c1 : ¬ ((s.length : Int) < 0) := by omega
  have c2 : ¬ (((s.length + t.length : Nat) : Int) < 0) := by omega
  have lu := hu.lenT 5
  have lv := hv.lenT 5
  have r0 : vIndexAddr 1 (.row [u, v] 2 .full) (.int .i64 0) = some (.rptr [u, v]) := rfl
  have r1 : vIndexAddr 1 (.row [u, v] 2 .full) (.int .i64 1) = some (.rptr [v]) := rfl
  have x0' : ∀ h, loadCellsV h 1 (.rptr [u, v]) = some [u] := fun _ => rfl
  have x1' : ∀ h, loadCellsV h 1 (.rptr [v]) = some [v] := fun _ => rfl
  have tn1 : Int.toNat 1 = 1 := rfl
  have hcase : i = 0 ∨ i = 1 ∨ i = 2 := by omega
  rcases hcase with rfl | rfl | rfl
  · have t11 : T 11 = .int .i64 0 := t11
    have t3 : T 3 = .int .i64 0 := t3
    simp -implicitDefEqProofs only [Wa,Wb,Wc,Wd,We,Wf,Wg,Wh,Wi,Wj,Wk,Wl,Wm,Wn,Zo,Zp,evalT,Nat.reduceLT,Nat.reduceEqDiff,if_true,if_false,reduceIte,Ys,ofVal,ofCell,argT,resT,setT,Y0,Int.reduceEq,Int.reduceLT,Int.reduceLE,Int.reduceNeg,mb,Nat.reduceBEq,tys,stb,Va,storeList,Nat.reduceAdd,Nat.reduceLeDiff,u37,t0,t9,t10,t11,t3,r0,x0',lu,w1,c1,Option.bind_some]
    exact ⟨1, by omega, 1, by omega, rfl, rfl, rfl⟩
  · have t11 : T 11 = .int .i64 1 := t11
    have t3 : T 3 = .int .i64 s.length := t3
    simp -implicitDefEqProofs only [Wa,Wb,Wc,Wd,We,Wf,Wg,Wh,Wi,Wj,Wk,Wl,Wm,Wn,Zo,Zp,evalT,Nat.reduceLT,Nat.reduceEqDiff,if_true,if_false,reduceIte,Ys,ofVal,ofCell,argT,resT,setT,Y0,Int.reduceEq,Int.reduceLT,Int.reduceLE,Int.reduceNeg,mb,Nat.reduceBEq,tys,stb,Va,storeList,Nat.reduceAdd,Nat.reduceLeDiff,u37,t0,t9,t10,t11,t3,r1,x1',tn1,lv,w2,c2,Option.bind_some]
    exact ⟨0, by omega, 2, by omega, rfl, rfl, rfl⟩
  · have t11 : T 11 = .int .i64 2 := t11
    have t3 : T 3 = .int .i64 ((s.length + t.length : Nat) : Int) := t3
    simp -implicitDefEqProofs only [Wa,Wb,Wc,Wd,We,Wf,Wg,Wh,Wi,Wj,Wk,Wl,Wm,Wn,Zo,Zp,evalT,Nat.reduceLT,Nat.reduceEqDiff,if_true,if_false,reduceIte,Ys,ofVal,ofCell,argT,resT,setT,Y0,Int.reduceEq,Int.reduceLT,Int.reduceLE,Int.reduceNeg,mb,Nat.reduceBEq,tys,stb,Va,storeList,Nat.reduceAdd,Nat.reduceLeDiff,u37,t0,t9,t10,t11,t3,hG]
    refine loop_rule (fun m T D σ => D = [] ∧ T 25 = .row [u, v] 2 .full ∧ T 26 = .int .i64 2 ∧ ∃ i : Nat, i ≤ 2 ∧ m = 2 - i ∧ T 27 = .int .i64 i ∧ (i = 0 → T 6 = x0 ∧ σ = ⟨L0, ts⟩) ∧ (i = 1 → T 6 = x1 ∧ σ = ⟨L1, ts⟩) ∧ (i = 2 → T 6 = x2 ∧ σ = ⟨L2, ts⟩)) ?_ 2 _ _ _ ⟨rfl, rfl, rfl, 0, by omega, rfl, rfl, fun _ => ⟨rfl, rfl⟩, fun h => by omega, fun h => by omega⟩
    clear t0 t9 t10 t11 t3
    rintro m T D σ ⟨rfl, t25, t26, i, hi, rfl, t27, k0, k1, k2⟩
    refine G_start ?_
    have hcase : i = 0 ∨ i = 1 ∨ i = 2 := by omega
    rcases hcase with rfl | rfl | rfl
    · obtain ⟨t6, rfl⟩ := k0 rfl
      have t27 : T 27 = .int .i64 0 := t27
      simp -implicitDefEqProofs only [Wa,Wb,Wc,Wd,We,Wf,Wg,Wh,Wi,Wj,Wk,Wl,Wm,Wn,Zo,Zp,evalT,Nat.reduceLT,Nat.reduceEqDiff,if_true,if_false,reduceIte,Ys,ofVal,ofCell,argT,resT,setT,Y0,Int.reduceEq,Int.reduceLT,Int.reduceLE,Int.reduceNeg,mb,Nat.reduceBEq,tys,stb,Va,storeList,Nat.reduceAdd,Nat.reduceLeDiff,u37,t25,t26,t27,t6,r0,x0',mb55,hA1]
      exact ⟨1, by omega, 1, by omega, rfl, rfl, fun h => by omega, fun _ => trivial, fun h => by omega⟩
    · obtain ⟨t6, rfl⟩ := k1 rfl
      have t27 : T 27 = .int .i64 1 := t27
      simp -implicitDefEqProofs only [Wa,Wb,Wc,Wd,We,Wf,Wg,Wh,Wi,Wj,Wk,Wl,Wm,Wn,Zo,Zp,evalT,Nat.reduceLT,Nat.reduceEqDiff,if_true,if_false,reduceIte,Ys,ofVal,ofCell,argT,resT,setT,Y0,Int.reduceEq,Int.reduceLT,Int.reduceLE,Int.reduceNeg,mb,Nat.reduceBEq,tys,stb,Va,storeList,Nat.reduceAdd,Nat.reduceLeDiff,u37,t25,t26,t27,t6,r1,x1',tn1,mb55,hA2]
      exact ⟨0, by omega, 2, by omega, rfl, rfl, fun h => by omega, fun h => by omega, fun _ => trivial⟩
    · obtain ⟨t6, rfl⟩ := k2 rfl
      have t27 : T 27 = .int .i64 2 := t27
      simp -implicitDefEqProofs only [Wa,Wb,Wc,Wd,We,Wf,Wg,Wh,Wi,Wj,Wk,Wl,Wm,Wn,Zo,Zp,evalT,Nat.reduceLT,Nat.reduceEqDiff,if_true,if_false,reduceIte,Ys,ofVal,ofCell,argT,resT,setT,Y0,Int.reduceEq,Int.reduceLT,Int.reduceLE,Int.reduceNeg,mb,Nat.reduceBEq,tys,stb,Va,storeList,Nat.reduceAdd,Nat.reduceLeDiff,u37,t25,t26,t27,t6]
      exact ⟨rfl, trivial⟩
section
variable {L : List AObj} {ts : List Nat} {d : Nat} {s : DS} {bv dv : V} {lr : Int}
theorem sc_56 (ag : Array Operand) (ts : Array TypeId) : scOp env (.call ⟨.value (.func 56), ag, ts⟩) = true := rfl
theorem sc_55 (ag : Array Operand) (ts : Array TypeId) : scOp env (.call ⟨.value (.func 55), ag, ts⟩) = true := rfl
theorem rd_bs (t : TypeId) (n : Nat) (ps : Array (Nat × Operand)) : readsOp (.buildSlice t n ps) = false := rfl
theorem all_call (h : Dk L d s bv dv lr) (hl : s.D.length + s.P.length ≤ 2 ^ 38) :
    ∃ v L', callFn env (ev env) 17 [.ptr d 0] ⟨L, ts⟩ = some (v, ⟨L', ts⟩) ∧ Own L' v (s.D ++ s.P) ∧ Keep L L' ∧ New L.length v := by
  have hI := Q2 (ts := ts) h
  have hne : (stI s.stop = 0) = False := by cases s.stop <;> simp [stI]
  have hB := bytes_call (ts := ts) h.cell h.buf
  obtain ⟨v, L', hC, hO, hK, hN⟩ := concat_call (ts := ts) h.dur.rd h.buf.rd hl
  refine ⟨v, L', ?_, hO, hK, hN⟩
  refine callFn_eq rfl rfl at17 rfl (by simp [Tryd.f17]) (by simp [Tryd.f17]) (G_start ?_)
  simp -implicitDefEqProofs only [Tryd.f17,Wa,Wb,Wc,Wd,We,Wf,Wg,Wh,Wi,Wj,Wk,Wl,Wm,Wn,Zo,Zp,evalT,Nat.reduceLT,Nat.reduceEqDiff,if_true,if_false,reduceIte,Ys,ofVal,ofCell,argT,resT,setT,Y0,Int.reduceEq,Int.reduceLT,Int.reduceLE,Int.reduceNeg,mb,Nat.reduceBEq,tys,stb,hI,hne]
  refine G_late rfl (fun s0 => s0.heap[d]? = some (.cells [bv, .int .i64 0, .int .i8 lr, dv, .int .i64 s.left, .int .i64 (stI s.stop)] 50)) 2 (fun _ => h.cell) (by kernel_rfl) (by kernel_rfl) ?_
  simp -implicitDefEqProofs only [Wa,Wb,Wc,Wd,We,Wf,Wg,Wh,Wi,Wj,Wk,Wl,Wm,Wn,Zo,Zp,evalT,Nat.reduceLT,Nat.reduceEqDiff,if_true,if_false,reduceIte,Ys,ofVal,ofCell,argT,resT,setT,Y0,Int.reduceEq,Int.reduceLT,Int.reduceLE,Int.reduceNeg,mb,Nat.reduceBEq,tys,stb,Va,storeList,Nat.reduceAdd,Nat.reduceLeDiff,GM_nil,GM_op,GMS_some,GMS_none,GMS_ite,GMS_nite,opT_nilCheck,nilO_ptr,h.cell,hB,opT_rowB,row2 dv bv h.dur.rd.cells h.buf.rd.cells,hC,sc_56,sc_55,rd_bs,sc_nil,rd_nil,sc_load,sc_move,sc_fieldAddr,rd_fieldAddr,sc_store,rd_store,rd_load,rd_move,rd_call,aread_load,rd_assign,sc_assign]
  exact ⟨fun s0 e => by rw [e]; rfl, fun _ => trivial, fun _ => hK.get h.cell, rfl, trivial⟩
theorem new_call (L : List AObj) (ts : List Nat) : ∃ L', callFn env (ev env) 13 [] ⟨L, ts⟩ = some (.ptr L.length 0, ⟨L', ts⟩) ∧ Dk L' L.length ⟨[], [], -1, false⟩ .nilsl .nilsl 0 ∧ Keep L L' := by
  refine ⟨L ++ [.cells [.nilsl, .int .i64 0, .int .i8 0, .nilsl, .int .i64 (-1), .int .i64 1] 50], ?_, ⟨by simp [stI], .inl ⟨rfl, rfl⟩, .inl ⟨rfl, rfl⟩, by simp [blkOf], by simp [blkOf], fun q h => by cases h⟩, Keep.app _ _⟩
  have hb : buildO env 50 [(2, .int .i64 (-1)), (3, .int .i64 1)] = some (.agg [.nilsl, .int .i64 0, .int .i8 0, .nilsl, .int .i64 (-1), .int .i64 1]) := by kernel_rfl
  refine callFn_eq rfl rfl at13 rfl (by simp [Tryd.f13]) (by simp [Tryd.f13]) (G_start ?_)
  simp -implicitDefEqProofs only [Tryd.f13,Wa,Wb,Wc,Wd,We,Wf,Wg,Wh,Wi,Wj,Wk,Wl,Wm,Wn,Zo,Zp,evalT,Nat.reduceLT,Nat.reduceEqDiff,if_true,if_false,reduceIte,Ys,ofVal,ofCell,argT,resT,setT,Y0,Int.reduceEq,Int.reduceLT,Int.reduceLE,Int.reduceNeg,mb,Nat.reduceBEq,tys,stb,Va,storeList,Nat.reduceAdd,Nat.reduceLeDiff,hb]
  exact ⟨rfl, trivial⟩
end
end Go.Proofs.YtncohjljeoknkaaDoor.D
namespace Go.Proofs.YtncohjljeoknkaaDoor.D
open Go.Ab
set_option maxHeartbeats 4000000
set_option maxRecDepth 100000
set_option linter.unusedSimpArgs false
set_option linter.unusedVariables false
theorem at26 : env.P.funcs[26]? = some Tryd.f26 := by kernel_rfl
theorem at27 : env.P.funcs[27]? = some Tryd.f27 := by kernel_rfl
theorem at28 : env.P.funcs[28]? = some Tryd.f28 := by kernel_rfl
theorem at29 : env.P.funcs[29]? = some Tryd.f29 := by kernel_rfl
theorem at30 : env.P.funcs[30]? = some Tryd.f30 := by kernel_rfl
theorem at31 : env.P.funcs[31]? = some Tryd.f31 := by kernel_rfl
theorem at34 : env.P.funcs[34]? = some Tryd.f34 := by kernel_rfl
theorem sc_bs (t : TypeId) (n : Nat) (ps : Array (Nat × Operand)) : scOp env (.buildSlice t n ps) = false := rfl
theorem cbool (b : Bool) : (V.bool b).cells = [V.bool b] := rfl
theorem ibool (b : Bool) : (V.bool b).isCell = true := rfl
theorem sc_slice (t : TypeId) (x : Operand) (a b c : Option Operand) : scOp env (.slice t x a b c) = false := rfl
theorem rd_slice (t : TypeId) (x : Operand) (a b c : Option Operand) : readsOp (.slice t x a b c) = false := rfl
theorem sc_len (ag : Array Operand) : scOp env (.call ⟨.builtin .len, ag, #[26]⟩) = false := by kernel_rfl
theorem sc_min (ag : Array Operand) (ts : Array TypeId) : scOp env (.call ⟨.builtin .min, ag, ts⟩) = false := rfl
theorem sc_box (t : TypeId) (x : Operand) : scOp env (.box t x) = true := rfl
theorem rd_box (t : TypeId) (x : Operand) : readsOp (.box t x) = false := rfl
theorem sc_build (t : TypeId) (ps : Array (Nat × Operand)) : scOp env (.build t ps) = false := rfl
theorem rd_build (t : TypeId) (ps : Array (Nat × Operand)) : readsOp (.build t ps) = false := rfl
def RowA (ts : List Nat) (v : V) (s : List UInt8) : Prop := ∃ cap, v = .row (byteCells s) s.length cap ∧ ((cap = .full ∧ s = []) ∨ ∃ k e, cap = .tok k e 1 ∧ ts[k]? = some e)
def RowB (v : V) (s : List UInt8) : Prop := (v = .nilsl ∧ s = []) ∨ ∃ cap, v = .row (byteCells s) s.length cap
theorem RowA.b {ts : List Nat} {v : V} {s : List UInt8} (h : RowA ts v s) : RowB v s := by
  obtain ⟨cap, rfl, _⟩ := h
  exact .inr ⟨cap, rfl⟩
theorem RowB.rd {v : V} {s : List UInt8} (h : RowB v s) (L : List AObj) : Rd L v s := by
  rcases h with ⟨rfl, rfl⟩ | ⟨cap, rfl⟩
  · exact .inl ⟨rfl, rfl⟩
  · exact Rd.row L s cap
theorem RowB.blk {v : V} {s : List UInt8} (h : RowB v s) : blkOf v = none := by
  rcases h with ⟨rfl, rfl⟩ | ⟨cap, rfl⟩ <;> rfl
def RefAt (L : List AObj) (o : Nat) (s : DS) : Prop := ∃ dr pr, L[o]? = some (.cells [dr, pr, .int .i64 s.left, .bool s.stop] 43) ∧ RowB dr s.D ∧ RowB pr s.P
def But (o : Nat) (L L' : List AObj) : Prop := L'.length = L.length ∧ ∀ q, q ≠ o → L'[q]? = L[q]?
theorem But.refl (o : Nat) (L : List AObj) : But o L L := ⟨rfl, fun _ _ => rfl⟩
theorem But.set (o : Nat) (L : List AObj) (x : AObj) : But o L (L.set o x) := ⟨by simp, fun q hq => by rw [List.getElem?_set_ne (Ne.symm hq)]⟩
section
variable {L : List AObj} {ts : List Nat} {o : Nat} {s : DS}
theorem rnew_call (L : List AObj) (ts : List Nat) : ∃ L', callFn env (ev env) 26 [] ⟨L, ts⟩ = some (.ptr L.length 0, ⟨L', ts⟩) ∧ RefAt L' L.length ⟨[], [], -1, false⟩ ∧ Keep L L' := by
  refine ⟨L ++ [.cells [.nilsl, .nilsl, .int .i64 (-1), .bool false] 43], ?_, ⟨.nilsl, .nilsl, by simp, .inl ⟨rfl, rfl⟩, .inl ⟨rfl, rfl⟩⟩, Keep.app _ _⟩
  have hb : buildO env 43 [(2, .int .i64 (-1))] = some (.agg [.nilsl, .nilsl, .int .i64 (-1), .bool false]) := by kernel_rfl
  refine callFn_eq rfl rfl at26 rfl (by simp [Tryd.f26]) (by simp [Tryd.f26]) (G_start ?_)
  simp -implicitDefEqProofs only [Tryd.f26,Wa,Wb,Wc,Wd,We,Wf,Wg,Wh,Wi,Wj,Wk,Wl,Wm,Wn,Zo,Zp,evalT,Nat.reduceLT,Nat.reduceEqDiff,if_true,if_false,reduceIte,Ys,ofVal,ofCell,argT,resT,setT,Y0,Int.reduceEq,Int.reduceLT,Int.reduceLE,Int.reduceNeg,mb,Nat.reduceBEq,tys,stb,Va,storeList,Nat.reduceAdd,Nat.reduceLeDiff,hb]
  exact ⟨rfl, trivial⟩
end
end Go.Proofs.YtncohjljeoknkaaDoor.D
namespace Go.Proofs.YtncohjljeoknkaaDoor.D
open Go.Ab
set_option maxHeartbeats 4000000
set_option maxRecDepth 100000
set_option linter.unusedSimpArgs false
set_option linter.unusedVariables false
theorem Dk.keep {L L' : List AObj} {d : Nat} {s : DS} {bv dv : V} {lr : Int} (h : Dk L d s bv dv lr) (k : Keep L L') : Dk L' d s bv dv lr :=
  ⟨k.get h.cell, h.buf.move fun q hq => k.2 q (h.buf.rd.lt hq), h.dur.move fun q hq => k.2 q (h.dur.rd.lt hq), h.bd, h.dd, h.bdv⟩
theorem RefAt.move {L L' : List AObj} {o : Nat} {s : DS} (h : RefAt L o s) (hq : L'[o]? = L[o]?) : RefAt L' o s := by
  obtain ⟨dr, pr, h1, h2⟩ := h
  exact ⟨dr, pr, by rw [hq]; exact h1, h2⟩
theorem RefAt.lt {L : List AObj} {o : Nat} {s : DS} (h : RefAt L o s) : o < L.length := by
  obtain ⟨dr, pr, h1, h2⟩ := h
  exact B.lt_get h1
section
variable {L : List AObj} {ts : List Nat} {d : Nat} {s : DS} {bv dv : V} {lr : Int}
end
structure Act where
  kind : Int
  n : Int
  b : V
  bs : List UInt8
def actC (a : Act) : List V := [.int .i64 a.kind, .int .i64 a.n, a.b]
def flatA (l : List Act) : List V := l.flatMap actC
def OkA (a : Act) : Prop := RowB a.b a.bs ∧ -9223372036854775808 ≤ a.n ∧ a.n ≤ 9223372036854775807
section
variable {L : List AObj} {ts : List Nat} {d : Nat} {s : DS} {bv dv : V} {lr : Int}
end
def IsA (v : V) (l : List Act) : Prop := ((v = .nilsl ∧ l = []) ∨ v = .row (flatA l) l.length .unk) ∧ ∀ a ∈ l, OkA a
theorem IsA.len {v : V} {l : List Act} (h : IsA v l) (e : TypeId) : vLenT (some (.slice e)) v = some (.int .i64 l.length) := by
  rcases h.1 with ⟨rfl, rfl⟩ | rfl <;> rfl
end Go.Proofs.YtncohjljeoknkaaDoor.D
