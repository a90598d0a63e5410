/- Proved here: bytes in memory, Buffers, records: checks and bytes. Conditions: those of each theorem; no statement of the seat is proved in this text. -/
import Derived.Test.YtncohjljeoknkaaEnvD
namespace Go.Proofs.Ytncohjljeoknkaa.D
open Go.Ab
set_option maxHeartbeats 4000000
set_option maxRecDepth 100000
set_option linter.unusedSimpArgs false
set_option linter.unusedVariables false
set_option linter.unusedSectionVars false
theorem u3 : env.P.underlying 3 = some (.int .i64) := by kernel_rfl
theorem u4 : env.P.underlying 4 = some .bool := by kernel_rfl
theorem u5 : env.P.underlying 5 = some (.int .u8) := by kernel_rfl
theorem u9 : env.P.underlying 9 = some .string := by kernel_rfl
theorem u24 : env.P.underlying 28 = some (.int .i64) := by kernel_rfl
theorem u26 : env.P.underlying 25 = some (.slice 5) := by kernel_rfl
theorem s3 : sz env 3 = some 1 := by kernel_rfl
theorem s4 : sz env 4 = some 1 := by kernel_rfl
theorem s5 : sz env 5 = some 1 := by kernel_rfl
theorem s26 : sz env 25 = some 1 := by kernel_rfl
theorem s45 : sz env 42 = some 1 := by kernel_rfl
theorem b5 : bys env 5 = some 1 := by kernel_rfl
theorem z5 : zeroN env 5 = some 1 := by kernel_rfl
theorem e26 : elemS env 25 = some 5 := by kernel_rfl
theorem zv5 : zeroV env 5 = some (.int .u8 0) := by kernel_rfl
theorem g26 : aggT env 25 = some false := by kernel_rfl
theorem g3 : aggT env 3 = some false := by kernel_rfl
theorem g4 : aggT env 4 = some false := by kernel_rfl
theorem tys : env.P.underlying 3 = some (.int .i64) ∧ env.P.underlying 4 = some .bool ∧ env.P.underlying 5 = some (.int .u8) ∧ env.P.underlying 9 = some .string ∧ env.P.underlying 28 = some (.int .i64) ∧ env.P.underlying 25 = some (.slice 5) ∧ sz env 3 = some 1 ∧ sz env 4 = some 1 ∧ sz env 5 = some 1 ∧ sz env 25 = some 1 ∧ sz env 42 = some 1 ∧
    fldOff env 44 0 = some 0 ∧ fldOff env 44 1 = some 1 ∧ fldOff env 44 2 = some 2 ∧
    (∀ h p, aload env h 25 p = (loadCellsV h 1 p).bind (·[0]?)) ∧ (∀ h p, aload env h 3 p = (loadCellsV h 1 p).bind (·[0]?)) ∧ (∀ h p, aload env h 4 p = (loadCellsV h 1 p).bind (·[0]?)) :=
  ⟨u3, u4, u5, u9, u24, u26, s3, s4, s5, s26, s45, by kernel_rfl, by kernel_rfl, by kernel_rfl, fun _ _ => aload_one g26, fun _ _ => aload_one g3, fun _ _ => aload_one g4⟩
theorem mb (f : FuncId) (r : Nat) (h : (f == 18 || f == 29) = false) : env.mutb f r = false := h
theorem stb (f : FuncId) (r : Nat) (h : (f == 13 && r == 6 || f == 9 && r == 9 || f == 32 && r == 12 || f == 28 && (r == 14 || r == 16) || f == 5 && r == 4) = false) : env.stab f r = false := h
theorem bytesOf_cells : ∀ s : List UInt8, bytesOf (byteCells s) = some s
  | [] => rfl
  | b :: s => by
    have := bytesOf_cells s
    simp only [byteCells, List.map_cons, bytesOf] at this ⊢
    rw [this]
    simp
theorem byteCells_app (a b : List UInt8) : byteCells (a ++ b) = byteCells a ++ byteCells b := by simp [byteCells]
theorem byteCells_len (a : List UInt8) : (byteCells a).length = a.length := by simp [byteCells]
theorem byteCells_cell (a : List UInt8) : (byteCells a).all V.isCell = true := by simp [byteCells, V.isCell]
theorem byteCells_take (a : List UInt8) (n : Nat) : (byteCells a).take n = byteCells (a.take n) := by simp [byteCells, List.map_take]
def Rd (L : List AObj) (y : V) (t : List UInt8) : Prop :=
  (y = .nilsl ∧ t = []) ∨ (∃ b off cap ex cs, y = .hsl b off t.length cap ex ∧ L[b]? = some (.cells cs 5) ∧ t.length ≤ cap ∧ off + t.length ≤ cs.length ∧ (cs.drop off).take t.length = byteCells t) ∨ (∃ cells cap, y = .row cells t.length cap ∧ t.length ≤ cells.length ∧ cells.take t.length = byteCells t)
theorem Rd.nil (L : List AObj) : Rd L .nilsl [] := .inl ⟨rfl, rfl⟩
theorem Rd.row (L : List AObj) (t : List UInt8) (cap : RCap) : Rd L (.row (byteCells t) t.length cap) t := .inr (.inr ⟨_, _, rfl, by simp [byteCells], by rw [List.take_of_length_le (by simp [byteCells])]⟩)
section
variable {L L' : List AObj} {y : V} {t : List UInt8}
theorem Rd.len (h : Rd L y t) : vLen y = some t.length := by
  rcases h with ⟨rfl, rfl⟩ | ⟨b, off, cap, ex, cs, rfl, _⟩ | ⟨cells, cap, rfl, _⟩ <;> rfl
theorem Rd.lenT (h : Rd L y t) (e : TypeId) : vLenT (some (.slice e)) y = some (.int .i64 t.length) := by
  rcases h with ⟨rfl, rfl⟩ | ⟨b, off, cap, ex, cs, rfl, _⟩ | ⟨cells, cap, rfl, _⟩ <;> rfl
theorem Rd.vcells (h : Rd L y t) : vCells L 1 t.length y = some (byteCells t) := by
  rcases h with ⟨rfl, rfl⟩ | ⟨b, off, cap, ex, cs, rfl, h1, h2, h3, h4⟩ | ⟨cells, cap, rfl, h1, h2⟩
  · rfl
  · simp [vCells, h1, h3, h4]
  · simp [vCells, h1, h2]
theorem Rd.cells (h : Rd L y t) : y.cells = [y] := by
  rcases h with ⟨rfl, rfl⟩ | ⟨b, off, cap, ex, cs, rfl, _⟩ | ⟨cells, cap, rfl, _⟩ <;> rfl
theorem Rd.isCell (h : Rd L y t) : y.isCell = true := by
  rcases h with ⟨rfl, rfl⟩ | ⟨b, off, cap, ex, cs, rfl, _⟩ | ⟨cells, cap, rfl, _⟩ <;> rfl
theorem Rd.lt (h : Rd L y t) {q : Nat} (hq : blkOf y = some q) : q < L.length := by
  rcases h with ⟨rfl, rfl⟩ | ⟨b, off, cap, ex, cs, rfl, h1, _⟩ | ⟨cells, cap, rfl, _⟩
  · cases hq
  · cases hq; exact B.lt_get h1
  · cases hq
theorem Rd.move (h : Rd L y t) (hq : ∀ q, blkOf y = some q → L'[q]? = L[q]?) : Rd L' y t := by
  rcases h with ⟨rfl, rfl⟩ | ⟨b, off, cap, ex, cs, rfl, h1, h2⟩ | ⟨cells, cap, rfl, h1⟩
  · exact .inl ⟨rfl, rfl⟩
  · exact .inr (.inl ⟨b, off, cap, ex, cs, rfl, by rw [hq b rfl]; exact h1, h2⟩)
  · exact .inr (.inr ⟨cells, cap, rfl, h1⟩)
theorem Rd.app (h : Rd L y t) (X : List AObj) : Rd (L ++ X) y t := h.move fun q hq => by rw [List.getElem?_append_left (h.lt hq)]
theorem Rd.set (h : Rd L y t) (b : Nat) (o : AObj) (hb : blkOf y ≠ some b) : Rd (L.set b o) y t := h.move fun q hq => by rw [List.getElem?_set_ne (fun e => hb (by rw [hq, e]))]
theorem Rd.str (h : Rd L y t) (ts : List Nat) : convO env ⟨L, ts⟩ 25 9 (some (.slice 5)) (some .string) y = some (.str t, ⟨L, ts⟩) := by
  have hv := h.vcells
  rcases h with ⟨rfl, rfl⟩ | ⟨b, off, cap, ex, cs, rfl, _⟩ | ⟨cells, cap, rfl, _⟩ <;> simp [convO, convP, convR, u5, hv, bytesOf_cells]
theorem vB {n d cap : Nat} (h : n ≤ cap) : vBound (some (.int .i64 (n : Int))) d cap = some n := by
  have h1 : (n : Int) ≤ (cap : Int) := by omega
  simp [vBound, h1]
theorem Rd.take (h : Rd L y t) {n : Nat} (hn : n ≤ t.length) {lo : Option V} (hlo : lo = none ∨ lo = some (.int .i64 0)) : ∃ y', sliceO env 25 y lo (some (.int .i64 (n : Int))) none = some y' ∧ Rd L y' (t.take n) ∧ blkOf y' = blkOf y := by
  have htl : (t.take n).length = n := by rw [List.length_take]; omega
  have hlo2 : ∀ m, vBound lo 0 m = some 0 := by
    intro m
    rcases hlo with rfl | rfl <;> simp [vBound]
  rcases h with ⟨rfl, rfl⟩ | ⟨b, off, cap, ex, cs, rfl, h1, h2, h3, h4⟩ | ⟨cells, cap, rfl, h1, h2⟩
  · have : n = 0 := by simpa using hn
    subst this
    exact ⟨.nilsl, by simp only [sliceO, u26, s5, vSlice, Option.bind_some, vB (Nat.le_refl 0), hlo2], .inl ⟨rfl, rfl⟩, rfl⟩
  · have key : ∃ ex', sliceO env 25 (.hsl b off t.length cap ex) lo (some (.int .i64 (n : Int))) none = some (.hsl b off n cap ex') := by
      have hnc : n ≤ cap := by omega
      cases ex with
      | exact => exact ⟨.exact, by simp only [sliceO, u26, s5, vSlice, Option.bind_some, vB hnc, hlo2, Nat.zero_mul, Nat.add_zero, Nat.sub_zero, ite_self]⟩
      | least => exact ⟨HCap.least.cut 1, by simp only [sliceO, u26, s5, vSlice, Option.bind_some, vB hnc, hlo2, Nat.zero_mul, Nat.add_zero, Nat.sub_zero, or_true, if_true]⟩
      | grow s => exact ⟨(HCap.grow s).cut 1, by simp only [sliceO, u26, s5, vSlice, Option.bind_some, vB hnc, hlo2, Nat.zero_mul, Nat.add_zero, Nat.sub_zero, or_true, if_true]⟩
      | both s => exact ⟨(HCap.both s).cut 1, by simp only [sliceO, u26, s5, vSlice, Option.bind_some, vB hnc, hlo2, Nat.zero_mul, Nat.add_zero, Nat.sub_zero, or_true, if_true]⟩
    obtain ⟨ex', key⟩ := key
    refine ⟨_, key, .inr (.inl ⟨b, off, cap, ex', cs, by rw [htl], h1, by omega, by omega, ?_⟩), rfl⟩
    rw [htl, ← byteCells_take, ← h4, List.take_take, Nat.min_eq_left hn]
  · refine ⟨.row ((cells.drop (0 * 1)).take ((n - 0) * 1)) (n - 0) (if n = t.length then subCap 1 cap else .unk), by simp only [sliceO, u26, s5, vSlice, Option.bind_some, vB hn, hlo2], .inr (.inr ⟨cells.take n, _, by rw [htl]; simp; rfl, by rw [htl, List.length_take]; omega, ?_⟩), rfl⟩
    rw [htl, List.take_take, Nat.min_self, ← byteCells_take, ← h2, List.take_take, Nat.min_eq_left hn]
end
def Own (L : List AObj) (v : V) (s : List UInt8) : Prop :=
  (v = .nilsl ∧ s = []) ∨ (v = .row [] 0 .full ∧ s = []) ∨ ∃ b, v = .hsl b 0 s.length s.length (.grow 1) ∧ L[b]? = some (.cells (byteCells s) 5)
theorem Own.rd {L : List AObj} {v : V} {s : List UInt8} (h : Own L v s) : Rd L v s := by
  rcases h with ⟨rfl, rfl⟩ | ⟨rfl, rfl⟩ | ⟨b, rfl, hb⟩
  · exact .inl ⟨rfl, rfl⟩
  · exact .inr (.inr ⟨[], .full, rfl, Nat.le_refl _, rfl⟩)
  · exact .inr (.inl ⟨b, 0, s.length, .grow 1, _, rfl, hb, Nat.le_refl _, by rw [byteCells_len]; omega, by rw [List.drop_zero, List.take_of_length_le (by rw [byteCells_len]; exact Nat.le_refl _)]⟩)
theorem Own.move {L L' : List AObj} {v : V} {s : List UInt8} (h : Own L v s) (hq : ∀ q, blkOf v = some q → L'[q]? = L[q]?) : Own L' v s := by
  rcases h with ⟨rfl, rfl⟩ | ⟨rfl, rfl⟩ | ⟨b, rfl, hb⟩
  · exact .inl ⟨rfl, rfl⟩
  · exact .inr (.inl ⟨rfl, rfl⟩)
  · exact .inr (.inr ⟨b, rfl, by rw [hq b rfl]; exact hb⟩)
def From (n : Nat) (v u : V) : Prop := blkOf u = blkOf v ∨ ∃ q, blkOf u = some q ∧ n ≤ q
end Go.Proofs.Ytncohjljeoknkaa.D
namespace Go.Proofs.Ytncohjljeoknkaa.D
open Go.Ab
set_option maxHeartbeats 4000000
set_option maxRecDepth 100000
set_option linter.unusedSimpArgs false
set_option linter.unusedVariables false
theorem at20 : env.P.funcs[20]? = some Try.f20 := by kernel_rfl
theorem at21 : env.P.funcs[21]? = some Try.f21 := by kernel_rfl
def BufV (L : List AObj) (v : V) (P : List UInt8) : Prop :=
  (v = .nilsl ∧ P = []) ∨ ∃ k cap cs, v = .hsl k 0 P.length cap (.grow 1) ∧ L[k]? = some (.cells cs 5) ∧ P.length ≤ cap ∧ P.length ≤ cs.length ∧ cs.take P.length = byteCells P
section
variable {L L' : List AObj} {v : V} {P : List UInt8}
theorem BufV.rd (h : BufV L v P) : Rd L v P := by
  rcases h with ⟨rfl, rfl⟩ | ⟨k, cap, cs, rfl, h1, h2, h3, h4⟩
  · exact .inl ⟨rfl, rfl⟩
  · exact .inr (.inl ⟨k, 0, cap, _, cs, rfl, h1, h2, by omega, by rw [List.drop_zero]; exact h4⟩)
theorem BufV.move (h : BufV L v P) (hq : ∀ q, blkOf v = some q → L'[q]? = L[q]?) : BufV L' v P := by
  rcases h with ⟨rfl, rfl⟩ | ⟨k, cap, cs, rfl, h1, h2⟩
  · exact .inl ⟨rfl, rfl⟩
  · exact .inr ⟨k, cap, cs, rfl, by rw [hq k rfl]; exact h1, h2⟩
theorem BufV.all (h : BufV L v P) : sliceO env 25 v (some (.int .i64 0)) none none = some v := by
  rcases h with ⟨rfl, rfl⟩ | ⟨k, cap, cs, rfl, h1, h2, h3, h4⟩
  · simp [sliceO, u26, s5, vSlice, vBound]
  · simp [sliceO, u26, s5, vSlice, vBound, HCap.cut]
end
theorem src_of {L : List AObj} {b : Nat} {y : V} {t : List UInt8} (hy : Rd L y t) (hb : blkOf y ≠ some b) : srcOK b y = true := by
  rcases hy with ⟨rfl, rfl⟩ | ⟨k, off, cap, ex, cs, rfl, _⟩ | ⟨cells, cap, rfl, _⟩
  · rfl
  · simp only [srcOK, bne_iff_ne, ne_eq]
    rintro rfl
    exact hb rfl
  · rfl
theorem get_at (M : List AObj) (p : AObj) (n : Nat) (h : n = M.length) : (M ++ [p])[n]? = some p := by rw [h, List.getElem?_concat_length]
theorem call50 (args : List V) (σ : S) : callFn env (ev env) 54 args σ = bufW args σ := rfl
theorem write_call {L : List AObj} {ts : List Nat} {b : Nat} {T : TypeId} {bv y : V} {lr : Int} {rest : List V} {P t : List UInt8} (hb : L[b]? = some (.cells (bv :: .int .i64 0 :: .int .i8 lr :: rest) T)) (hB : BufV L bv P) (hbk : blkOf bv ≠ some b) (hy : Rd L y t) (hyb : blkOf y ≠ some b) (hl : P.length + t.length ≤ 2 ^ 38) :
    ∃ bv' L', callFn env (ev env) 54 [.ptr b 0, y] ⟨L, ts⟩ = some (.tup [.int .i64 t.length, .nilif], ⟨L', ts⟩) ∧ L'[b]? = some (.cells (bv' :: .int .i64 0 :: .int .i8 0 :: rest) T) ∧ BufV L' bv' (P ++ t) ∧ L.length ≤ L'.length ∧
      (∀ q, q < L.length → q ≠ b → blkOf bv ≠ some q → L'[q]? = L[q]?) ∧ From L.length bv bv' := by
  rw [call50, bufW_eq hb hy.len hy.vcells (src_of hy hyb) (byteCells_cell t)]
  have hbl := B.lt_get hb
  have hg : ∀ o, (L.set b o)[b]? = some o := fun o => List.getElem?_set_self hbl
  unfold bufP
  rcases hB with ⟨rfl, rfl⟩ | ⟨k, cap, cs, rfl, h1, h2, h3, h4⟩
  · simp only
    by_cases h0 : t.length = 0
    · have : t = [] := List.eq_nil_of_length_eq_zero h0
      subst this
      rw [if_pos (show ([] : List UInt8).length = 0 from rfl)]
      exact ⟨.nilsl, _, rfl, hg _, .inl ⟨rfl, rfl⟩, by simp, fun q hq hne _ => by rw [List.getElem?_set_ne (Ne.symm hne)], .inl rfl⟩
    · rw [if_neg h0, if_pos (by simpa using hl)]
      refine ⟨.hsl L.length 0 t.length t.length (.grow 1), _, rfl, B.get_set hbl _ _, .inr ⟨L.length, t.length, byteCells t, by simp, get_last L b _ _, by simp, by simp [byteCells_len], ?_⟩, by simp, fun q hq hne _ => ?_, .inr ⟨L.length, rfl, Nat.le_refl _⟩⟩
      · rw [List.nil_append, List.take_of_length_le (by rw [byteCells_len]; exact Nat.le_refl _)]
      · rw [List.getElem?_append_left (by simpa using hq), List.getElem?_set_ne (Ne.symm hne)]
  · have hkb : b ≠ k := fun e => hbk (by rw [e]; rfl)
    have hkl := B.lt_get h1
    have hcell : (cs.take P.length).all V.isCell = true := by rw [h4]; exact byteCells_cell P
    simp only [h1]
    rw [if_pos ⟨trivial, trivial, trivial, hkb, h2, h3, hl, hcell⟩]
    by_cases h0 : t.length = 0
    · have : t = [] := List.eq_nil_of_length_eq_zero h0
      subst this
      rw [if_pos (show ([] : List UInt8).length = 0 from rfl), List.append_nil]
      exact ⟨.hsl k 0 P.length cap (.grow 1), _, rfl, hg _, .inr ⟨k, cap, cs, rfl, by rw [List.getElem?_set_ne hkb]; exact h1, h2, h3, h4⟩, by simp, fun q hq hne _ => by rw [List.getElem?_set_ne (Ne.symm hne)], .inl rfl⟩
    · rw [if_neg h0]
      refine ⟨.hsl L.length 0 (P.length + t.length) (P.length + t.length) (.grow 1), _, rfl, ?_, .inr ⟨L.length, P.length + t.length, cs.take P.length ++ byteCells t, by simp, ?_, by simp, ?_, ?_⟩, by simp, fun q hq hne hqk => ?_, .inr ⟨L.length, rfl, Nat.le_refl _⟩⟩
      · rw [List.getElem?_append_left (by simpa using hbl), List.getElem?_set_ne (Ne.symm hkb)]; exact hg _
      · exact get_at _ _ _ (by simp)
      · rw [h4, ← byteCells_app, byteCells_len]; exact Nat.le_refl _
      · rw [h4, ← byteCells_app, List.take_of_length_le (by rw [byteCells_len]; exact Nat.le_refl _)]
      · rw [List.getElem?_append_left (by simpa using hq), List.getElem?_set_ne (fun e => hqk (by rw [e]; rfl)), List.getElem?_set_ne (Ne.symm hne)]
section
variable {L : List AObj} {ts : List Nat} {b : Nat} {T : TypeId} {bv : V} {y1 : V} {lr o : Int} {rest : List V} {P : List UInt8}
theorem len_call (hb : L[b]? = some (.cells (bv :: .int .i64 0 :: y1 :: rest) T)) (hB : BufV L bv P) (hl : P.length ≤ 2 ^ 39) : callFn env (ev env) 20 [.ptr b 0] ⟨L, ts⟩ = some (.int .i64 P.length, ⟨L, ts⟩) := by
  refine callFn_eq rfl rfl at20 rfl (by simp [Try.f20]) (by simp [Try.f20]) (G_start ?_)
  have hw : IntKind.wrap .i64 ((P.length : Int) - 0) = (P.length : Int) := by rw [B.wrap64 (by omega)]; omega
  simp -implicitDefEqProofs only [Try.f20,Wa,Wb,Wc,Wd,We,Wf,Wg,Wh,Wi,Wj,Wk,Wl,Wm,Wn,Zo,Zp,evalT,Nat.reduceLT,Nat.reduceEqDiff,if_true,if_false,reduceIte,Ys,ofVal,ofCell,argT,resT,setT,Y0,Int.reduceEq,Int.reduceLT,Int.reduceLE,Int.reduceNeg,mb,Nat.reduceBEq,tys,stb,Va,storeList,Nat.reduceAdd,Nat.reduceLeDiff,opT_nilCheck,nilO_ptr,hb,hB.rd.lenT,hw]
  exact ⟨by kernel_rfl, rfl, trivial⟩
theorem bytes_call (hb : L[b]? = some (.cells (bv :: .int .i64 0 :: y1 :: rest) T)) (hB : BufV L bv P) : callFn env (ev env) 21 [.ptr b 0] ⟨L, ts⟩ = some (bv, ⟨L, ts⟩) := by
  refine callFn_eq rfl rfl at21 rfl (by simp [Try.f21]) (by simp [Try.f21]) (G_start ?_)
  simp -implicitDefEqProofs only [Try.f21,Wa,Wb,Wc,Wd,We,Wf,Wg,Wh,Wi,Wj,Wk,Wl,Wm,Wn,Zo,Zp,evalT,Nat.reduceLT,Nat.reduceEqDiff,if_true,if_false,reduceIte,Ys,ofVal,ofCell,argT,resT,setT,Y0,Int.reduceEq,Int.reduceLT,Int.reduceLE,Int.reduceNeg,mb,Nat.reduceBEq,tys,stb,Va,storeList,Nat.reduceAdd,Nat.reduceLeDiff,opT_nilCheck,nilO_ptr,hb,opT_slice,optO_none,optO_some,hB.all]
  exact ⟨by kernel_rfl, rfl, trivial⟩
end
end Go.Proofs.Ytncohjljeoknkaa.D
namespace Go.Proofs.Ytncohjljeoknkaa.D
open Go.Ab
set_option maxHeartbeats 4000000
set_option maxRecDepth 100000
set_option linter.unusedSimpArgs false
set_option linter.unusedVariables false
def Step (L L' : List AObj) (F F' : Nat → Prop) : Prop := L.length ≤ L'.length ∧ (∀ q, q < L.length → ¬ F q → L'[q]? = L[q]?) ∧ ∀ q, F' q → F q ∨ L.length ≤ q
theorem Step.refl (L : List AObj) (F : Nat → Prop) : Step L L F F := ⟨Nat.le_refl _, fun _ _ _ => rfl, fun _ h => .inl h⟩
theorem Step.trans {L L' L'' : List AObj} {F F' F'' : Nat → Prop} (h : Step L L' F F') (k : Step L' L'' F' F'') : Step L L'' F F'' := by
  obtain ⟨h1, h2, h3⟩ := h
  obtain ⟨k1, k2, k3⟩ := k
  refine ⟨by omega, fun q hq hn => ?_, fun q hq => ?_⟩
  · rw [k2 q (by omega) (fun hf => by rcases h3 q hf with h | h; exact hn h; omega)]
    exact h2 q hq hn
  · rcases k3 q hq with h | h
    · exact h3 q h
    · exact .inr (by omega)
section
variable {L : List AObj} {ts : List Nat} {d : Nat} {bv dv : V} {lr : Int} {F : Nat → Prop}
theorem step_set (o : AObj) (hF : F d) : Step L (L.set d o) F F := ⟨by simp, fun q _ hn => by rw [List.getElem?_set_ne (fun e => hn (by rw [← e]; exact hF))], fun q h => .inl h⟩
end
end Go.Proofs.Ytncohjljeoknkaa.D
namespace Go.Proofs.Ytncohjljeoknkaa.D
open Go.Ab
set_option maxHeartbeats 4000000
set_option maxRecDepth 100000
set_option linter.unusedSimpArgs false
set_option linter.unusedVariables false
theorem at18 : env.P.funcs[18]? = some Try.f18 := by kernel_rfl
theorem at29 : env.P.funcs[29]? = some Try.f29 := by kernel_rfl
theorem mb73 (r : Nat) : env.mutb 29 r = true := rfl
theorem mb55 (r : Nat) : env.mutb 18 r = true := rfl
theorem opT_rowB {m : Bool} {T : Tm} {σ : S} (t : TypeId) (len : Nat) (parts : Array (Nat × Operand)) : opT env m T σ (.buildSlice t len parts) = (partsO (evalT env T) parts.toList).bind fun ps => (rowO env t len ps).map fun v => (v, σ) := by
  have hb : env.rowB = true := rfl
  unfold opT rowO
  simp only [apure, aread, astate, hb, Bool.not_true, Bool.and_false, Bool.false_eq_true, if_false]
  cases partsO (evalT env T) parts.toList with
  | none => rfl
  | some ps =>
    simp only [Option.bind_some]
    cases elemS env t with
    | none => rfl
    | some e =>
      simp only [Option.bind_some]
      cases sz env e with
      | none => rfl
      | some s =>
        simp only [Option.bind_some]
        generalize (if len * s = 0 then some (V.agg []) else zeroV env e) = oz
        cases oz with
        | none => rfl
        | some z =>
          simp only [Option.bind_some]
          split
          · cases vFill (fun i => some (i * s, s)) (List.replicate len z.cells).flatten ps <;> rfl
          · rfl
def Keep (L L' : List AObj) : Prop := L.length ≤ L'.length ∧ ∀ q, q < L.length → L'[q]? = L[q]?
theorem Keep.refl (L : List AObj) : Keep L L := ⟨Nat.le_refl _, fun _ _ => rfl⟩
theorem Keep.trans {L L' L'' : List AObj} (h : Keep L L') (k : Keep L' L'') : Keep L L'' := ⟨Nat.le_trans h.1 k.1, fun q hq => by rw [k.2 q (Nat.lt_of_lt_of_le hq h.1), h.2 q hq]⟩
theorem Keep.app (L X : List AObj) : Keep L (L ++ X) := ⟨by simp, fun q hq => by rw [List.getElem?_append_left hq]⟩
theorem Keep.get {L L' : List AObj} (h : Keep L L') {q : Nat} {o : AObj} (hq : L[q]? = some o) : L'[q]? = some o := by rw [h.2 q (B.lt_get hq)]; exact hq
theorem Keep.rd {L L' : List AObj} (h : Keep L L') {y : V} {t : List UInt8} (hy : Rd L y t) : Rd L' y t := hy.move fun q hq => h.2 q (hy.lt hq)
def New (n : Nat) (v : V) : Prop := ∀ q, blkOf v = some q → n ≤ q
section
variable {L : List AObj} {ts : List Nat} {d : Nat} {bv dv : V} {lr : Int}
end
end Go.Proofs.Ytncohjljeoknkaa.D
namespace Go.Proofs.Ytncohjljeoknkaa.D
open Go.Ab
set_option maxHeartbeats 4000000
set_option maxRecDepth 100000
set_option linter.unusedSimpArgs false
set_option linter.unusedVariables false
def Gr (L2 L : List AObj) (n : Nat) (x : V) (s : List UInt8) : Prop :=
  (n = 0 ∧ x = .nilsl ∧ L2 = L ∧ s = []) ∨ (0 < n ∧ s.length ≤ n ∧ x = .hsl L.length 0 s.length n (.grow 1) ∧ L2 = L ++ [.cells (byteCells s ++ List.replicate (n - s.length) (.int .u8 0)) 5])
theorem Gr.keep {L2 L : List AObj} {n : Nat} {x : V} {s : List UInt8} (h : Gr L2 L n x s) : Keep L L2 := by
  rcases h with ⟨_, _, rfl, _⟩ | ⟨_, _, _, rfl⟩
  · exact Keep.refl _
  · exact Keep.app _ _
theorem Gr.push {L2 L : List AObj} {ts : List Nat} {n : Nat} {x y : V} {s t : List UInt8} (h : Gr L2 L n x s) (hy : Rd L y t) (hl : s.length + t.length ≤ n) (hn : n ≤ 2 ^ 38) :
    ∃ x' L3, appO env true ⟨L2, ts⟩ 25 25 x y = some (x', ⟨L3, ts⟩) ∧ Gr L3 L n x' (s ++ t) := by
  have hy2 := h.keep.rd hy
  have hc := hy2.vcells
  simp only [appO, e26, s5, b5, z5, u26, Option.bind_some, hy.len, hc, if_true]
  by_cases h0 : t.length = 0
  · have : t = [] := List.eq_nil_of_length_eq_zero h0
    subst this
    refine ⟨x, L2, ?_, by simpa using h⟩
    rcases h with ⟨rfl, rfl, rfl, rfl⟩ | ⟨_, h2, rfl, rfl⟩
    · simp [aappend]
    · simp [aappend, h2]
  · rcases h with ⟨rfl, rfl, rfl, rfl⟩ | ⟨h1, h2, rfl, rfl⟩
    · omega
    · refine ⟨.hsl L.length 0 (s.length + t.length) n (.grow 1), L ++ [.cells (byteCells (s ++ t) ++ List.replicate (n - (s.length + t.length)) (.int .u8 0)) 5], ?_, .inr ⟨h1, by simpa using hl, by simp, by simp⟩⟩
      have e1 : (L ++ [AObj.cells (byteCells s ++ List.replicate (n - s.length) (V.int .u8 0)) 5])[L.length]? = some (.cells (byteCells s ++ List.replicate (n - s.length) (V.int .u8 0)) 5) := by simp
      have hlen : 0 + s.length * 1 + (byteCells t).length ≤ (byteCells s ++ List.replicate (n - s.length) (V.int .u8 0)).length := by
        rw [List.length_append, byteCells_len, byteCells_len, List.length_replicate]; omega
      have hcell := byteCells_cell t
      have est : storeList (byteCells s ++ List.replicate (n - s.length) (V.int .u8 0)) (0 + s.length * 1) (byteCells t) = byteCells (s ++ t) ++ List.replicate (n - (s.length + t.length)) (.int .u8 0) := by
        have e : 0 + s.length * 1 = (byteCells s).length := by rw [byteCells_len]; omega
        rw [storeList, e, List.take_left' rfl, byteCells_app, List.drop_append, List.drop_of_length_le (by omega), List.nil_append, Nat.add_sub_cancel_left, List.drop_replicate, byteCells_len]
        congr 2
        omega
      simp only [aappend, hl, h0, if_true, if_false, storeCellsV, e1]
      rw [if_pos ⟨hlen, hcell⟩, est]
      simp [S.set]
theorem Gr.own {L2 L : List AObj} {n : Nat} {x : V} {s : List UInt8} (h : Gr L2 L n x s) (hn : s.length = n) : Own L2 x s ∧ New L.length x := by
  rcases h with ⟨rfl, rfl, rfl, rfl⟩ | ⟨h1, h2, rfl, rfl⟩
  · exact ⟨.inl ⟨rfl, rfl⟩, fun q hq => by cases hq⟩
  · subst hn
    exact ⟨.inr (.inr ⟨L.length, rfl, by simp⟩), fun q hq => by cases hq; exact Nat.le_refl _⟩
theorem azero_ok {m : Nat} (h : 0 < m) (hm : m ≤ 2 ^ 39) (L : List AObj) (ts : List Nat) : appO env true ⟨L, ts⟩ 25 3 .nilsl (.int .i64 (m : Int)) = some (.hsl L.length 0 m m (.grow 1), ⟨L ++ [.cells (List.replicate m (.int .u8 0)) 5], ts⟩) := by
  have h0 : ¬ ((m : Int) = 0) := by omega
  have h1 : (0 : Int) < m ∧ (m : Int) ≤ lim ∧ (m : Int) * (1 : Nat) ≤ lim ∧ 0 < 1 := by unfold lim; omega
  have h2 : (List.replicate m [V.int .u8 0]).flatten = List.replicate m (V.int .u8 0) := by
    clear h hm h0 h1
    induction m with
    | zero => rfl
    | succ m ih => simp [List.replicate_succ, ih]
  simp only [appO, e26, s5, b5, u3, Option.bind_some, azero, h0, h1, if_false, if_true, zv5, and_self, V.cells, List.length_cons, List.length_nil, Nat.zero_add, S.push, Int.toNat_natCast, h2]
theorem grow_call (n : Nat) (hn : n ≤ 2 ^ 38) (L : List AObj) (ts : List Nat) : ∃ x L2, callFn env (ev env) 29 [.nilsl, .int .i64 n] ⟨L, ts⟩ = some (x, ⟨L2, ts⟩) ∧ Gr L2 L n x [] := by
  have v0 : ((0 : Nat) : Int) = 0 := rfl
  have w0 : IntKind.wrap .i64 ((0 : Int) - 0) = 0 := by kernel_rfl
  have w1 : IntKind.wrap .i64 ((n : Int) - 0) = (n : Int) := by rw [B.wrap64 (by omega)]; omega
  have c0 : ¬ ((n : Int) < 0) := by omega
  have hv : ∀ e, vCapT (some (.slice e)) .nilsl = some (.int .i64 0) := fun _ => rfl
  have hsn : sliceO env 25 .nilsl none (some (.int .i64 0)) none = some .nilsl := by simp [sliceO, u26, s5, vSlice, vBound]
  by_cases h0 : n = 0
  · subst h0
    refine ⟨.nilsl, L, ?_, .inl ⟨rfl, rfl, rfl, rfl⟩⟩
    have w1 : IntKind.wrap .i64 ((0 : Int) - 0) = 0 := by kernel_rfl
    refine callFn_eq rfl rfl at29 rfl (by simp [Try.f29]) (by simp [Try.f29]) (G_start ?_)
    simp -implicitDefEqProofs only [Try.f29,Wa,Wb,Wc,Wd,We,Wf,Wg,Wh,Wi,Wj,Wk,Wl,Wm,Wn,Zo,Zp,evalT,Nat.reduceLT,Nat.reduceEqDiff,if_true,if_false,reduceIte,Ys,ofVal,ofCell,argT,resT,setT,Y0,Int.reduceEq,Int.reduceLT,Int.reduceLE,Int.reduceNeg,mb,Nat.reduceBEq,tys,stb,Va,storeList,Nat.reduceAdd,Nat.reduceLeDiff,v0,opT_cap,hv,w0]
    exact ⟨rfl, trivial⟩
  · refine ⟨.hsl L.length 0 0 n (.grow 1), L ++ [.cells (List.replicate n (.int .u8 0)) 5], ?_, .inr ⟨by omega, Nat.zero_le _, rfl, by simp [byteCells]⟩⟩
    have c1 : (0 : Int) < (n : Int) := by omega
    have hA := azero_ok (m := n) (by omega) (by omega) L ts
    have hcut : sliceO env 25 (.hsl L.length 0 n n (.grow 1)) none (some (.int .i64 0)) none = some (.hsl L.length 0 0 n (.grow 1)) := by simp [sliceO, u26, s5, vSlice, vBound, HCap.cut]
    refine callFn_eq rfl rfl at29 rfl (by simp [Try.f29]) (by simp [Try.f29]) (G_start ?_)
    simp -implicitDefEqProofs only [Try.f29,Wa,Wb,Wc,Wd,We,Wf,Wg,Wh,Wi,Wj,Wk,Wl,Wm,Wn,Zo,Zp,evalT,Nat.reduceLT,Nat.reduceEqDiff,if_true,if_false,reduceIte,Ys,ofVal,ofCell,argT,resT,setT,Y0,Int.reduceEq,Int.reduceLT,Int.reduceLE,Int.reduceNeg,mb,Nat.reduceBEq,tys,stb,Va,storeList,Nat.reduceAdd,Nat.reduceLeDiff,c0,c1,opT_cap,hv,w0,w1,opT_slice,optO_none,optO_some,hsn,mb73,hA,hcut]
    exact ⟨rfl, trivial⟩
section
variable {L : List AObj} {ts : List Nat} {d : Nat} {bv dv : V} {lr : Int}
end
end Go.Proofs.Ytncohjljeoknkaa.D
namespace Go.Proofs.Ytncohjljeoknkaa.D
open Go.Ab
set_option maxHeartbeats 4000000
set_option maxRecDepth 100000
set_option linter.unusedSimpArgs false
set_option linter.unusedVariables false
theorem at19 : env.P.funcs[19]? = some Try.f19 := by kernel_rfl
theorem at11 : env.P.funcs[11]? = some Try.f11 := by kernel_rfl
theorem at34 : env.P.funcs[34]? = some Try.f34 := by kernel_rfl
theorem u94 : env.P.underlying 32 = some (.int .u32) := by kernel_rfl
theorem u124 : env.P.underlying 79 = some (.int .u64) := by kernel_rfl
theorem u123 : env.P.underlying 77 = some (.slice 5) := by kernel_rfl
theorem u53 : env.P.underlying 22 = some (.slice 9) := by kernel_rfl
theorem u58 : env.P.underlying 35 = some (.slice 24) := by kernel_rfl
theorem s55 : sz env 24 = some 2 := by kernel_rfl
theorem s9 : sz env 9 = some 1 := by kernel_rfl
theorem s53 : sz env 22 = some 1 := by kernel_rfl
theorem f55_0 : fldOff env 24 0 = some 0 := by kernel_rfl
theorem f55_1 : fldOff env 24 1 = some 1 := by kernel_rfl
theorem agg55 (h : List AObj) (p : V) : aload env h 24 p = (loadCellsV h 2 p).map .agg := by
  unfold aload
  rw [show aggT env 24 = some true by kernel_rfl, show sz env 24 = some 2 by kernel_rfl]
  rfl
theorem tyj : env.P.underlying 32 = some (.int .u32) ∧ env.P.underlying 79 = some (.int .u64) ∧ env.P.underlying 77 = some (.slice 5) ∧ env.P.underlying 22 = some (.slice 9) ∧ env.P.underlying 35 = some (.slice 24) ∧ sz env 24 = some 2 ∧ sz env 9 = some 1 ∧ sz env 22 = some 1 ∧ sz env 35 = some 1 ∧ sz env 77 = some 1 ∧ sz env 32 = some 1 ∧ fldOff env 24 0 = some 0 ∧ fldOff env 24 1 = some 1 ∧
    (∀ h p, aload env h 5 p = (loadCellsV h 1 p).bind (·[0]?)) ∧ (∀ h p, aload env h 9 p = (loadCellsV h 1 p).bind (·[0]?)) ∧ (∀ h p, aload env h 22 p = (loadCellsV h 1 p).bind (·[0]?)) ∧ (∀ h p, aload env h 35 p = (loadCellsV h 1 p).bind (·[0]?)) ∧ (∀ h p, aload env h 77 p = (loadCellsV h 1 p).bind (·[0]?)) ∧ (∀ h p, aload env h 32 p = (loadCellsV h 1 p).bind (·[0]?)) ∧ (∀ h p, aload env h 54 p = (loadCellsV h 1 p).bind (·[0]?)) :=
  ⟨u94, u124, u123, u53, u58, s55, s9, s53, by kernel_rfl, by kernel_rfl, by kernel_rfl, f55_0, f55_1, fun _ _ => aload_one (by kernel_rfl), fun _ _ => aload_one (by kernel_rfl), fun _ _ => aload_one (by kernel_rfl), fun _ _ => aload_one (by kernel_rfl), fun _ _ => aload_one (by kernel_rfl), fun _ _ => aload_one (by kernel_rfl), fun _ _ => aload_one (by kernel_rfl)⟩
theorem vBin_xor (us : Option TypeDesc) (cc : Bool) (k : IntKind) (a b : Int) : vBinT us cc .xor (.int k a) (.int k b) = some (.int k (k.wrap (BitVec.ofInt k.bits a ^^^ BitVec.ofInt k.bits b).toNat)) := by simp [vBinT, vBin, vIntOp]
theorem vBin_or (us : Option TypeDesc) (cc : Bool) (k : IntKind) (a b : Int) : vBinT us cc .or (.int k a) (.int k b) = some (.int k (k.wrap (BitVec.ofInt k.bits a ||| BitVec.ofInt k.bits b).toNat)) := by simp [vBinT, vBin, vIntOp]
theorem vBin_shl (us : Option TypeDesc) (cc : Bool) (k k' : IntKind) (a b : Int) : vBinT us cc .shl (.int k a) (.int k' b) = if b < 0 then none else some (.int k (k.wrap (a * 2 ^ min b.toNat k.bits))) := by
  by_cases h : b < 0 <;> simp [vBinT, vBin, vShift, h]
theorem vBin_shr (us : Option TypeDesc) (cc : Bool) (k k' : IntKind) (a b : Int) : vBinT us cc .shr (.int k a) (.int k' b) = if b < 0 then none else some (.int k (a.fdiv (2 ^ min b.toNat k.bits))) := by
  by_cases h : b < 0 <;> simp [vBinT, vBin, vShift, h]
theorem wrap_u32 {x : Int} (h : 0 ≤ x ∧ x < 4294967296) : IntKind.wrap .u32 x = x := by
  show (let m := x % (2 ^ 32 : Int); if false && decide (m ≥ 2 ^ 31) then m - 2 ^ 32 else m) = x
  simp only [Bool.false_and, Bool.false_eq_true, if_false]
  omega
theorem wrap_u32_range (x : Int) : 0 ≤ IntKind.wrap .u32 x ∧ IntKind.wrap .u32 x < 4294967296 := by
  have : IntKind.wrap .u32 x = x % (2 ^ 32 : Int) := by
    show (let m := x % (2 ^ 32 : Int); if false && decide (m ≥ 2 ^ 31) then m - 2 ^ 32 else m) = _
    simp only [Bool.false_and, Bool.false_eq_true, if_false]
  rw [this]
  omega
section
variable {L : List AObj} {y : V} {t : List UInt8}
theorem byteCells_get (t : List UInt8) (i : Nat) (h : i < t.length) : (byteCells t)[i]? = some (.int .u8 (t[i].toNat : Int)) := by simp [byteCells, h]
theorem Rd.idx (h : Rd L y t) {i : Nat} (hi : i < t.length) : ∃ p, vIndexAddr 1 y (.int .i64 (i : Int)) = some p ∧ (loadCellsV L 1 p).bind (·[0]?) = some (.int .u8 (t[i].toNat : Int)) := by
  have hii : (i : Int) < (t.length : Int) := by omega
  rcases h with ⟨rfl, rfl⟩ | ⟨b, off, cap, ex, cs, rfl, h1, h2, h3, h4⟩ | ⟨cells, cap, rfl, h1, h2⟩
  · simp at hi
  · refine ⟨.ptr b (off + i * 1), by simp [vIndexAddr, hi], ?_⟩
    rw [YA, h1, YB, Nat.mul_one]
    have := byteCells_get t i hi
    rw [← h4, List.getElem?_take_of_lt hi, List.getElem?_drop] at this
    exact this
  · refine ⟨.rptr (cells.drop (i * 1)), by simp [vIndexAddr, hi], ?_⟩
    have := byteCells_get t i hi
    rw [← h2, List.getElem?_take_of_lt hi] at this
    rw [Yz, Nat.mul_one]
    simpa using this
end
def xorN (a b : Int) : Int := IntKind.u32.wrap (BitVec.ofInt IntKind.u32.bits a ^^^ BitVec.ofInt IntKind.u32.bits b).toNat
def sumStep (h : Int) (b : UInt8) : Int := IntKind.u32.wrap (xorN h (IntKind.u32.wrap (b.toNat : Int)) * 16777619)
def sumF (t : List UInt8) : Int := t.foldl sumStep 2166136261
theorem sumF_snoc (t : List UInt8) (i : Nat) (h : i < t.length) : sumF (t.take (i + 1)) = sumStep (sumF (t.take i)) t[i] := by
  unfold sumF
  rw [List.take_succ_eq_append_getElem h, List.foldl_append]
  rfl
theorem sum_call {L : List AObj} {ts : List Nat} {y : V} {t : List UInt8} (hy : Rd L y t) (hl : t.length ≤ 2 ^ 38) : callFn env (ev env) 11 [y] ⟨L, ts⟩ = some (.int .u32 (sumF t), ⟨L, ts⟩) := by
  refine callFn_eq rfl rfl at11 rfl (by simp [Try.f11]) (by simp [Try.f11]) (G_start ?_)
  have hlen := hy.lenT 5
  simp -implicitDefEqProofs only [Try.f11,Wa,Wb,Wc,Wd,We,Wf,Wg,Wh,Wi,Wj,Wk,Wl,Wm,Wn,Zo,Zp,evalT,Nat.reduceLT,Nat.reduceEqDiff,if_true,if_false,reduceIte,Ys,ofVal,ofCell,argT,resT,setT,Y0,Int.reduceEq,Int.reduceLT,Int.reduceLE,Int.reduceNeg,mb,Nat.reduceBEq,tys,stb,Va,storeList,Nat.reduceAdd,Nat.reduceLeDiff,tyj,vBin_xor,vBin_or,vBin_shl,vBin_shr,hlen]
  refine loop_rule (fun m T D σ => D = [] ∧ σ = ⟨L, ts⟩ ∧ T 6 = y ∧ T 7 = .int .i64 t.length ∧ ∃ i : Nat, i ≤ t.length ∧ m = t.length - i ∧ T 8 = .int .i64 i ∧ T 3 = .int .u32 (sumF (t.take i))) ?_ t.length _ _ _ ⟨rfl, rfl, rfl, rfl, 0, by omega, rfl, rfl, rfl⟩
  rintro m T D σ ⟨rfl, rfl, t6, t7, i, hi, rfl, t8, t3⟩
  refine G_start ?_
  by_cases hlt : i < t.length
  · have c1 : (i : Int) < (t.length : Int) := by omega
    have w1 : IntKind.wrap .i64 ((i : Int) + 1) = ((i + 1 : Nat) : Int) := by rw [B.wrap64 (by omega)]; omega
    obtain ⟨p, hp, hld⟩ := hy.idx hlt
    simp -implicitDefEqProofs only [Wa,Wb,Wc,Wd,We,Wf,Wg,Wh,Wi,Wj,Wk,Wl,Wm,Wn,Zo,Zp,evalT,Nat.reduceLT,Nat.reduceEqDiff,if_true,if_false,reduceIte,Ys,ofVal,ofCell,argT,resT,setT,Y0,Int.reduceEq,Int.reduceLT,Int.reduceLE,Int.reduceNeg,mb,Nat.reduceBEq,tys,stb,Va,storeList,Nat.reduceAdd,Nat.reduceLeDiff,tyj,vBin_xor,vBin_or,vBin_shl,vBin_shr,t3,t6,t7,t8,c1,hp,hld,w1]
    exact ⟨t.length - (i + 1), by omega, i + 1, by omega, rfl, rfl, by rw [sumF_snoc t i hlt]; rfl⟩
  · have c1 : ¬ (i : Int) < (t.length : Int) := by omega
    have hi2 : i = t.length := by omega
    subst hi2
    simp -implicitDefEqProofs only [Wa,Wb,Wc,Wd,We,Wf,Wg,Wh,Wi,Wj,Wk,Wl,Wm,Wn,Zo,Zp,evalT,Nat.reduceLT,Nat.reduceEqDiff,if_true,if_false,reduceIte,Ys,ofVal,ofCell,argT,resT,setT,Y0,Int.reduceEq,Int.reduceLT,Int.reduceLE,Int.reduceNeg,mb,Nat.reduceBEq,tys,stb,Va,storeList,Nat.reduceAdd,Nat.reduceLeDiff,tyj,vBin_xor,vBin_or,vBin_shl,vBin_shr,t3,t6,t7,t8,c1]
    rw [List.take_length]
    exact ⟨rfl, trivial⟩
def numStep (n : Int) (b : UInt8) : Int := IntKind.u32.wrap (BitVec.ofInt IntKind.u32.bits (IntKind.u32.wrap (n * 2 ^ min (8 : Int).toNat IntKind.u32.bits)) ||| BitVec.ofInt IntKind.u32.bits (IntKind.u32.wrap (b.toNat : Int))).toNat
def numF : List UInt8 → Nat
  | t => t.foldl (fun n b => n * 256 + b.toNat) 0
theorem numF_snoc (t : List UInt8) (b : UInt8) : numF (t ++ [b]) = numF t * 256 + b.toNat := by simp [numF]
theorem fold_lt : ∀ (t : List UInt8) (n k : Nat), n < 256 ^ k → t.foldl (fun n b => n * 256 + b.toNat) n < 256 ^ (k + t.length)
  | [], n, k, h => by simpa using h
  | b :: t, n, k, h => by
    have hb := b.toNat_lt
    have := fold_lt t (n * 256 + b.toNat) (k + 1) (by rw [Nat.pow_succ]; omega)
    rw [List.foldl_cons, List.length_cons, show k + (t.length + 1) = k + 1 + t.length by omega]
    exact this
theorem numF_lt (t : List UInt8) : numF t < 256 ^ t.length := by
  have := fold_lt t 0 0 (by simp)
  rwa [Nat.zero_add] at this
theorem numStep_eq (n : Nat) (b : UInt8) (h : n < 2 ^ 24) : numStep n b = ((n * 256 + b.toNat : Nat) : Int) := by
  have hb := b.toNat_lt
  have h0 : min (8 : Int).toNat IntKind.u32.bits = 8 := rfl
  have h1 : IntKind.u32.wrap ((n : Int) * 2 ^ 8) = ((n * 256 : Nat) : Int) := by rw [wrap_u32 (by omega)]; omega
  have h2 : IntKind.u32.wrap (b.toNat : Int) = (b.toNat : Int) := wrap_u32 (by omega)
  unfold numStep
  rw [h0, h1, h2]
  have h3 : (BitVec.ofInt IntKind.u32.bits ((n * 256 : Nat) : Int) ||| BitVec.ofInt IntKind.u32.bits (b.toNat : Int)).toNat = n * 256 + b.toNat := by
    rw [BitVec.toNat_or, BitVec.ofInt_natCast, BitVec.ofInt_natCast, BitVec.toNat_ofNat, BitVec.toNat_ofNat]
    have e : IntKind.u32.bits = 32 := rfl
    rw [e, Nat.mod_eq_of_lt (by omega), Nat.mod_eq_of_lt (by omega)]
    have := Nat.two_pow_add_eq_or_of_lt (i := 8) (b := b.toNat) hb n
    rw [Nat.mul_comm n 256]
    exact this.symm
  rw [h3]
  exact wrap_u32 (by omega)
theorem number_call {L : List AObj} {ts : List Nat} {y : V} {t : List UInt8} (hy : Rd L y t) (hl : t.length ≤ 4) : callFn env (ev env) 34 [y] ⟨L, ts⟩ = some (.int .u32 (numF t), ⟨L, ts⟩) := by
  refine callFn_eq rfl rfl at34 rfl (by simp [Try.f34]) (by simp [Try.f34]) (G_start ?_)
  have hlen := hy.lenT 5
  simp -implicitDefEqProofs only [Try.f34,Wa,Wb,Wc,Wd,We,Wf,Wg,Wh,Wi,Wj,Wk,Wl,Wm,Wn,Zo,Zp,evalT,Nat.reduceLT,Nat.reduceEqDiff,if_true,if_false,reduceIte,Ys,ofVal,ofCell,argT,resT,setT,Y0,Int.reduceEq,Int.reduceLT,Int.reduceLE,Int.reduceNeg,mb,Nat.reduceBEq,tys,stb,Va,storeList,Nat.reduceAdd,Nat.reduceLeDiff,tyj,vBin_xor,vBin_or,vBin_shl,vBin_shr,hlen]
  refine loop_rule (fun m T D σ => D = [] ∧ σ = ⟨L, ts⟩ ∧ T 6 = y ∧ T 7 = .int .i64 t.length ∧ ∃ i : Nat, i ≤ t.length ∧ m = t.length - i ∧ T 8 = .int .i64 i ∧ T 3 = .int .u32 (numF (t.take i))) ?_ t.length _ _ _ ⟨rfl, rfl, rfl, rfl, 0, by omega, rfl, rfl, rfl⟩
  rintro m T D σ ⟨rfl, rfl, t6, t7, i, hi, rfl, t8, t3⟩
  refine G_start ?_
  by_cases hlt : i < t.length
  · have c1 : (i : Int) < (t.length : Int) := by omega
    have w1 : IntKind.wrap .i64 ((i : Int) + 1) = ((i + 1 : Nat) : Int) := by rw [B.wrap64 (by omega)]; omega
    obtain ⟨p, hp, hld⟩ := hy.idx hlt
    have c8 : ¬ (8 : Int) < 0 := by omega
    have hsm : numF (t.take i) < 2 ^ 24 := by
      have h1 := numF_lt (t.take i)
      rw [List.length_take, Nat.min_eq_left (by omega)] at h1
      have h2 : 256 ^ i ≤ 256 ^ 3 := Nat.pow_le_pow_right (by omega) (by omega)
      omega
    have e := numStep_eq _ t[i] hsm
    unfold numStep at e
    simp -implicitDefEqProofs only [Wa,Wb,Wc,Wd,We,Wf,Wg,Wh,Wi,Wj,Wk,Wl,Wm,Wn,Zo,Zp,evalT,Nat.reduceLT,Nat.reduceEqDiff,if_true,if_false,reduceIte,Ys,ofVal,ofCell,argT,resT,setT,Y0,Int.reduceEq,Int.reduceLT,Int.reduceLE,Int.reduceNeg,mb,Nat.reduceBEq,tys,stb,Va,storeList,Nat.reduceAdd,Nat.reduceLeDiff,tyj,vBin_xor,vBin_or,vBin_shl,vBin_shr,t3,t6,t7,t8,c1,hp,hld,w1,c8,e]
    exact ⟨t.length - (i + 1), by omega, i + 1, by omega, rfl, rfl, by rw [List.take_succ_eq_append_getElem hlt, numF_snoc]⟩
  · have c1 : ¬ (i : Int) < (t.length : Int) := by omega
    have hi2 : i = t.length := by omega
    subst hi2
    simp -implicitDefEqProofs only [Wa,Wb,Wc,Wd,We,Wf,Wg,Wh,Wi,Wj,Wk,Wl,Wm,Wn,Zo,Zp,evalT,Nat.reduceLT,Nat.reduceEqDiff,if_true,if_false,reduceIte,Ys,ofVal,ofCell,argT,resT,setT,Y0,Int.reduceEq,Int.reduceLT,Int.reduceLE,Int.reduceNeg,mb,Nat.reduceBEq,tys,stb,Va,storeList,Nat.reduceAdd,Nat.reduceLeDiff,tyj,vBin_xor,vBin_or,vBin_shl,vBin_shr,t3,t6,t7,t8,c1]
    rw [List.take_length]
    exact ⟨rfl, trivial⟩
theorem wrap_i64_of {x : Int} (h : 0 ≤ x ∧ x < 9223372036854775808) : IntKind.wrap .i64 x = x := B.wrap64 (by omega)
end Go.Proofs.Ytncohjljeoknkaa.D
namespace Go.Proofs.Ytncohjljeoknkaa.D
open Go.Ab
set_option maxHeartbeats 8000000
set_option maxRecDepth 100000
set_option linter.unusedSimpArgs false
set_option linter.unusedVariables false
theorem at54 : env.P.funcs[54]? = some Try.f54 := by kernel_rfl
theorem at17 : env.P.funcs[17]? = some Try.f17 := by kernel_rfl
theorem at59 : env.P.funcs[59]? = some Try.f59 := by kernel_rfl
theorem byteV (m : Nat) : IntKind.u8.wrap (m : Int) = ((UInt8.ofNat m).toNat : Int) := by
  have h : IntKind.u8.wrap (m : Int) = (m : Int) % (2 ^ 8 : Int) := by
    show (let k := (m : Int) % (2 ^ 8 : Int); if false && decide (k ≥ 2 ^ 7) then k - 2 ^ 8 else k) = _
    simp only [Bool.false_and, Bool.false_eq_true, if_false]
  rw [h, UInt8.toNat_ofNat']
  omega
theorem fdivV (n k : Nat) : (n : Int).fdiv (2 ^ k) = ((n / 2 ^ k : Nat) : Int) := by
  rw [Int.fdiv_eq_ediv_of_nonneg _ (by exact Int.le_of_lt (Int.pow_pos (by omega)))]
  simp
def fourB (n : Nat) : List UInt8 := [UInt8.ofNat (n / 2 ^ 24), UInt8.ofNat (n / 2 ^ 16), UInt8.ofNat (n / 2 ^ 8), UInt8.ofNat n]
def twoB (n : Nat) : List UInt8 := [UInt8.ofNat (n / 2 ^ 8), UInt8.ofNat n]
theorem rowN {t e : TypeId} {z : V} (he : elemS env t = some e) (hs : sz env e = some 1) (hz : zeroV env e = some z) (hzc : z.cells = [z]) (vs : List V) (hv : ∀ v ∈ vs, v.cells = [v]) (hl : vs.length ≤ 8) (h0 : 0 < vs.length) (ps : List (Nat × V)) (hps : ps = (List.range vs.length).zip vs) :
    rowO env t vs.length ps = some (.row vs vs.length .full) := by
  subst hps
  unfold rowO
  have hn : ¬ vs.length * 1 = 0 := by omega
  have hlim : vs.length * 1 ≤ 2 ^ 24 := by omega
  simp only [he, hs, hz, hn, if_false, Option.bind_some, hzc, hlim, List.length_singleton, true_or, and_self, if_true]
  have key : vFill (fun i => some (i * 1, 1)) (List.replicate vs.length [z]).flatten ((List.range vs.length).zip vs) = some vs := by
    clear he hs hz hn hlim h0
    match vs, hl, hv with
    | [], _, _ => rfl
    | [a], _, hv => simp [vFill, List.range_succ, hv a (by simp)]
    | [a, b], _, hv => simp [vFill, List.range_succ, hv a (by simp), hv b (by simp)]
    | [a, b, c], _, hv => simp [vFill, List.range_succ, hv a (by simp), hv b (by simp), hv c (by simp)]
    | [a, b, c, d], _, hv => simp [vFill, List.range_succ, hv a (by simp), hv b (by simp), hv c (by simp), hv d (by simp)]
    | [a, b, c, d, e], _, hv => simp [vFill, List.range_succ, hv a (by simp), hv b (by simp), hv c (by simp), hv d (by simp), hv e (by simp)]
    | [a, b, c, d, e, f], _, hv => simp [vFill, List.range_succ, hv a (by simp), hv b (by simp), hv c (by simp), hv d (by simp), hv e (by simp), hv f (by simp)]
    | [a, b, c, d, e, f, g], _, hv => simp [vFill, List.range_succ, hv a (by simp), hv b (by simp), hv c (by simp), hv d (by simp), hv e (by simp), hv f (by simp), hv g (by simp)]
    | [a, b, c, d, e, f, g, h], _, hv => simp [vFill, List.range_succ, hv a (by simp), hv b (by simp), hv c (by simp), hv d (by simp), hv e (by simp), hv f (by simp), hv g (by simp), hv h (by simp)]
  rw [key]; rfl
theorem row26 (vs : List V) (hv : ∀ v ∈ vs, v.cells = [v]) (hl : vs.length ≤ 8) (h0 : 0 < vs.length) (ps : List (Nat × V)) (hps : ps = (List.range vs.length).zip vs) : rowO env 25 vs.length ps = some (.row vs vs.length .full) := rowN e26 s5 zv5 rfl vs hv hl h0 ps hps
theorem row26_2 (a b : Int) : rowO env 25 2 [(0, .int .u8 a), (1, .int .u8 b)] = some (.row [.int .u8 a, .int .u8 b] 2 .full) := row26 [_, _] (by simp [V.cells]) (by simp) (by simp) _ rfl
theorem row26_4 (a b c d : Int) : rowO env 25 4 [(0, .int .u8 a), (1, .int .u8 b), (2, .int .u8 c), (3, .int .u8 d)] = some (.row [.int .u8 a, .int .u8 b, .int .u8 c, .int .u8 d] 4 .full) := row26 [_, _, _, _] (by simp [V.cells]) (by simp) (by simp) _ rfl
theorem fourV (n : Nat) : V.row [.int .u8 (IntKind.u8.wrap ((n : Int).fdiv (2 ^ 24))), .int .u8 (IntKind.u8.wrap ((n : Int).fdiv (2 ^ 16))), .int .u8 (IntKind.u8.wrap ((n : Int).fdiv (2 ^ 8))), .int .u8 (IntKind.u8.wrap (n : Int))] 4 .full = .row (byteCells (fourB n)) 4 .full := by
  rw [fdivV, fdivV, fdivV, byteV, byteV, byteV, byteV]; rfl
theorem twoV (n : Nat) : V.row [.int .u8 (IntKind.u8.wrap ((n : Int).fdiv (2 ^ 8))), .int .u8 (IntKind.u8.wrap (n : Int))] 2 .full = .row (byteCells (twoB n)) 2 .full := by
  rw [fdivV, byteV, byteV]; rfl
theorem m24 : min (24 : Int).toNat IntKind.u32.bits = 24 := rfl
theorem m16 : min (16 : Int).toNat IntKind.u32.bits = 16 := rfl
theorem m8 : min (8 : Int).toNat IntKind.u32.bits = 8 := rfl
theorem m8i : min (8 : Int).toNat IntKind.i64.bits = 8 := rfl
theorem c24 : ¬ (24 : Int) < 0 := by omega
theorem c16 : ¬ (16 : Int) < 0 := by omega
theorem c8 : ¬ (8 : Int) < 0 := by omega
theorem four_call (n : Nat) (σ : S) : callFn env (ev env) 19 [.int .u32 n] σ = some (.row (byteCells (fourB n)) 4 .full, σ) := by
  refine callFn_eq rfl rfl at19 rfl (by simp [Try.f19]) (by simp [Try.f19]) (G_start ?_)
  simp -implicitDefEqProofs only [Try.f19,Wa,Wb,Wc,Wd,We,Wf,Wg,Wh,Wi,Wj,Wk,Wl,Wm,Wn,Zo,Zp,evalT,Nat.reduceLT,Nat.reduceEqDiff,if_true,if_false,reduceIte,Ys,ofVal,ofCell,argT,resT,setT,Y0,Int.reduceEq,Int.reduceLT,Int.reduceLE,Int.reduceNeg,mb,Nat.reduceBEq,tys,stb,Va,storeList,Nat.reduceAdd,Nat.reduceLeDiff,tyj,vBin_xor,vBin_or,vBin_shl,vBin_shr,c24,c16,c8,m24,m16,m8,opT_rowB,row26_4]
  exact ⟨fourV n, trivial⟩
structure Rec where
  k : Int
  fs : List (List UInt8)
def Fld (fv : V) (fs : List (List UInt8)) : Prop := (fv = .nilsl ∧ fs = []) ∨ ∃ cap, fv = .row (fs.map .str) fs.length cap
theorem Fld.len {fv : V} {fs : List (List UInt8)} (h : Fld fv fs) (e : TypeId) : vLenT (some (.slice e)) fv = some (.int .i64 fs.length) := by
  rcases h with ⟨rfl, rfl⟩ | ⟨cap, rfl⟩ <;> rfl
theorem Fld.cells {fv : V} {fs : List (List UInt8)} (h : Fld fv fs) : fv.cells = [fv] := by
  rcases h with ⟨rfl, rfl⟩ | ⟨cap, rfl⟩ <;> rfl
theorem Fld.isCell {fv : V} {fs : List (List UInt8)} (h : Fld fv fs) : fv.isCell = true := by
  rcases h with ⟨rfl, rfl⟩ | ⟨cap, rfl⟩ <;> rfl
theorem Fld.idx {fv : V} {fs : List (List UInt8)} (h : Fld fv fs) {i : Nat} (hi : i < fs.length) (H : List AObj) : ∃ p, vIndexAddr 1 fv (.int .i64 (i : Int)) = some p ∧ (loadCellsV H 1 p).bind (·[0]?) = some (.str fs[i]) := by
  rcases h with ⟨rfl, rfl⟩ | ⟨cap, rfl⟩
  · simp at hi
  · refine ⟨.rptr ((fs.map .str).drop (i * 1)), by simp [vIndexAddr, hi], ?_⟩
    rw [Yz, Nat.mul_one]
    simp [hi]
def fldB (f : List UInt8) : List UInt8 := twoB f.length ++ f
def payB (r : Rec) : List UInt8 := [UInt8.ofNat r.k.toNat, UInt8.ofNat r.fs.length] ++ r.fs.flatMap fldB
def payN (fs : List (List UInt8)) : Nat := 2 + (fs.map fun f => 2 + f.length).sum
theorem payB_len (r : Rec) : (payB r).length = payN r.fs := by
  unfold payB payN
  rw [List.length_append, List.length_flatMap]
  simp [fldB, twoB]
  exact congrArg List.sum (List.map_congr_left fun a _ => by omega)
structure Sink (sv : V) (f : FuncId) (p : V) (I : List AObj → List UInt8 → (Nat → Prop) → Prop) (N : Nat) : Prop where
  meth : methV env sv "Write" = some (f, p)
  app : ∀ L X s F, I L s F → I (L ++ X) s F
  lt : ∀ L s F q, I L s F → F q → q < L.length
  write : ∀ L ts s F t cap, I L s F → s.length + t.length ≤ N → ∃ L' F', callFn env (ev env) f [p, .row (byteCells t) t.length cap] ⟨L, ts⟩ = some (.tup [.int .i64 t.length, .nilif], ⟨L', ts⟩) ∧ I L' (s ++ t) F' ∧ Step L L' F F'
theorem lenS (s : List UInt8) : vLenT (some .string) (.str s) = some (.int .i64 s.length) := rfl
theorem take_fld (fs : List (List UInt8)) (i : Nat) (h : i < fs.length) : (fs.take (i + 1)).flatMap fldB = (fs.take i).flatMap fldB ++ (twoB fs[i].length ++ fs[i]) := by
  rw [List.take_succ_eq_append_getElem h, List.flatMap_append]
  simp [fldB]
theorem flat_len (fs : List (List UInt8)) (i : Nat) : ((fs.take i).flatMap fldB).length ≤ (fs.flatMap fldB).length := by
  have : fs.flatMap fldB = (fs.take i).flatMap fldB ++ (fs.drop i).flatMap fldB := by rw [← List.flatMap_append, List.take_append_drop]
  rw [this, List.length_append]; omega
theorem convB (σ : S) (s : List UInt8) : convO env σ 9 25 (some .string) (some (.slice 5)) (.str s) = some (.row (byteCells s) s.length .unk, σ) := convO_bytes u5
theorem payload_call {sv p : V} {f : FuncId} {I : List AObj → List UInt8 → (Nat → Prop) → Prop} {N : Nat} (hS : Sink sv f p I N) {L : List AObj} {ts : List Nat} {F : Nat → Prop} {r : Rec} {fv : V} (hI : I L [] F) (hf : Fld fv r.fs) (hk : 0 ≤ r.k) (hN : payN r.fs ≤ N) (hfl : r.fs.length ≤ 2 ^ 38) (hfl2 : ∀ x ∈ r.fs, x.length ≤ 2 ^ 38) :
    ∃ L' F', callFn env (ev env) 17 [sv, .agg [.int .i64 r.k, fv]] ⟨L, ts⟩ = some (.tup [], ⟨L', ts⟩) ∧ I L' (payB r) F' ∧ Step L L' F F' := by
  have hI0 := hS.app L [.cells [.int .i64 r.k, fv] 24] [] F hI
  have hkn : ((r.k.toNat : Nat) : Int) = r.k := by omega
  have hb0 : V.row [.int .u8 (IntKind.u8.wrap r.k), .int .u8 (IntKind.u8.wrap (r.fs.length : Int))] 2 .full = .row (byteCells [UInt8.ofNat r.k.toNat, UInt8.ofNat r.fs.length]) 2 .full := by
    rw [← hkn, byteV, byteV]; rfl
  have hpl := payB_len r
  have hpl2 : (payB r).length = 2 + (r.fs.flatMap fldB).length := by unfold payB; rw [List.length_append]; rfl
  obtain ⟨L1, F1, hW1, hI1, hS1⟩ := hS.write _ ts [] F [UInt8.ofNat r.k.toNat, UInt8.ofNat r.fs.length] .full hI0 (by simp; omega)
  rw [List.nil_append] at hI1
  simp only [List.length_cons, List.length_nil, Nat.zero_add, Nat.reduceAdd] at hW1
  have hne : ∀ q, F q → q ≠ L.length := fun q hq => by have := hS.lt _ _ _ q hI hq; omega
  have hbox1 : L1[L.length]? = some (.cells [.int .i64 r.k, fv] 24) := by
    rw [hS1.2.1 L.length (by simp) (fun h => hne _ h rfl)]; simp
  have hF1 : ∀ q, F1 q → q ≠ L.length := fun q hq => by
    rcases hS1.2.2 q hq with h | h
    · exact hne q h
    · simp at h; omega
  have hlen := hf.len 9
  have hlast : ∀ o, (L ++ [o])[L.length]? = some o := fun o => by simp
  have e0 : (loadCellsV (L ++ [AObj.cells [.int .i64 r.k, fv] 24]) 1 (.ptr L.length 0)).bind (·[0]?) = some (.int .i64 r.k) := by rw [YA, hlast]; rfl
  suffices H : ∃ L' F', (∃ q1 q2, callFn env (ev env) 17 [sv, .agg [.int .i64 r.k, fv]] ⟨L, ts⟩ = some (q1, q2) ∧ q1 = .tup [] ∧ q2 = ⟨L', ts⟩) ∧ I L' (payB r) F' ∧ Step L1 L' F1 F' by
    obtain ⟨L', F', ⟨q1, q2, hc, rfl, rfl⟩, h2, h3⟩ := H
    have h4 := hS1.trans h3
    refine ⟨L', F', hc, h2, ?_⟩
    obtain ⟨a1, a2, a3⟩ := h4
    simp only [List.length_append, List.length_singleton] at a1 a2 a3
    exact ⟨by omega, fun q hq hn => by rw [a2 q (by omega) hn, List.getElem?_append_left hq], fun q hq => (a3 q hq).imp id (by omega)⟩
  have hk2 : ∃ v σ', callFn env (ev env) 17 [sv, .agg [.int .i64 r.k, fv]] ⟨L, ts⟩ = some (v, σ') ∧ (v = .tup [] ∧ ∃ L' F', σ' = ⟨L', ts⟩ ∧ I L' (payB r) F' ∧ Step L1 L' F1 F') := by
    refine callFn_any rfl rfl at17 rfl (by simp [Try.f17]) (by simp [Try.f17]) (G_start ?_)
    simp -implicitDefEqProofs only [Try.f17,Wa,Wb,Wc,Wd,We,Wf,Wg,Wh,Wi,Wj,Wk,Wl,Wm,Wn,Zo,Zp,evalT,Nat.reduceLT,Nat.reduceEqDiff,if_true,if_false,reduceIte,Ys,ofVal,ofCell,argT,resT,setT,Y0,Int.reduceEq,Int.reduceLT,Int.reduceLE,Int.reduceNeg,mb,Nat.reduceBEq,tys,stb,Va,storeList,Nat.reduceAdd,Nat.reduceLeDiff,tyj,vBin_xor,vBin_or,vBin_shl,vBin_shr,hlast,e0,hlen,opT_rowB,row26_2,hb0,opT_invoke,hS.meth,hW1,hbox1]
    refine loop_rule (fun m T D σ => D = [] ∧ T 0 = sv ∧ T 17 = fv ∧ T 18 = .int .i64 r.fs.length ∧ ∃ (i : Nat) (L' : List AObj) (F' : Nat → Prop), i ≤ r.fs.length ∧ m = r.fs.length - i ∧ T 19 = .int .i64 i ∧ σ = ⟨L', ts⟩ ∧ I L' ([UInt8.ofNat r.k.toNat, UInt8.ofNat r.fs.length] ++ (r.fs.take i).flatMap fldB) F' ∧ Step L1 L' F1 F') ?_ r.fs.length _ _ _ ⟨rfl, rfl, rfl, rfl, 0, L1, F1, by omega, rfl, rfl, rfl, hI1, Step.refl _ _⟩
    rintro m T D σ ⟨rfl, t0, t17, t18, i, L2, F2, hi, rfl, t19, rfl, hI2, hS2⟩
    refine G_start ?_
    by_cases hlt : i < r.fs.length
    · have c1 : (i : Int) < (r.fs.length : Int) := by omega
      have w1 : IntKind.wrap .i64 ((i : Int) + 1) = ((i + 1 : Nat) : Int) := by rw [B.wrap64 (by omega)]; omega
      obtain ⟨pp, hp, hld⟩ := hf.idx hlt L2
      have htk := take_fld r.fs i hlt
      have htl := flat_len r.fs (i + 1)
      rw [htk] at htl
      simp only [List.length_append] at htl
      obtain ⟨L3, F3, hW3, hI3, hS3⟩ := hS.write L2 ts _ F2 (twoB r.fs[i].length) .full hI2 (by simp only [List.length_append, List.length_cons, List.length_nil]; omega)
      obtain ⟨L4, F4, hW4, hI4, hS4⟩ := hS.write L3 ts _ F3 r.fs[i] .unk hI3 (by simp only [List.length_append, List.length_cons, List.length_nil]; omega)
      have htw := twoV r.fs[i].length
      have htwl : (twoB r.fs[i].length).length = 2 := rfl
      rw [htwl] at hW3
      simp -implicitDefEqProofs only [Wa,Wb,Wc,Wd,We,Wf,Wg,Wh,Wi,Wj,Wk,Wl,Wm,Wn,Zo,Zp,evalT,Nat.reduceLT,Nat.reduceEqDiff,if_true,if_false,reduceIte,Ys,ofVal,ofCell,argT,resT,setT,Y0,Int.reduceEq,Int.reduceLT,Int.reduceLE,Int.reduceNeg,mb,Nat.reduceBEq,tys,stb,Va,storeList,Nat.reduceAdd,Nat.reduceLeDiff,tyj,vBin_xor,vBin_or,vBin_shl,vBin_shr,t0,t17,t18,t19,c1,hp,hld,w1,lenS,c8,m8i,opT_rowB,row26_2,htw,opT_invoke,hS.meth,hW3,convB,hW4]
      refine ⟨r.fs.length - (i + 1), by omega, i + 1, L4, F4, by omega, rfl, rfl, rfl, ?_, (hS2.trans hS3).trans hS4⟩
      rw [htk]
      simpa [List.append_assoc] using hI4
    · have c1 : ¬ (i : Int) < (r.fs.length : Int) := by omega
      have hi2 : i = r.fs.length := by omega
      subst hi2
      rw [List.take_length] at hI2
      simp -implicitDefEqProofs only [Wa,Wb,Wc,Wd,We,Wf,Wg,Wh,Wi,Wj,Wk,Wl,Wm,Wn,Zo,Zp,evalT,Nat.reduceLT,Nat.reduceEqDiff,if_true,if_false,reduceIte,Ys,ofVal,ofCell,argT,resT,setT,Y0,Int.reduceEq,Int.reduceLT,Int.reduceLE,Int.reduceNeg,mb,Nat.reduceBEq,tys,stb,Va,storeList,Nat.reduceAdd,Nat.reduceLeDiff,tyj,vBin_xor,vBin_or,vBin_shl,vBin_shr,t17,t18,t19,c1]
      exact ⟨rfl, L2, F2, rfl, hI2, hS2⟩
  obtain ⟨v, σ', h1, rfl, L', F', rfl, h2, h3⟩ := hk2
  exact ⟨L', F', ⟨_, _, h1, rfl, rfl⟩, h2, h3⟩
end Go.Proofs.Ytncohjljeoknkaa.D
namespace Go.Proofs.Ytncohjljeoknkaa.D
open Go.Ab
set_option maxHeartbeats 8000000
set_option maxRecDepth 100000
set_option linter.unusedSimpArgs false
set_option linter.unusedVariables false
theorem at10 : env.P.funcs[10]? = some Try.f10 := by kernel_rfl
theorem at24 : env.P.funcs[24]? = some Try.f24 := by kernel_rfl
theorem at25 : env.P.funcs[25]? = some Try.f25 := by kernel_rfl
theorem at30 : env.P.funcs[30]? = some Try.f30 := by kernel_rfl
theorem u101 : env.P.underlying 54 = some (.int .i64) := by kernel_rfl
theorem s101 : sz env 54 = some 1 := by kernel_rfl
theorem z101 : zeroV env 54 = some (.int .i64 0) := by kernel_rfl
theorem mk102 (v : V) : mkIfO env 55 v = some (.iface 55 v) := mkIf_ptr (e := 54) (by kernel_rfl) v
theorem mk92 (v : V) : mkIfO env 46 v = some (.iface 46 v) := mkIf_ptr (e := 44) (by kernel_rfl) v
def CntI (c : Nat) (L : List AObj) (s : List UInt8) (F : Nat → Prop) : Prop := L[c]? = some (.cells [.int .i64 s.length] 54) ∧ F = fun q => q = c
theorem counter_sink (c : Nat) : Sink (.iface 55 (.ptr c 0)) 59 (.ptr c 0) (CntI c) (2 ^ 40) where
  meth := by kernel_rfl
  app := fun L X s F h => ⟨by rw [List.getElem?_append_left (B.lt_get h.1)]; exact h.1, h.2⟩
  lt := fun L s F q h hq => by
    obtain ⟨h1, rfl⟩ := h
    have hq : q = c := hq
    subst hq
    exact B.lt_get h1
  write := fun L ts s F t cap h hl => by
    obtain ⟨h1, rfl⟩ := h
    refine ⟨L.set c (.cells [.int .i64 (s ++ t).length] 54), _, ?_, ⟨List.getElem?_set_self (B.lt_get h1), rfl⟩, step_set _ rfl⟩
    have w1 : IntKind.wrap .i64 ((s.length : Int) + (t.length : Int)) = ((s ++ t).length : Int) := by rw [List.length_append, B.wrap64 (by omega)]; omega
    refine callFn_eq rfl rfl at59 rfl (by simp [Try.f59]) (by simp [Try.f59]) (G_start ?_)
    simp -implicitDefEqProofs only [Try.f59,Wa,Wb,Wc,Wd,We,Wf,Wg,Wh,Wi,Wj,Wk,Wl,Wm,Wn,Zo,Zp,evalT,Nat.reduceLT,Nat.reduceEqDiff,if_true,if_false,reduceIte,Ys,ofVal,ofCell,argT,resT,setT,Y0,Int.reduceEq,Int.reduceLT,Int.reduceLE,Int.reduceNeg,mb,Nat.reduceBEq,tys,stb,Va,storeList,Nat.reduceAdd,Nat.reduceLeDiff,tyj,vBin_xor,vBin_or,vBin_shl,vBin_shr,opT_nilCheck,nilO_ptr,h1,u101,s101,w1]
    exact ⟨by kernel_rfl, rfl, trivial⟩
def BufI (b : Nat) (L : List AObj) (s : List UInt8) (F : Nat → Prop) : Prop := ∃ bv lr, L[b]? = some (.cells [bv, .int .i64 0, .int .i8 lr] 44) ∧ BufV L bv s ∧ blkOf bv ≠ some b ∧ F = fun q => q = b ∨ blkOf bv = some q
theorem buffer_sink (b : Nat) : Sink (.iface 46 (.ptr b 0)) 54 (.ptr b 0) (BufI b) (2 ^ 38) where
  meth := by kernel_rfl
  app := fun L X s F ⟨bv, lr, h1, h2, h3, h4⟩ => ⟨bv, lr, by rw [List.getElem?_append_left (B.lt_get h1)]; exact h1, h2.move fun q hq => by rw [List.getElem?_append_left (h2.rd.lt hq)], h3, h4⟩
  lt := fun L s F q ⟨bv, lr, h1, h2, h3, h4⟩ hq => by
    rw [h4] at hq
    rcases hq with rfl | hq
    · exact B.lt_get h1
    · exact h2.rd.lt hq
  write := fun L ts s F t cap ⟨bv, lr, h1, h2, h3, h4⟩ hl => by
    obtain ⟨bv', L', hW, hc, hB, hle, hfr, hfrom⟩ := write_call (ts := ts) (rest := []) h1 h2 h3 (Rd.row L t cap) (by simp [blkOf]) hl
    have hbl := B.lt_get h1
    refine ⟨L', _, hW, ⟨bv', 0, hc, hB, ?_, rfl⟩, hle, fun q hq hn => ?_, fun q hq => ?_⟩
    · rcases hfrom with e | ⟨p, e1, e2⟩
      · rw [e]; exact h3
      · rw [e1]; rintro ⟨⟩; omega
    · subst h4
      exact hfr q hq (fun e => hn (.inl e)) (fun e => hn (.inr e))
    · subst h4
      rcases hq with rfl | hq
      · exact .inl (.inl rfl)
      · rcases hfrom with e | ⟨p, e1, e2⟩
        · exact .inl (.inr (by rw [← e]; exact hq))
        · rw [e1] at hq; cases hq; exact .inr e2
def longF (fs : List (List UInt8)) : Bool := fs.any fun f => decide (60000 < f.length)
def chkR (r : Rec) : Int := if r.k < 0 ∨ 255 < r.k then 2 else if 64 < r.fs.length then 4 else if longF r.fs then 4 else if 200000 < payN r.fs + 8 then 4 else 0
theorem small_call (s : List UInt8) (σ : S) : callFn env (ev env) 25 [.str s] σ = some (.bool (decide (60000 < s.length)), σ) := by
  refine callFn_eq rfl rfl at25 rfl (by simp [Try.f25]) (by simp [Try.f25]) (G_start ?_)
  have e : (decide ((60000 : Int) < (s.length : Int))) = decide (60000 < s.length) := by
    by_cases h : 60000 < s.length
    · rw [decide_eq_true h, decide_eq_true (by omega)]
    · rw [decide_eq_false h, decide_eq_false (by omega)]
  simp -implicitDefEqProofs only [Try.f25,Wa,Wb,Wc,Wd,We,Wf,Wg,Wh,Wi,Wj,Wk,Wl,Wm,Wn,Zo,Zp,evalT,Nat.reduceLT,Nat.reduceEqDiff,if_true,if_false,reduceIte,Ys,ofVal,ofCell,argT,resT,setT,Y0,Int.reduceEq,Int.reduceLT,Int.reduceLE,Int.reduceNeg,mb,Nat.reduceBEq,tys,stb,Va,storeList,Nat.reduceAdd,Nat.reduceLeDiff,tyj,vBin_xor,vBin_or,vBin_shl,vBin_shr,lenS,e]
  exact ⟨rfl, trivial⟩
theorem index_call {fv : V} {fs : List (List UInt8)} (h : Fld fv fs) (hl : fs.length ≤ 2 ^ 38) (σ : S) : ∃ n : Int, callFn env (ev env) 30 [fv, .func 25 [] []] σ = some (.int .i64 n, σ) ∧ (decide (0 ≤ n)) = longF fs := by
  have hk : ∃ v σ', callFn env (ev env) 30 [fv, .func 25 [] []] σ = some (v, σ') ∧ ∃ n : Int, v = .int .i64 n ∧ σ' = σ ∧ (decide (0 ≤ n)) = longF fs := by
    refine callFn_any rfl rfl at30 rfl (by simp [Try.f30]) (by simp [Try.f30]) (G_start ?_)
    have hlen := h.len 9
    obtain ⟨L, ts⟩ := σ
    simp -implicitDefEqProofs only [Try.f30,Wa,Wb,Wc,Wd,We,Wf,Wg,Wh,Wi,Wj,Wk,Wl,Wm,Wn,Zo,Zp,evalT,Nat.reduceLT,Nat.reduceEqDiff,if_true,if_false,reduceIte,Ys,ofVal,ofCell,argT,resT,setT,Y0,Int.reduceEq,Int.reduceLT,Int.reduceLE,Int.reduceNeg,mb,Nat.reduceBEq,tys,stb,Va,storeList,Nat.reduceAdd,Nat.reduceLeDiff,tyj,vBin_xor,vBin_or,vBin_shl,vBin_shr,hlen]
    refine loop_rule (fun m T D σ => D = [] ∧ σ = ⟨L, ts⟩ ∧ T 0 = fv ∧ T 1 = .func 25 [] [] ∧ T 7 = .int .i64 fs.length ∧ ∃ i : Nat, i ≤ fs.length ∧ m = fs.length - i ∧ T 8 = .int .i64 i ∧ longF fs = longF (fs.drop i)) ?_ fs.length _ _ _ ⟨rfl, rfl, rfl, rfl, rfl, 0, by omega, rfl, rfl, rfl⟩
    rintro m T D σ ⟨rfl, rfl, t0, t1, t7, i, hi, rfl, t8, hany⟩
    refine G_start ?_
    by_cases hlt : i < fs.length
    · have c1 : (i : Int) < (fs.length : Int) := by omega
      have w1 : IntKind.wrap .i64 ((i : Int) + 1) = ((i + 1 : Nat) : Int) := by rw [B.wrap64 (by omega)]; omega
      obtain ⟨p, hp, hld⟩ := h.idx hlt L
      have hS := small_call fs[i] ⟨L, ts⟩
      have hd : fs.drop i = fs[i] :: fs.drop (i + 1) := List.drop_eq_getElem_cons hlt
      by_cases cb : 60000 < fs[i].length
      · have hr : longF fs = true := by rw [hany, hd]; simp only [longF, List.any_cons, decide_eq_true cb, Bool.true_or]
        rw [decide_eq_true cb] at hS
        simp -implicitDefEqProofs only [Wa,Wb,Wc,Wd,We,Wf,Wg,Wh,Wi,Wj,Wk,Wl,Wm,Wn,Zo,Zp,evalT,Nat.reduceLT,Nat.reduceEqDiff,if_true,if_false,reduceIte,Ys,ofVal,ofCell,argT,resT,setT,Y0,Int.reduceEq,Int.reduceLT,Int.reduceLE,Int.reduceNeg,mb,Nat.reduceBEq,tys,stb,Va,storeList,Nat.reduceAdd,Nat.reduceLeDiff,tyj,vBin_xor,vBin_or,vBin_shl,vBin_shr,t0,t1,t7,t8,c1,hp,hld,hS,w1]
        exact ⟨_, rfl, by rw [hr]; simp⟩
      · rw [decide_eq_false cb] at hS
        simp -implicitDefEqProofs only [Wa,Wb,Wc,Wd,We,Wf,Wg,Wh,Wi,Wj,Wk,Wl,Wm,Wn,Zo,Zp,evalT,Nat.reduceLT,Nat.reduceEqDiff,if_true,if_false,reduceIte,Ys,ofVal,ofCell,argT,resT,setT,Y0,Int.reduceEq,Int.reduceLT,Int.reduceLE,Int.reduceNeg,mb,Nat.reduceBEq,tys,stb,Va,storeList,Nat.reduceAdd,Nat.reduceLeDiff,tyj,vBin_xor,vBin_or,vBin_shl,vBin_shr,t0,t1,t7,t8,c1,hp,hld,hS,w1]
        exact ⟨fs.length - (i + 1), by omega, i + 1, by omega, rfl, rfl, by rw [hany, hd]; simp only [longF, List.any_cons, decide_eq_false cb, Bool.false_or]⟩
    · have c1 : ¬ (i : Int) < (fs.length : Int) := by omega
      have hr : longF fs = false := by rw [hany, List.drop_of_length_le (by omega)]; rfl
      simp -implicitDefEqProofs only [Wa,Wb,Wc,Wd,We,Wf,Wg,Wh,Wi,Wj,Wk,Wl,Wm,Wn,Zo,Zp,evalT,Nat.reduceLT,Nat.reduceEqDiff,if_true,if_false,reduceIte,Ys,ofVal,ofCell,argT,resT,setT,Y0,Int.reduceEq,Int.reduceLT,Int.reduceLE,Int.reduceNeg,mb,Nat.reduceBEq,tys,stb,Va,storeList,Nat.reduceAdd,Nat.reduceLeDiff,tyj,vBin_xor,vBin_or,vBin_shl,vBin_shr,t7,t8,c1]
      exact ⟨_, rfl, by rw [hr]; rfl⟩
  obtain ⟨v, σ', h1, n, rfl, rfl, h2⟩ := hk
  exact ⟨n, h1, h2⟩
theorem contains_call {fv : V} {fs : List (List UInt8)} (h : Fld fv fs) (hl : fs.length ≤ 2 ^ 38) (σ : S) : callFn env (ev env) 24 [fv, .func 25 [] []] σ = some (.bool (longF fs), σ) := by
  obtain ⟨n, h1, h2⟩ := index_call h hl σ
  refine callFn_eq rfl rfl at24 rfl (by simp [Try.f24]) (by simp [Try.f24]) (G_start ?_)
  simp -implicitDefEqProofs only [Try.f24,Wa,Wb,Wc,Wd,We,Wf,Wg,Wh,Wi,Wj,Wk,Wl,Wm,Wn,Zo,Zp,evalT,Nat.reduceLT,Nat.reduceEqDiff,if_true,if_false,reduceIte,Ys,ofVal,ofCell,argT,resT,setT,Y0,Int.reduceEq,Int.reduceLT,Int.reduceLE,Int.reduceNeg,mb,Nat.reduceBEq,tys,stb,Va,storeList,Nat.reduceAdd,Nat.reduceLeDiff,tyj,vBin_xor,vBin_or,vBin_shl,vBin_shr,h1,h2]
  exact ⟨rfl, trivial⟩
theorem payN_le {fs : List (List UInt8)} (h : fs.length ≤ 64) (h2 : longF fs = false) : payN fs ≤ 4000000 := by
  have key : ∀ fs : List (List UInt8), longF fs = false → (fs.map fun f => 2 + f.length).sum ≤ fs.length * 60002 := by
    intro fs
    induction fs with
    | nil => intro _; simp
    | cons f fs ih =>
      intro hf
      simp only [longF, List.any_cons, Bool.or_eq_false_iff, decide_eq_false_iff_not] at hf ih
      have := ih hf.2
      simp only [List.map_cons, List.sum_cons, List.length_cons]
      omega
  have := key fs h2
  unfold payN
  omega
theorem short_of {fs : List (List UInt8)} (h : longF fs = false) : ∀ x ∈ fs, x.length ≤ 2 ^ 38 := fun x hx => by
  simp only [longF, List.any_eq_false, decide_eq_true_eq] at h
  have := h x hx
  omega
theorem Step.keep {L L' : List AObj} {F F' : Nat → Prop} {n : Nat} (h : Step L L' F F') (hF : ∀ q, F q → n ≤ q) (hn : n ≤ L.length) : n ≤ L'.length ∧ ∀ q, q < n → L'[q]? = L[q]? :=
  ⟨Nat.le_trans hn h.1, fun q hq => h.2.1 q (by omega) fun hf => by have := hF q hf; omega⟩
theorem check_call {L : List AObj} {ts : List Nat} {r : Rec} {fv : V} (hf : Fld fv r.fs) (hl : r.fs.length ≤ 2 ^ 38) : ∃ L', callFn env (ev env) 10 [.agg [.int .i64 r.k, fv]] ⟨L, ts⟩ = some (.int .i64 (chkR r), ⟨L', ts⟩) ∧ Keep L L' := by
  have hlen := hf.len 9
  have hlast : ∀ o, (L ++ [o])[L.length]? = some o := fun o => by simp
  unfold chkR
  by_cases k0 : r.k < 0
  · rw [if_pos (.inl k0)]
    refine ⟨_, ?_, Keep.app L [.cells [.int .i64 r.k, fv] 24]⟩
    refine callFn_eq rfl rfl at10 rfl (by simp [Try.f10]) (by simp [Try.f10]) (G_start ?_)
    simp -implicitDefEqProofs only [Try.f10,Wa,Wb,Wc,Wd,We,Wf,Wg,Wh,Wi,Wj,Wk,Wl,Wm,Wn,Zo,Zp,evalT,Nat.reduceLT,Nat.reduceEqDiff,if_true,if_false,reduceIte,Ys,ofVal,ofCell,argT,resT,setT,Y0,Int.reduceEq,Int.reduceLT,Int.reduceLE,Int.reduceNeg,mb,Nat.reduceBEq,tys,stb,Va,storeList,Nat.reduceAdd,Nat.reduceLeDiff,tyj,vBin_xor,vBin_or,vBin_shl,vBin_shr,hlast,k0]
    exact ⟨rfl, trivial⟩
  by_cases k1 : 255 < r.k
  · rw [if_pos (.inr k1)]
    refine ⟨_, ?_, Keep.app L [.cells [.int .i64 r.k, fv] 24]⟩
    refine callFn_eq rfl rfl at10 rfl (by simp [Try.f10]) (by simp [Try.f10]) (G_start ?_)
    simp -implicitDefEqProofs only [Try.f10,Wa,Wb,Wc,Wd,We,Wf,Wg,Wh,Wi,Wj,Wk,Wl,Wm,Wn,Zo,Zp,evalT,Nat.reduceLT,Nat.reduceEqDiff,if_true,if_false,reduceIte,Ys,ofVal,ofCell,argT,resT,setT,Y0,Int.reduceEq,Int.reduceLT,Int.reduceLE,Int.reduceNeg,mb,Nat.reduceBEq,tys,stb,Va,storeList,Nat.reduceAdd,Nat.reduceLeDiff,tyj,vBin_xor,vBin_or,vBin_shl,vBin_shr,hlast,k0,k1]
    exact ⟨rfl, trivial⟩
  rw [if_neg (by omega)]
  by_cases c1 : 64 < r.fs.length
  · rw [if_pos c1]
    have c1' : (64 : Int) < (r.fs.length : Int) := by omega
    refine ⟨_, ?_, Keep.app L [.cells [.int .i64 r.k, fv] 24]⟩
    refine callFn_eq rfl rfl at10 rfl (by simp [Try.f10]) (by simp [Try.f10]) (G_start ?_)
    simp -implicitDefEqProofs only [Try.f10,Wa,Wb,Wc,Wd,We,Wf,Wg,Wh,Wi,Wj,Wk,Wl,Wm,Wn,Zo,Zp,evalT,Nat.reduceLT,Nat.reduceEqDiff,if_true,if_false,reduceIte,Ys,ofVal,ofCell,argT,resT,setT,Y0,Int.reduceEq,Int.reduceLT,Int.reduceLE,Int.reduceNeg,mb,Nat.reduceBEq,tys,stb,Va,storeList,Nat.reduceAdd,Nat.reduceLeDiff,tyj,vBin_xor,vBin_or,vBin_shl,vBin_shr,hlast,k0,k1,hlen,c1']
    exact ⟨rfl, trivial⟩
  rw [if_neg c1]
  have c1' : ¬ (64 : Int) < (r.fs.length : Int) := by omega
  have hC := contains_call hf hl ⟨L ++ [.cells [.int .i64 r.k, fv] 24], ts⟩
  cases hlg : longF r.fs with
  | true =>
    rw [hlg] at hC
    rw [if_pos rfl]
    refine ⟨_, ?_, Keep.app L [.cells [.int .i64 r.k, fv] 24]⟩
    refine callFn_eq rfl rfl at10 rfl (by simp [Try.f10]) (by simp [Try.f10]) (G_start ?_)
    simp -implicitDefEqProofs only [Try.f10,Wa,Wb,Wc,Wd,We,Wf,Wg,Wh,Wi,Wj,Wk,Wl,Wm,Wn,Zo,Zp,evalT,Nat.reduceLT,Nat.reduceEqDiff,if_true,if_false,reduceIte,Ys,ofVal,ofCell,argT,resT,setT,Y0,Int.reduceEq,Int.reduceLT,Int.reduceLE,Int.reduceNeg,mb,Nat.reduceBEq,tys,stb,Va,storeList,Nat.reduceAdd,Nat.reduceLeDiff,tyj,vBin_xor,vBin_or,vBin_shl,vBin_shr,hlast,k0,k1,hlen,c1',hC]
    exact ⟨rfl, trivial⟩
  | false =>
    rw [hlg] at hC
    rw [if_neg (by simp)]
    have hpn := payN_le (by omega) hlg
    have hCI : CntI (L.length + 1) (L ++ [.cells [.int .i64 r.k, fv] 24] ++ [.cells [.int .i64 0] 54]) [] (fun q => q = L.length + 1) := ⟨by simp, rfl⟩
    obtain ⟨L', F', hP, hI, hS⟩ := payload_call (ts := ts) (counter_sink (L.length + 1)) hCI hf (by omega) (by omega) hl (short_of hlg)
    obtain ⟨hc, rfl⟩ := hI
    rw [payB_len] at hc
    have hk := hS.keep (n := L.length) (fun q hq => by have hq : q = L.length + 1 := hq; omega) (by simp)
    have hkeep : Keep L L' := ⟨hk.1, fun q hq => by rw [hk.2 q hq, List.append_assoc, List.getElem?_append_left hq]⟩
    have hbox : (L ++ [AObj.cells [.int .i64 r.k, fv] 24] ++ [.cells [.int .i64 0] 54])[L.length]? = some (.cells [.int .i64 r.k, fv] 24) := by rw [List.append_assoc]; simp
    have hl2 : (L ++ [AObj.cells [.int .i64 r.k, fv] 24]).length = L.length + 1 := by simp
    have w1 : IntKind.wrap .i64 ((payN r.fs : Int) + 8) = ((payN r.fs + 8 : Nat) : Int) := by rw [B.wrap64 (by omega)]; omega
    have hld : ∀ (A : List AObj) (a b : V), A[L.length]? = some (.cells [a, b] 24) → loadCellsV A 2 (.ptr L.length 0) = some [a, b] := fun A a b h => by simp [loadCellsV, h]
    have hld2 := hld _ _ _ hbox
    by_cases c2 : 200000 < payN r.fs + 8
    · rw [if_pos c2]
      have c2' : (200000 : Int) < ((payN r.fs + 8 : Nat) : Int) := by omega
      refine ⟨L', ?_, hkeep⟩
      refine callFn_eq rfl rfl at10 rfl (by simp [Try.f10]) (by simp [Try.f10]) (G_start ?_)
      simp -implicitDefEqProofs only [Try.f10,Wa,Wb,Wc,Wd,We,Wf,Wg,Wh,Wi,Wj,Wk,Wl,Wm,Wn,Zo,Zp,evalT,Nat.reduceLT,Nat.reduceEqDiff,if_true,if_false,reduceIte,Ys,ofVal,ofCell,argT,resT,setT,Y0,Int.reduceEq,Int.reduceLT,Int.reduceLE,Int.reduceNeg,mb,Nat.reduceBEq,tys,stb,Va,storeList,Nat.reduceAdd,Nat.reduceLeDiff,tyj,vBin_xor,vBin_or,vBin_shl,vBin_shr,hlast,k0,k1,hlen,c1',hC,z101,hl2,opT_mkIf,mk102,agg55,hld2,hP,hc,u101,w1,c2']
      exact ⟨rfl, trivial⟩
    · rw [if_neg c2]
      have c2' : ¬ (200000 : Int) < ((payN r.fs + 8 : Nat) : Int) := by omega
      refine ⟨L', ?_, hkeep⟩
      refine callFn_eq rfl rfl at10 rfl (by simp [Try.f10]) (by simp [Try.f10]) (G_start ?_)
      simp -implicitDefEqProofs only [Try.f10,Wa,Wb,Wc,Wd,We,Wf,Wg,Wh,Wi,Wj,Wk,Wl,Wm,Wn,Zo,Zp,evalT,Nat.reduceLT,Nat.reduceEqDiff,if_true,if_false,reduceIte,Ys,ofVal,ofCell,argT,resT,setT,Y0,Int.reduceEq,Int.reduceLT,Int.reduceLE,Int.reduceNeg,mb,Nat.reduceBEq,tys,stb,Va,storeList,Nat.reduceAdd,Nat.reduceLeDiff,tyj,vBin_xor,vBin_or,vBin_shl,vBin_shr,hlast,k0,k1,hlen,c1',hC,z101,hl2,opT_mkIf,mk102,agg55,hld2,hP,hc,u101,w1,c2']
      exact ⟨rfl, trivial⟩
end Go.Proofs.Ytncohjljeoknkaa.D
namespace Go.Proofs.Ytncohjljeoknkaa.D
open Go.Ab
set_option maxHeartbeats 8000000
set_option maxRecDepth 100000
set_option linter.unusedSimpArgs false
set_option linter.unusedVariables false
theorem at8 : env.P.funcs[8]? = some Try.f8 := by kernel_rfl
theorem u37' : env.P.underlying 68 = some (.slice 25) := by kernel_rfl
def lens (ps : List (V × List UInt8)) : Nat := (ps.map fun p => p.2.length).sum
theorem lens_take (ps : List (V × List UInt8)) (i : Nat) (h : i < ps.length) : lens (ps.take (i + 1)) = lens (ps.take i) + ps[i].2.length := by
  unfold lens
  rw [List.take_succ_eq_append_getElem h, List.map_append, List.sum_append]
  simp
theorem lens_le (ps : List (V × List UInt8)) (i : Nat) : lens (ps.take i) ≤ lens ps := by
  have : lens ps = lens (ps.take i) + lens (ps.drop i) := by
    unfold lens
    rw [← List.sum_append, ← List.map_append, List.take_append_drop]
  omega
def cat (ps : List (V × List UInt8)) : List UInt8 := ps.flatMap (·.2)
theorem cat_len (ps : List (V × List UInt8)) : (cat ps).length = lens ps := by simp [cat, lens, List.length_flatMap]
theorem cat_take (ps : List (V × List UInt8)) (i : Nat) (h : i < ps.length) : cat (ps.take (i + 1)) = cat (ps.take i) ++ ps[i].2 := by
  unfold cat
  rw [List.take_succ_eq_append_getElem h, List.flatMap_append]
  simp
theorem concats_call {L : List AObj} {ts : List Nat} {ps : List (V × List UInt8)} {cap : RCap} (hp : ∀ p ∈ ps, Rd L p.1 p.2) (hl : lens ps ≤ 2 ^ 38) (hn : ps.length ≤ 2 ^ 38) :
    ∃ x L', callFn env (ev env) 18 [.row (ps.map (·.1)) ps.length cap] ⟨L, ts⟩ = some (x, ⟨L', ts⟩) ∧ Own L' x (cat ps) ∧ Keep L L' ∧ New L.length x := by
  obtain ⟨x0, L0, hG, g0⟩ := grow_call (lens ps) hl L ts
  have hk : ∃ v σ', callFn env (ev env) 18 [.row (ps.map (·.1)) ps.length cap] ⟨L, ts⟩ = some (v, σ') ∧ ∃ L', σ' = ⟨L', ts⟩ ∧ Own L' v (cat ps) ∧ Keep L L' ∧ New L.length v := by
    refine callFn_any rfl rfl at18 rfl (by simp [Try.f18]) (by simp [Try.f18]) (G_start ?_)
    simp -implicitDefEqProofs only [Try.f18,Wa,Wb,Wc,Wd,We,Wf,Wg,Wh,Wi,Wj,Wk,Wl,Wm,Wn,Zo,Zp,evalT,Nat.reduceLT,Nat.reduceEqDiff,if_true,if_false,reduceIte,Ys,ofVal,ofCell,argT,resT,setT,Y0,Int.reduceEq,Int.reduceLT,Int.reduceLE,Int.reduceNeg,mb,Nat.reduceBEq,tys,stb,Va,storeList,Nat.reduceAdd,Nat.reduceLeDiff,u37']
    refine loop_rule (fun m T D σ => D = [] ∧ σ = ⟨L, ts⟩ ∧ T 0 = .row (ps.map (·.1)) ps.length cap ∧ T 9 = .row (ps.map (·.1)) ps.length cap ∧ T 10 = .int .i64 ps.length ∧ ∃ i : Nat, i ≤ ps.length ∧ m = ps.length - i ∧ T 11 = .int .i64 i ∧ T 3 = .int .i64 (lens (ps.take i) : Int)) ?_ ps.length _ _ _ ⟨rfl, rfl, rfl, rfl, rfl, 0, by omega, rfl, rfl, rfl⟩
    rintro m T D σ ⟨rfl, rfl, t0, t9, t10, i, hi, rfl, t11, t3⟩
    refine G_start ?_
    have hll := lens_le ps i
    by_cases hlt : i < ps.length
    · have c1 : (i : Int) < (ps.length : Int) := by omega
      have w1 : IntKind.wrap .i64 ((i : Int) + 1) = ((i + 1 : Nat) : Int) := by rw [B.wrap64 (by omega)]; omega
      have ht := lens_take ps i hlt
      have hll2 := lens_le ps (i + 1)
      have w2 : IntKind.wrap .i64 ((lens (ps.take i) : Int) + (ps[i].2.length : Int)) = (lens (ps.take (i + 1)) : Int) := by rw [B.wrap64 (by omega)]; omega
      have c2 : ¬ (lens (ps.take (i + 1)) : Int) < 0 := by omega
      have hx : vIndexAddr 1 (.row (ps.map (·.1)) ps.length cap) (.int .i64 (i : Int)) = some (.rptr ((ps.map (·.1)).drop (i * 1))) := by
        rw [Ys, if_pos (by omega), Int.toNat_natCast]
      have hld : (ps.map (·.1))[i]? = some ps[i].1 := by simp [hlt]
      have hln := (hp ps[i] (List.getElem_mem hlt)).lenT 5
      simp -implicitDefEqProofs only [Wa,Wb,Wc,Wd,We,Wf,Wg,Wh,Wi,Wj,Wk,Wl,Wm,Wn,Zo,Zp,evalT,Nat.reduceLT,Nat.reduceEqDiff,if_true,if_false,reduceIte,Ys,ofVal,ofCell,argT,resT,setT,Y0,Int.reduceEq,Int.reduceLT,Int.reduceLE,Int.reduceNeg,mb,Nat.reduceBEq,tys,stb,Va,storeList,Nat.reduceAdd,Nat.reduceLeDiff,u37',t0,t9,t10,t11,t3,c1,hx,hld,hln,w1,w2,c2]
      exact ⟨⟨by omega, trivial⟩, ps.length - (i + 1), by omega, i + 1, by omega, rfl, rfl, rfl⟩
    · have c1 : ¬ (i : Int) < (ps.length : Int) := by omega
      have hi2 : i = ps.length := by omega
      subst hi2
      rw [List.take_length] at t3
      simp -implicitDefEqProofs only [Wa,Wb,Wc,Wd,We,Wf,Wg,Wh,Wi,Wj,Wk,Wl,Wm,Wn,Zo,Zp,evalT,Nat.reduceLT,Nat.reduceEqDiff,if_true,if_false,reduceIte,Ys,ofVal,ofCell,argT,resT,setT,Y0,Int.reduceEq,Int.reduceLT,Int.reduceLE,Int.reduceNeg,mb,Nat.reduceBEq,tys,stb,Va,storeList,Nat.reduceAdd,Nat.reduceLeDiff,u37',t0,t9,t10,t11,t3,c1,hG]
      refine loop_rule (fun m T D σ => D = [] ∧ T 25 = .row (ps.map (·.1)) ps.length cap ∧ T 26 = .int .i64 ps.length ∧ ∃ (i : Nat) (x : V) (L2 : List AObj), i ≤ ps.length ∧ m = ps.length - i ∧ T 27 = .int .i64 i ∧ T 6 = x ∧ σ = ⟨L2, ts⟩ ∧ Gr L2 L (lens ps) x (cat (ps.take i))) ?_ ps.length _ _ _ ⟨rfl, rfl, rfl, 0, x0, L0, by omega, rfl, rfl, rfl, rfl, g0⟩
      clear t0 t9 t10 t11 t3 c1 hi
      rintro m T D σ ⟨rfl, t25, t26, i, x, L2, hi, rfl, t27, t6, rfl, hg⟩
      refine G_start ?_
      by_cases hlt : i < ps.length
      · have c1 : (i : Int) < (ps.length : Int) := by omega
        have w1 : IntKind.wrap .i64 ((i : Int) + 1) = ((i + 1 : Nat) : Int) := by rw [B.wrap64 (by omega)]; omega
        have ht := lens_take ps i hlt
        have hll2 := lens_le ps (i + 1)
        have hx : vIndexAddr 1 (.row (ps.map (·.1)) ps.length cap) (.int .i64 (i : Int)) = some (.rptr ((ps.map (·.1)).drop (i * 1))) := by
          rw [Ys, if_pos (by omega), Int.toNat_natCast]
        have hld : (ps.map (·.1))[i]? = some ps[i].1 := by simp [hlt]
        obtain ⟨x', L3, hA, hg'⟩ := hg.push (ts := ts) (hp ps[i] (List.getElem_mem hlt)) (by rw [cat_len]; omega) hl
        rw [← cat_take ps i hlt] at hg'
        simp -implicitDefEqProofs only [Wa,Wb,Wc,Wd,We,Wf,Wg,Wh,Wi,Wj,Wk,Wl,Wm,Wn,Zo,Zp,evalT,Nat.reduceLT,Nat.reduceEqDiff,if_true,if_false,reduceIte,Ys,ofVal,ofCell,argT,resT,setT,Y0,Int.reduceEq,Int.reduceLT,Int.reduceLE,Int.reduceNeg,mb,Nat.reduceBEq,tys,stb,Va,storeList,Nat.reduceAdd,Nat.reduceLeDiff,u37',t25,t26,t27,t6,c1,hx,hld,w1,mb55,hA]
        exact ⟨⟨by omega, trivial⟩, ps.length - (i + 1), by omega, i + 1, x', L3, by omega, rfl, rfl, rfl, rfl, hg'⟩
      · have c1 : ¬ (i : Int) < (ps.length : Int) := by omega
        have hi2 : i = ps.length := by omega
        subst hi2
        rw [List.take_length] at hg
        obtain ⟨o1, o2⟩ := hg.own (cat_len ps)
        simp -implicitDefEqProofs only [Wa,Wb,Wc,Wd,We,Wf,Wg,Wh,Wi,Wj,Wk,Wl,Wm,Wn,Zo,Zp,evalT,Nat.reduceLT,Nat.reduceEqDiff,if_true,if_false,reduceIte,Ys,ofVal,ofCell,argT,resT,setT,Y0,Int.reduceEq,Int.reduceLT,Int.reduceLE,Int.reduceNeg,mb,Nat.reduceBEq,tys,stb,Va,storeList,Nat.reduceAdd,Nat.reduceLeDiff,u37',t25,t26,t27,t6,c1]
        exact ⟨L2, rfl, o1, hg.keep, o2⟩
  obtain ⟨v, σ', h1, L', rfl, h2⟩ := hk
  exact ⟨v, L', h1, h2⟩
def bytR (r : Rec) : List UInt8 := fourB (payN r.fs) ++ (payB r ++ fourB (sumF (payB r)).toNat)
theorem sumF_nat (t : List UInt8) : ((sumF t).toNat : Int) = sumF t ∧ (sumF t).toNat < 2 ^ 32 := by
  have key : 0 ≤ sumF t ∧ sumF t < 4294967296 := by
    unfold sumF
    generalize hx : (2166136261 : Int) = x
    have h : 0 ≤ x ∧ x < 4294967296 := by omega
    clear hx
    induction t generalizing x with
    | nil => exact h
    | cons b t ih => exact ih _ (wrap_u32_range _)
  omega
theorem bytR_len (r : Rec) : (bytR r).length = payN r.fs + 8 := by
  unfold bytR
  rw [List.length_append, List.length_append, payB_len]
  simp [fourB]; omega
theorem z47 : zeroV env 44 = some (.agg [.nilsl, .int .i64 0, .int .i8 0]) := by kernel_rfl
theorem chk0 {r : Rec} (h : chkR r = 0) : 0 ≤ r.k ∧ r.k ≤ 255 ∧ r.fs.length ≤ 64 ∧ longF r.fs = false ∧ payN r.fs + 8 ≤ 200000 := by
  unfold chkR at h
  split at h
  · cases h
  · split at h
    · cases h
    · split at h
      · cases h
      · split at h
        · cases h
        · rename_i h1 h2 h3 h4
          exact ⟨by omega, by omega, by omega, by simpa using h3, by omega⟩
theorem row37_3 (a b c : V) (ha : a.cells = [a]) (hb : b.cells = [b]) (hc : c.cells = [c]) : rowO env 68 3 [(0, a), (1, b), (2, c)] = some (.row [a, b, c] 3 .full) :=
  rowN (z := .nilsl) (vs := [a, b, c]) (by kernel_rfl) s26 (by kernel_rfl) rfl (by
    intro v hv
    simp only [List.mem_cons, List.not_mem_nil, or_false] at hv
    rcases hv with rfl | rfl | rfl <;> assumption) (by simp) (by simp) _ rfl
theorem bytes_rec {L : List AObj} {ts : List Nat} {r : Rec} {fv : V} (hf : Fld fv r.fs) (hl : r.fs.length ≤ 2 ^ 38) :
    ∃ v L', callFn env (ev env) 8 [.agg [.int .i64 r.k, fv]] ⟨L, ts⟩ = some (.tup [v, .int .i64 (chkR r)], ⟨L', ts⟩) ∧ Keep L L' ∧ (if chkR r = 0 then Own L' v (bytR r) ∧ New L.length v else v = .nilsl) := by
  have hlast : ∀ o, (L ++ [o])[L.length]? = some o := fun o => by simp
  have hld : ∀ (A : List AObj) (a b : V), A[L.length]? = some (.cells [a, b] 24) → loadCellsV A 2 (.ptr L.length 0) = some [a, b] := fun A a b h => by simp [loadCellsV, h]
  have hld0 := hld _ _ _ (hlast (.cells [.int .i64 r.k, fv] 24))
  obtain ⟨L1, hC, hK⟩ := check_call (L := L ++ [.cells [.int .i64 r.k, fv] 24]) (ts := ts) hf hl
  have hK0 : Keep L L1 := (Keep.app L _).trans hK
  by_cases h0 : chkR r = 0
  · obtain ⟨k0, k1, k2, k3, k4⟩ := chk0 h0
    simp only [h0, if_true]
    have hl1 : L.length + 1 ≤ L1.length := by have := hK.1; simpa using this
    have hbox1 : L1[L.length]? = some (.cells [.int .i64 r.k, fv] 24) := by rw [hK.2 L.length (by simp)]; exact hlast _
    have hBI : BufI L1.length (L1 ++ [.cells [.nilsl, .int .i64 0, .int .i8 0] 44]) [] (fun q => q = L1.length ∨ blkOf V.nilsl = some q) := ⟨.nilsl, 0, by simp, .inl ⟨rfl, rfl⟩, by simp [blkOf], rfl⟩
    obtain ⟨L2, F2, hP, hI, hS⟩ := payload_call (ts := ts) (buffer_sink L1.length) hBI hf k0 (by omega) hl (short_of k3)
    have hk2 := hS.keep (n := L1.length) (fun q hq => by
      rcases hq with rfl | hq
      · exact Nat.le_refl _
      · cases hq) (by simp)
    have hK12 : Keep L1 L2 := ⟨hk2.1, fun q hq => by rw [hk2.2 q hq, List.getElem?_append_left hq]⟩
    obtain ⟨bv, lr, hb1, hb2, hb3, hb4⟩ := hI
    have hpl := payB_len r
    have hbox2 : (L1 ++ [AObj.cells [.nilsl, .int .i64 0, .int .i8 0] 44])[L.length]? = some (.cells [.int .i64 r.k, fv] 24) := by rw [List.getElem?_append_left (by omega)]; exact hbox1
    have hld2 := hld _ _ _ hbox2
    have hLn := len_call (ts := ts) hb1 hb2 (by omega)
    have hBy := bytes_call (ts := ts) hb1 hb2
    have hSm := sum_call (ts := ts) hb2.rd (by omega)
    obtain ⟨n1, n2⟩ := sumF_nat (payB r)
    have hF1 := four_call (payN r.fs) ⟨L2, ts⟩
    have hF2 := four_call (sumF (payB r)).toNat ⟨L2, ts⟩
    rw [n1] at hF2
    rw [hpl] at hLn
    have w1 : IntKind.u32.wrap (payN r.fs : Int) = (payN r.fs : Int) := wrap_u32 (by omega)
    have hcat : cat [(V.row (byteCells (fourB (payN r.fs))) 4 .full, fourB (payN r.fs)), (bv, payB r), (V.row (byteCells (fourB (sumF (payB r)).toNat)) 4 .full, fourB (sumF (payB r)).toNat)] = bytR r := by simp [cat, bytR]
    obtain ⟨x, L3, hX, hO, hK3, hN3⟩ := concats_call (ts := ts) (L := L2) (cap := .full) (ps := [(V.row (byteCells (fourB (payN r.fs))) 4 .full, fourB (payN r.fs)), (bv, payB r), (V.row (byteCells (fourB (sumF (payB r)).toNat)) 4 .full, fourB (sumF (payB r)).toNat)]) (by
      intro p hp
      simp only [List.mem_cons, List.not_mem_nil, or_false] at hp
      rcases hp with rfl | rfl | rfl
      · exact Rd.row L2 (fourB _) .full
      · exact hb2.rd
      · exact Rd.row L2 (fourB _) .full) (by simp [lens, fourB, hpl]; omega) (by simp)
    rw [hcat] at hO
    simp only [List.map_cons, List.map_nil, List.length_cons, List.length_nil, Nat.zero_add, Nat.reduceAdd] at hX
    have hr3 := row37_3 (V.row (byteCells (fourB (payN r.fs))) 4 .full) bv (V.row (byteCells (fourB (sumF (payB r)).toNat)) 4 .full) rfl hb2.rd.cells rfl
    rw [h0] at hC
    refine ⟨x, L3, ?_, (hK0.trans hK12).trans hK3, hO, fun q hq => by have := hN3 q hq; have := hK0.1; have := hK12.1; omega⟩
    refine callFn_eq rfl rfl at8 rfl (by simp [Try.f8]) (by simp [Try.f8]) (G_start ?_)
    simp -implicitDefEqProofs only [Try.f8,Wa,Wb,Wc,Wd,We,Wf,Wg,Wh,Wi,Wj,Wk,Wl,Wm,Wn,Zo,Zp,evalT,Nat.reduceLT,Nat.reduceEqDiff,if_true,if_false,reduceIte,Ys,ofVal,ofCell,argT,resT,setT,Y0,Int.reduceEq,Int.reduceLT,Int.reduceLE,Int.reduceNeg,mb,Nat.reduceBEq,tys,stb,Va,storeList,Nat.reduceAdd,Nat.reduceLeDiff,tyj,vBin_xor,vBin_or,vBin_shl,vBin_shr,agg55,hld0,hC,z47,opT_mkIf,mk92,hld2,hP,hLn,w1,hF1,hBy,hSm,hF2,opT_rowB,hr3,hX]
    exact ⟨rfl, trivial⟩
  · simp only [h0, if_false]
    have h0' := eq_false h0
    refine ⟨.nilsl, L1, ?_, hK0, rfl⟩
    refine callFn_eq rfl rfl at8 rfl (by simp [Try.f8]) (by simp [Try.f8]) (G_start ?_)
    simp -implicitDefEqProofs only [Try.f8,Wa,Wb,Wc,Wd,We,Wf,Wg,Wh,Wi,Wj,Wk,Wl,Wm,Wn,Zo,Zp,evalT,Nat.reduceLT,Nat.reduceEqDiff,if_true,if_false,reduceIte,Ys,ofVal,ofCell,argT,resT,setT,Y0,Int.reduceEq,Int.reduceLT,Int.reduceLE,Int.reduceNeg,mb,Nat.reduceBEq,tys,stb,Va,storeList,Nat.reduceAdd,Nat.reduceLeDiff,tyj,vBin_xor,vBin_or,vBin_shl,vBin_shr,agg55,hld0,hC,h0']
    exact ⟨rfl, trivial⟩
end Go.Proofs.Ytncohjljeoknkaa.D
namespace Go.Proofs.Ytncohjljeoknkaa.D
open Go.Ab
set_option maxHeartbeats 8000000
set_option maxRecDepth 100000
set_option linter.unusedSimpArgs false
set_option linter.unusedVariables false
theorem _root_.Go.Ab.RowT.bytes {ts : List Nat} {v : V} {t : List UInt8} (h : RowT ts 1 v t.length (byteCells t)) (L : List AObj) : Rd L v t := by
  rcases h.or with ⟨rfl, h0, _⟩ | ⟨cap, rfl⟩
  · exact .inl ⟨rfl, List.eq_nil_of_length_eq_zero h0⟩
  · exact Rd.row L t cap
end Go.Proofs.Ytncohjljeoknkaa.D
