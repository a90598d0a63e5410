/- Proved here: bytes in memory, Buffers, the disk's functions. Conditions: those of each theorem; no statement of the seat is proved in this text. -/
import Derived.Test.YtncohjljeoknkaaDoorEnvD
namespace Go.Proofs.YtncohjljeoknkaaDoor.D
open Go.Ab
set_option maxHeartbeats 4000000
set_option maxRecDepth 100000
set_option linter.unusedSimpArgs false
set_option linter.unusedVariables false
set_option linter.unusedSectionVars false
theorem u3 : env.P.underlying 3 = some (.int .i64) := by kernel_rfl
theorem u4 : env.P.underlying 4 = some .bool := by kernel_rfl
theorem u5 : env.P.underlying 5 = some (.int .u8) := by kernel_rfl
theorem u9 : env.P.underlying 9 = some .string := by kernel_rfl
theorem u24 : env.P.underlying 24 = some (.int .i64) := by kernel_rfl
theorem u48 : env.P.underlying 48 = some (.int .i64) := by kernel_rfl
theorem u26 : env.P.underlying 26 = some (.slice 5) := by kernel_rfl
theorem s3 : sz env 3 = some 1 := by kernel_rfl
theorem s4 : sz env 4 = some 1 := by kernel_rfl
theorem s5 : sz env 5 = some 1 := by kernel_rfl
theorem s26 : sz env 26 = some 1 := by kernel_rfl
theorem s45 : sz env 45 = some 1 := by kernel_rfl
theorem s48 : sz env 48 = some 1 := by kernel_rfl
theorem b5 : bys env 5 = some 1 := by kernel_rfl
theorem z5 : zeroN env 5 = some 1 := by kernel_rfl
theorem e26 : elemS env 26 = some 5 := by kernel_rfl
theorem zv5 : zeroV env 5 = some (.int .u8 0) := by kernel_rfl
theorem g26 : aggT env 26 = some false := by kernel_rfl
theorem g3 : aggT env 3 = some false := by kernel_rfl
theorem g4 : aggT env 4 = some false := by kernel_rfl
theorem g48 : aggT env 48 = some false := by kernel_rfl
theorem tys : env.P.underlying 3 = some (.int .i64) ∧ env.P.underlying 4 = some .bool ∧ env.P.underlying 5 = some (.int .u8) ∧ env.P.underlying 9 = some .string ∧ env.P.underlying 24 = some (.int .i64) ∧ env.P.underlying 48 = some (.int .i64) ∧ env.P.underlying 26 = some (.slice 5) ∧ sz env 3 = some 1 ∧ sz env 4 = some 1 ∧ sz env 5 = some 1 ∧ sz env 26 = some 1 ∧ sz env 45 = some 1 ∧ sz env 48 = some 1 ∧
    fldOff env 47 0 = some 0 ∧ fldOff env 47 1 = some 1 ∧ fldOff env 47 2 = some 2 ∧ fldOff env 50 0 = some 0 ∧ fldOff env 50 1 = some 3 ∧ fldOff env 50 2 = some 4 ∧ fldOff env 50 3 = some 5 ∧ fldOff env 43 0 = some 0 ∧ fldOff env 43 1 = some 1 ∧ fldOff env 43 2 = some 2 ∧ fldOff env 43 3 = some 3 ∧
    (∀ h p, aload env h 26 p = (loadCellsV h 1 p).bind (·[0]?)) ∧ (∀ h p, aload env h 3 p = (loadCellsV h 1 p).bind (·[0]?)) ∧ (∀ h p, aload env h 4 p = (loadCellsV h 1 p).bind (·[0]?)) ∧ (∀ h p, aload env h 48 p = (loadCellsV h 1 p).bind (·[0]?)) :=
  ⟨u3, u4, u5, u9, u24, u48, u26, s3, s4, s5, s26, s45, s48, by kernel_rfl, by kernel_rfl, by kernel_rfl, by kernel_rfl, by kernel_rfl, by kernel_rfl, by kernel_rfl, by kernel_rfl, by kernel_rfl, by kernel_rfl, by kernel_rfl, fun _ _ => aload_one g26, fun _ _ => aload_one g3, fun _ _ => aload_one g4, fun _ _ => aload_one g48⟩
theorem mb (f : FuncId) (r : Nat) (h : (f == 57 || f == 55 || f == 73 || f == 52 || f == 5 || f == 77) = false) : env.mutb f r = false := h
theorem stb (f : FuncId) (r : Nat) (h : (f == 52 && r == 0 || f == 17 && r == 3 || f == 28 && r == 4 || f == 27 && r == 4 || f == 30 && r == 3 || f == 33 && r == 1 || f == 34 && r == 1 || f == 32 && r == 3 || f == 6 && r == 29 || f == 4 && r == 19 || f == 11 && (r == 22 || r == 28 || r == 37 || r == 39) || f == 37 && r == 6 || f == 41 && r == 9 || f == 47 && r == 7 || f == 67 && r == 5 || f == 68 && r == 9 || f == 75 && r == 12 || f == 80 && (r == 14 || r == 16)) = false) : env.stab f r = false := h
theorem bytesOf_cells : ∀ s : List UInt8, bytesOf (byteCells s) = some s
  | [] => rfl
  | b :: s => by
    have := bytesOf_cells s
    simp only [byteCells, List.map_cons, bytesOf] at this ⊢
    rw [this]
    simp
theorem byteCells_app (a b : List UInt8) : byteCells (a ++ b) = byteCells a ++ byteCells b := by simp [byteCells]
theorem byteCells_len (a : List UInt8) : (byteCells a).length = a.length := by simp [byteCells]
theorem byteCells_cell (a : List UInt8) : (byteCells a).all V.isCell = true := by simp [byteCells, V.isCell]
theorem byteCells_take (a : List UInt8) (n : Nat) : (byteCells a).take n = byteCells (a.take n) := by simp [byteCells, List.map_take]
def Rd (L : List AObj) (y : V) (t : List UInt8) : Prop :=
  (y = .nilsl ∧ t = []) ∨ (∃ b off cap ex cs, y = .hsl b off t.length cap ex ∧ L[b]? = some (.cells cs 5) ∧ t.length ≤ cap ∧ off + t.length ≤ cs.length ∧ (cs.drop off).take t.length = byteCells t) ∨ (∃ cells cap, y = .row cells t.length cap ∧ t.length ≤ cells.length ∧ cells.take t.length = byteCells t)
theorem Rd.nil (L : List AObj) : Rd L .nilsl [] := .inl ⟨rfl, rfl⟩
theorem Rd.row (L : List AObj) (t : List UInt8) (cap : RCap) : Rd L (.row (byteCells t) t.length cap) t := .inr (.inr ⟨_, _, rfl, by simp [byteCells], by rw [List.take_of_length_le (by simp [byteCells])]⟩)
section
variable {L L' : List AObj} {y : V} {t : List UInt8}
theorem Rd.len (h : Rd L y t) : vLen y = some t.length := by
  rcases h with ⟨rfl, rfl⟩ | ⟨b, off, cap, ex, cs, rfl, _⟩ | ⟨cells, cap, rfl, _⟩ <;> rfl
theorem Rd.lenT (h : Rd L y t) (e : TypeId) : vLenT (some (.slice e)) y = some (.int .i64 t.length) := by
  rcases h with ⟨rfl, rfl⟩ | ⟨b, off, cap, ex, cs, rfl, _⟩ | ⟨cells, cap, rfl, _⟩ <;> rfl
theorem Rd.vcells (h : Rd L y t) : vCells L 1 t.length y = some (byteCells t) := by
  rcases h with ⟨rfl, rfl⟩ | ⟨b, off, cap, ex, cs, rfl, h1, h2, h3, h4⟩ | ⟨cells, cap, rfl, h1, h2⟩
  · rfl
  · simp [vCells, h1, h3, h4]
  · simp [vCells, h1, h2]
theorem Rd.cells (h : Rd L y t) : y.cells = [y] := by
  rcases h with ⟨rfl, rfl⟩ | ⟨b, off, cap, ex, cs, rfl, _⟩ | ⟨cells, cap, rfl, _⟩ <;> rfl
theorem Rd.isCell (h : Rd L y t) : y.isCell = true := by
  rcases h with ⟨rfl, rfl⟩ | ⟨b, off, cap, ex, cs, rfl, _⟩ | ⟨cells, cap, rfl, _⟩ <;> rfl
theorem Rd.lt (h : Rd L y t) {q : Nat} (hq : blkOf y = some q) : q < L.length := by
  rcases h with ⟨rfl, rfl⟩ | ⟨b, off, cap, ex, cs, rfl, h1, _⟩ | ⟨cells, cap, rfl, _⟩
  · cases hq
  · cases hq; exact B.lt_get h1
  · cases hq
theorem Rd.move (h : Rd L y t) (hq : ∀ q, blkOf y = some q → L'[q]? = L[q]?) : Rd L' y t := by
  rcases h with ⟨rfl, rfl⟩ | ⟨b, off, cap, ex, cs, rfl, h1, h2⟩ | ⟨cells, cap, rfl, h1⟩
  · exact .inl ⟨rfl, rfl⟩
  · exact .inr (.inl ⟨b, off, cap, ex, cs, rfl, by rw [hq b rfl]; exact h1, h2⟩)
  · exact .inr (.inr ⟨cells, cap, rfl, h1⟩)
theorem Rd.app (h : Rd L y t) (X : List AObj) : Rd (L ++ X) y t := h.move fun q hq => by rw [List.getElem?_append_left (h.lt hq)]
theorem Rd.set (h : Rd L y t) (b : Nat) (o : AObj) (hb : blkOf y ≠ some b) : Rd (L.set b o) y t := h.move fun q hq => by rw [List.getElem?_set_ne (fun e => hb (by rw [hq, e]))]
theorem Rd.str (h : Rd L y t) (ts : List Nat) : convO env ⟨L, ts⟩ 26 9 (some (.slice 5)) (some .string) y = some (.str t, ⟨L, ts⟩) := by
  have hv := h.vcells
  rcases h with ⟨rfl, rfl⟩ | ⟨b, off, cap, ex, cs, rfl, _⟩ | ⟨cells, cap, rfl, _⟩ <;> simp [convO, convP, convR, u5, hv, bytesOf_cells]
theorem vB {n d cap : Nat} (h : n ≤ cap) : vBound (some (.int .i64 (n : Int))) d cap = some n := by
  have h1 : (n : Int) ≤ (cap : Int) := by omega
  simp [vBound, h1]
theorem Rd.take (h : Rd L y t) {n : Nat} (hn : n ≤ t.length) {lo : Option V} (hlo : lo = none ∨ lo = some (.int .i64 0)) : ∃ y', sliceO env 26 y lo (some (.int .i64 (n : Int))) none = some y' ∧ Rd L y' (t.take n) ∧ blkOf y' = blkOf y := by
  have htl : (t.take n).length = n := by rw [List.length_take]; omega
  have hlo2 : ∀ m, vBound lo 0 m = some 0 := by
    intro m
    rcases hlo with rfl | rfl <;> simp [vBound]
  rcases h with ⟨rfl, rfl⟩ | ⟨b, off, cap, ex, cs, rfl, h1, h2, h3, h4⟩ | ⟨cells, cap, rfl, h1, h2⟩
  · have : n = 0 := by simpa using hn
    subst this
    exact ⟨.nilsl, by simp only [sliceO, u26, s5, vSlice, Option.bind_some, vB (Nat.le_refl 0), hlo2], .inl ⟨rfl, rfl⟩, rfl⟩
  · have key : ∃ ex', sliceO env 26 (.hsl b off t.length cap ex) lo (some (.int .i64 (n : Int))) none = some (.hsl b off n cap ex') := by
      have hnc : n ≤ cap := by omega
      cases ex with
      | exact => exact ⟨.exact, by simp only [sliceO, u26, s5, vSlice, Option.bind_some, vB hnc, hlo2, Nat.zero_mul, Nat.add_zero, Nat.sub_zero, ite_self]⟩
      | least => exact ⟨HCap.least.cut 1, by simp only [sliceO, u26, s5, vSlice, Option.bind_some, vB hnc, hlo2, Nat.zero_mul, Nat.add_zero, Nat.sub_zero, or_true, if_true]⟩
      | grow s => exact ⟨(HCap.grow s).cut 1, by simp only [sliceO, u26, s5, vSlice, Option.bind_some, vB hnc, hlo2, Nat.zero_mul, Nat.add_zero, Nat.sub_zero, or_true, if_true]⟩
      | both s => exact ⟨(HCap.both s).cut 1, by simp only [sliceO, u26, s5, vSlice, Option.bind_some, vB hnc, hlo2, Nat.zero_mul, Nat.add_zero, Nat.sub_zero, or_true, if_true]⟩
    obtain ⟨ex', key⟩ := key
    refine ⟨_, key, .inr (.inl ⟨b, off, cap, ex', cs, by rw [htl], h1, by omega, by omega, ?_⟩), rfl⟩
    rw [htl, ← byteCells_take, ← h4, List.take_take, Nat.min_eq_left hn]
  · refine ⟨.row ((cells.drop (0 * 1)).take ((n - 0) * 1)) (n - 0) (if n = t.length then subCap 1 cap else .unk), by simp only [sliceO, u26, s5, vSlice, Option.bind_some, vB hn, hlo2], .inr (.inr ⟨cells.take n, _, by rw [htl]; simp; rfl, by rw [htl, List.length_take]; omega, ?_⟩), rfl⟩
    rw [htl, List.take_take, Nat.min_self, ← byteCells_take, ← h2, List.take_take, Nat.min_eq_left hn]
end
def Own (L : List AObj) (v : V) (s : List UInt8) : Prop :=
  (v = .nilsl ∧ s = []) ∨ (v = .row [] 0 .full ∧ s = []) ∨ ∃ b, v = .hsl b 0 s.length s.length (.grow 1) ∧ L[b]? = some (.cells (byteCells s) 5)
theorem Own.rd {L : List AObj} {v : V} {s : List UInt8} (h : Own L v s) : Rd L v s := by
  rcases h with ⟨rfl, rfl⟩ | ⟨rfl, rfl⟩ | ⟨b, rfl, hb⟩
  · exact .inl ⟨rfl, rfl⟩
  · exact .inr (.inr ⟨[], .full, rfl, Nat.le_refl _, rfl⟩)
  · exact .inr (.inl ⟨b, 0, s.length, .grow 1, _, rfl, hb, Nat.le_refl _, by rw [byteCells_len]; omega, by rw [List.drop_zero, List.take_of_length_le (by rw [byteCells_len]; exact Nat.le_refl _)]⟩)
theorem Own.move {L L' : List AObj} {v : V} {s : List UInt8} (h : Own L v s) (hq : ∀ q, blkOf v = some q → L'[q]? = L[q]?) : Own L' v s := by
  rcases h with ⟨rfl, rfl⟩ | ⟨rfl, rfl⟩ | ⟨b, rfl, hb⟩
  · exact .inl ⟨rfl, rfl⟩
  · exact .inr (.inl ⟨rfl, rfl⟩)
  · exact .inr (.inr ⟨b, rfl, by rw [hq b rfl]; exact hb⟩)
def From (n : Nat) (v u : V) : Prop := blkOf u = blkOf v ∨ ∃ q, blkOf u = some q ∧ n ≤ q
end Go.Proofs.YtncohjljeoknkaaDoor.D
namespace Go.Proofs.YtncohjljeoknkaaDoor.D
open Go.Ab
set_option maxHeartbeats 4000000
set_option maxRecDepth 100000
set_option linter.unusedSimpArgs false
set_option linter.unusedVariables false
theorem at53 : env.P.funcs[53]? = some Tryd.f53 := by kernel_rfl
theorem at56 : env.P.funcs[56]? = some Tryd.f56 := by kernel_rfl
def BufV (L : List AObj) (v : V) (P : List UInt8) : Prop :=
  (v = .nilsl ∧ P = []) ∨ ∃ k cap cs, v = .hsl k 0 P.length cap (.grow 1) ∧ L[k]? = some (.cells cs 5) ∧ P.length ≤ cap ∧ P.length ≤ cs.length ∧ cs.take P.length = byteCells P
section
variable {L L' : List AObj} {v : V} {P : List UInt8}
theorem BufV.rd (h : BufV L v P) : Rd L v P := by
  rcases h with ⟨rfl, rfl⟩ | ⟨k, cap, cs, rfl, h1, h2, h3, h4⟩
  · exact .inl ⟨rfl, rfl⟩
  · exact .inr (.inl ⟨k, 0, cap, _, cs, rfl, h1, h2, by omega, by rw [List.drop_zero]; exact h4⟩)
theorem BufV.move (h : BufV L v P) (hq : ∀ q, blkOf v = some q → L'[q]? = L[q]?) : BufV L' v P := by
  rcases h with ⟨rfl, rfl⟩ | ⟨k, cap, cs, rfl, h1, h2⟩
  · exact .inl ⟨rfl, rfl⟩
  · exact .inr ⟨k, cap, cs, rfl, by rw [hq k rfl]; exact h1, h2⟩
theorem BufV.all (h : BufV L v P) : sliceO env 26 v (some (.int .i64 0)) none none = some v := by
  rcases h with ⟨rfl, rfl⟩ | ⟨k, cap, cs, rfl, h1, h2, h3, h4⟩
  · simp [sliceO, u26, s5, vSlice, vBound]
  · simp [sliceO, u26, s5, vSlice, vBound, HCap.cut]
end
theorem src_of {L : List AObj} {b : Nat} {y : V} {t : List UInt8} (hy : Rd L y t) (hb : blkOf y ≠ some b) : srcOK b y = true := by
  rcases hy with ⟨rfl, rfl⟩ | ⟨k, off, cap, ex, cs, rfl, _⟩ | ⟨cells, cap, rfl, _⟩
  · rfl
  · simp only [srcOK, bne_iff_ne, ne_eq]
    rintro rfl
    exact hb rfl
  · rfl
theorem get_at (M : List AObj) (p : AObj) (n : Nat) (h : n = M.length) : (M ++ [p])[n]? = some p := by rw [h, List.getElem?_concat_length]
theorem call50 (args : List V) (σ : S) : callFn env (ev env) 50 args σ = bufW args σ := rfl
theorem write_call {L : List AObj} {ts : List Nat} {b : Nat} {T : TypeId} {bv y : V} {lr : Int} {rest : List V} {P t : List UInt8} (hb : L[b]? = some (.cells (bv :: .int .i64 0 :: .int .i8 lr :: rest) T)) (hB : BufV L bv P) (hbk : blkOf bv ≠ some b) (hy : Rd L y t) (hyb : blkOf y ≠ some b) (hl : P.length + t.length ≤ 2 ^ 38) :
    ∃ bv' L', callFn env (ev env) 50 [.ptr b 0, y] ⟨L, ts⟩ = some (.tup [.int .i64 t.length, .nilif], ⟨L', ts⟩) ∧ L'[b]? = some (.cells (bv' :: .int .i64 0 :: .int .i8 0 :: rest) T) ∧ BufV L' bv' (P ++ t) ∧ L.length ≤ L'.length ∧
      (∀ q, q < L.length → q ≠ b → blkOf bv ≠ some q → L'[q]? = L[q]?) ∧ From L.length bv bv' := by
  rw [call50, bufW_eq hb hy.len hy.vcells (src_of hy hyb) (byteCells_cell t)]
  have hbl := B.lt_get hb
  have hg : ∀ o, (L.set b o)[b]? = some o := fun o => List.getElem?_set_self hbl
  unfold bufP
  rcases hB with ⟨rfl, rfl⟩ | ⟨k, cap, cs, rfl, h1, h2, h3, h4⟩
  · simp only
    by_cases h0 : t.length = 0
    · have : t = [] := List.eq_nil_of_length_eq_zero h0
      subst this
      rw [if_pos (show ([] : List UInt8).length = 0 from rfl)]
      exact ⟨.nilsl, _, rfl, hg _, .inl ⟨rfl, rfl⟩, by simp, fun q hq hne _ => by rw [List.getElem?_set_ne (Ne.symm hne)], .inl rfl⟩
    · rw [if_neg h0, if_pos (by simpa using hl)]
      refine ⟨.hsl L.length 0 t.length t.length (.grow 1), _, rfl, B.get_set hbl _ _, .inr ⟨L.length, t.length, byteCells t, by simp, get_last L b _ _, by simp, by simp [byteCells_len], ?_⟩, by simp, fun q hq hne _ => ?_, .inr ⟨L.length, rfl, Nat.le_refl _⟩⟩
      · rw [List.nil_append, List.take_of_length_le (by rw [byteCells_len]; exact Nat.le_refl _)]
      · rw [List.getElem?_append_left (by simpa using hq), List.getElem?_set_ne (Ne.symm hne)]
  · have hkb : b ≠ k := fun e => hbk (by rw [e]; rfl)
    have hkl := B.lt_get h1
    have hcell : (cs.take P.length).all V.isCell = true := by rw [h4]; exact byteCells_cell P
    simp only [h1]
    rw [if_pos ⟨trivial, trivial, trivial, hkb, h2, h3, hl, hcell⟩]
    by_cases h0 : t.length = 0
    · have : t = [] := List.eq_nil_of_length_eq_zero h0
      subst this
      rw [if_pos (show ([] : List UInt8).length = 0 from rfl), List.append_nil]
      exact ⟨.hsl k 0 P.length cap (.grow 1), _, rfl, hg _, .inr ⟨k, cap, cs, rfl, by rw [List.getElem?_set_ne hkb]; exact h1, h2, h3, h4⟩, by simp, fun q hq hne _ => by rw [List.getElem?_set_ne (Ne.symm hne)], .inl rfl⟩
    · rw [if_neg h0]
      refine ⟨.hsl L.length 0 (P.length + t.length) (P.length + t.length) (.grow 1), _, rfl, ?_, .inr ⟨L.length, P.length + t.length, cs.take P.length ++ byteCells t, by simp, ?_, by simp, ?_, ?_⟩, by simp, fun q hq hne hqk => ?_, .inr ⟨L.length, rfl, Nat.le_refl _⟩⟩
      · rw [List.getElem?_append_left (by simpa using hbl), List.getElem?_set_ne (Ne.symm hkb)]; exact hg _
      · exact get_at _ _ _ (by simp)
      · rw [h4, ← byteCells_app, byteCells_len]; exact Nat.le_refl _
      · rw [h4, ← byteCells_app, List.take_of_length_le (by rw [byteCells_len]; exact Nat.le_refl _)]
      · rw [List.getElem?_append_left (by simpa using hq), List.getElem?_set_ne (fun e => hqk (by rw [e]; rfl)), List.getElem?_set_ne (Ne.symm hne)]
section
variable {L : List AObj} {ts : List Nat} {b : Nat} {T : TypeId} {bv : V} {y1 : V} {lr o : Int} {rest : List V} {P : List UInt8}
theorem len_call (hb : L[b]? = some (.cells (bv :: .int .i64 0 :: y1 :: rest) T)) (hB : BufV L bv P) (hl : P.length ≤ 2 ^ 39) : callFn env (ev env) 53 [.ptr b 0] ⟨L, ts⟩ = some (.int .i64 P.length, ⟨L, ts⟩) := by
  refine callFn_eq rfl rfl at53 rfl (by simp [Tryd.f53]) (by simp [Tryd.f53]) (G_start ?_)
  have hw : IntKind.wrap .i64 ((P.length : Int) - 0) = (P.length : Int) := by rw [B.wrap64 (by omega)]; omega
  simp -implicitDefEqProofs only [Tryd.f53,Wa,Wb,Wc,Wd,We,Wf,Wg,Wh,Wi,Wj,Wk,Wl,Wm,Wn,Zo,Zp,evalT,Nat.reduceLT,Nat.reduceEqDiff,if_true,if_false,reduceIte,Ys,ofVal,ofCell,argT,resT,setT,Y0,Int.reduceEq,Int.reduceLT,Int.reduceLE,Int.reduceNeg,mb,Nat.reduceBEq,tys,stb,Va,storeList,Nat.reduceAdd,Nat.reduceLeDiff,opT_nilCheck,nilO_ptr,hb,hB.rd.lenT,hw]
  exact ⟨by kernel_rfl, rfl, trivial⟩
theorem bytes_call (hb : L[b]? = some (.cells (bv :: .int .i64 0 :: y1 :: rest) T)) (hB : BufV L bv P) : callFn env (ev env) 56 [.ptr b 0] ⟨L, ts⟩ = some (bv, ⟨L, ts⟩) := by
  refine callFn_eq rfl rfl at56 rfl (by simp [Tryd.f56]) (by simp [Tryd.f56]) (G_start ?_)
  simp -implicitDefEqProofs only [Tryd.f56,Wa,Wb,Wc,Wd,We,Wf,Wg,Wh,Wi,Wj,Wk,Wl,Wm,Wn,Zo,Zp,evalT,Nat.reduceLT,Nat.reduceEqDiff,if_true,if_false,reduceIte,Ys,ofVal,ofCell,argT,resT,setT,Y0,Int.reduceEq,Int.reduceLT,Int.reduceLE,Int.reduceNeg,mb,Nat.reduceBEq,tys,stb,Va,storeList,Nat.reduceAdd,Nat.reduceLeDiff,opT_nilCheck,nilO_ptr,hb,opT_slice,optO_none,optO_some,hB.all]
  exact ⟨by kernel_rfl, rfl, trivial⟩
end
end Go.Proofs.YtncohjljeoknkaaDoor.D
namespace Go.Proofs.YtncohjljeoknkaaDoor.D
open Go.Ab
set_option maxHeartbeats 4000000
set_option maxRecDepth 100000
set_option linter.unusedSimpArgs false
set_option linter.unusedVariables false
structure DS where
  D : List UInt8
  P : List UInt8
  left : Int
  stop : Bool
def stI (b : Bool) : Int := if b then 2 else 1
structure Dk (L : List AObj) (d : Nat) (s : DS) (bv dv : V) (lr : Int) : Prop where
  cell : L[d]? = some (.cells [bv, .int .i64 0, .int .i8 lr, dv, .int .i64 s.left, .int .i64 (stI s.stop)] 50)
  buf : BufV L bv s.P
  dur : Own L dv s.D
  bd : blkOf bv ≠ some d
  dd : blkOf dv ≠ some d
  bdv : ∀ q, blkOf bv = some q → blkOf dv ≠ some q
def Disk (L : List AObj) (d : Nat) (s : DS) (F : Nat → Prop) : Prop := ∃ bv dv lr, Dk L d s bv dv lr ∧ F = fun q => q = d ∨ blkOf bv = some q ∨ blkOf dv = some q
def Step (L L' : List AObj) (F F' : Nat → Prop) : Prop := L.length ≤ L'.length ∧ (∀ q, q < L.length → ¬ F q → L'[q]? = L[q]?) ∧ ∀ q, F' q → F q ∨ L.length ≤ q
theorem Step.refl (L : List AObj) (F : Nat → Prop) : Step L L F F := ⟨Nat.le_refl _, fun _ _ _ => rfl, fun _ h => .inl h⟩
theorem Step.trans {L L' L'' : List AObj} {F F' F'' : Nat → Prop} (h : Step L L' F F') (k : Step L' L'' F' F'') : Step L L'' F F'' := by
  obtain ⟨h1, h2, h3⟩ := h
  obtain ⟨k1, k2, k3⟩ := k
  refine ⟨by omega, fun q hq hn => ?_, fun q hq => ?_⟩
  · rw [k2 q (by omega) (fun hf => by rcases h3 q hf with h | h; exact hn h; omega)]
    exact h2 q hq hn
  · rcases k3 q hq with h | h
    · exact h3 q h
    · exact .inr (by omega)
theorem Disk.lt {L : List AObj} {d : Nat} {s : DS} {F : Nat → Prop} (h : Disk L d s F) {q : Nat} (hq : F q) : q < L.length := by
  obtain ⟨bv, dv, lr, hk, rfl⟩ := h
  rcases hq with rfl | hq | hq
  · exact B.lt_get hk.cell
  · exact hk.buf.rd.lt hq
  · exact hk.dur.rd.lt hq
theorem Disk.move {L L' : List AObj} {d : Nat} {s : DS} {F : Nat → Prop} (h : Disk L d s F) (hq : ∀ q, F q → L'[q]? = L[q]?) : Disk L' d s F := by
  obtain ⟨bv, dv, lr, hk, rfl⟩ := h
  exact ⟨bv, dv, lr, ⟨by rw [hq d (.inl rfl)]; exact hk.cell, hk.buf.move fun q h => hq q (.inr (.inl h)), hk.dur.move fun q h => hq q (.inr (.inr h)), hk.bd, hk.dd, hk.bdv⟩, rfl⟩
theorem Disk.app {L : List AObj} {d : Nat} {s : DS} {F : Nat → Prop} (h : Disk L d s F) (X : List AObj) : Disk (L ++ X) d s F := h.move fun q hq => by rw [List.getElem?_append_left (h.lt hq)]
section
variable {L : List AObj} {ts : List Nat} {d : Nat} {s : DS} {bv dv : V} {lr : Int} {F : Nat → Prop}
theorem step_set (o : AObj) (hF : F d) : Step L (L.set d o) F F := ⟨by simp, fun q _ hn => by rw [List.getElem?_set_ne (fun e => hn (by rw [← e]; exact hF))], fun q h => .inl h⟩
end
end Go.Proofs.YtncohjljeoknkaaDoor.D
namespace Go.Proofs.YtncohjljeoknkaaDoor.D
open Go.Ab
set_option maxHeartbeats 4000000
set_option maxRecDepth 100000
set_option linter.unusedSimpArgs false
set_option linter.unusedVariables false
end Go.Proofs.YtncohjljeoknkaaDoor.D
namespace Go.Proofs.YtncohjljeoknkaaDoor.D
open Go.Ab
set_option maxHeartbeats 4000000
set_option maxRecDepth 100000
set_option linter.unusedSimpArgs false
set_option linter.unusedVariables false
section
variable {L : List AObj} {ts : List Nat} {d : Nat} {s : DS} {bv dv : V} {lr : Int}
end
end Go.Proofs.YtncohjljeoknkaaDoor.D
