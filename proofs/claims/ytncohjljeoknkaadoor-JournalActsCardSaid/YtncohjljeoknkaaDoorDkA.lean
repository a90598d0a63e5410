/- Proved here: bytes in memory, Buffers, the disk's functions. Conditions: those of each theorem; no statement of the seat is proved in this text. -/
import Derived.Test.YtncohjljeoknkaaDoorEnvD
namespace Go.Proofs.YtncohjljeoknkaaDoor.D
open Go.Ab
set_option maxHeartbeats 4000000
set_option maxRecDepth 100000
set_option linter.unusedSimpArgs false
set_option linter.unusedVariables false
set_option linter.unusedSectionVars false
theorem u3 : env.P.underlying 3 = some (.int .i64) := by kernel_rfl
theorem u4 : env.P.underlying 4 = some .bool := by kernel_rfl
theorem u5 : env.P.underlying 5 = some (.int .u8) := by kernel_rfl
theorem u9 : env.P.underlying 9 = some .string := by kernel_rfl
theorem u24 : env.P.underlying 24 = some (.int .i64) := by kernel_rfl
theorem u48 : env.P.underlying 48 = some (.int .i64) := by kernel_rfl
theorem u26 : env.P.underlying 26 = some (.slice 5) := by kernel_rfl
theorem s3 : sz env 3 = some 1 := by kernel_rfl
theorem s4 : sz env 4 = some 1 := by kernel_rfl
theorem s5 : sz env 5 = some 1 := by kernel_rfl
theorem s26 : sz env 26 = some 1 := by kernel_rfl
theorem s45 : sz env 45 = some 1 := by kernel_rfl
theorem s48 : sz env 48 = some 1 := by kernel_rfl
theorem b5 : bys env 5 = some 1 := by kernel_rfl
theorem z5 : zeroN env 5 = some 1 := by kernel_rfl
theorem e26 : elemS env 26 = some 5 := by kernel_rfl
theorem zv5 : zeroV env 5 = some (.int .u8 0) := by kernel_rfl
theorem g26 : aggT env 26 = some false := by kernel_rfl
theorem g3 : aggT env 3 = some false := by kernel_rfl
theorem g4 : aggT env 4 = some false := by kernel_rfl
theorem g48 : aggT env 48 = some false := by kernel_rfl
theorem tys : env.P.underlying 3 = some (.int .i64) ∧ env.P.underlying 4 = some .bool ∧ env.P.underlying 5 = some (.int .u8) ∧ env.P.underlying 9 = some .string ∧ env.P.underlying 24 = some (.int .i64) ∧ env.P.underlying 48 = some (.int .i64) ∧ env.P.underlying 26 = some (.slice 5) ∧ sz env 3 = some 1 ∧ sz env 4 = some 1 ∧ sz env 5 = some 1 ∧ sz env 26 = some 1 ∧ sz env 45 = some 1 ∧ sz env 48 = some 1 ∧
    fldOff env 47 0 = some 0 ∧ fldOff env 47 1 = some 1 ∧ fldOff env 47 2 = some 2 ∧ fldOff env 50 0 = some 0 ∧ fldOff env 50 1 = some 3 ∧ fldOff env 50 2 = some 4 ∧ fldOff env 50 3 = some 5 ∧ fldOff env 43 0 = some 0 ∧ fldOff env 43 1 = some 1 ∧ fldOff env 43 2 = some 2 ∧ fldOff env 43 3 = some 3 ∧
    (∀ h p, aload env h 26 p = (loadCellsV h 1 p).bind (·[0]?)) ∧ (∀ h p, aload env h 3 p = (loadCellsV h 1 p).bind (·[0]?)) ∧ (∀ h p, aload env h 4 p = (loadCellsV h 1 p).bind (·[0]?)) ∧ (∀ h p, aload env h 48 p = (loadCellsV h 1 p).bind (·[0]?)) :=
  ⟨u3, u4, u5, u9, u24, u48, u26, s3, s4, s5, s26, s45, s48, by kernel_rfl, by kernel_rfl, by kernel_rfl, by kernel_rfl, by kernel_rfl, by kernel_rfl, by kernel_rfl, by kernel_rfl, by kernel_rfl, by kernel_rfl, by kernel_rfl, fun _ _ => aload_one g26, fun _ _ => aload_one g3, fun _ _ => aload_one g4, fun _ _ => aload_one g48⟩
theorem mb (f : FuncId) (r : Nat) (h : (f == 57 || f == 55 || f == 73 || f == 52 || f == 5 || f == 77) = false) : env.mutb f r = false := h
theorem stb (f : FuncId) (r : Nat) (h : (f == 52 && r == 0 || f == 17 && r == 3 || f == 28 && r == 4 || f == 27 && r == 4 || f == 30 && r == 3 || f == 33 && r == 1 || f == 34 && r == 1 || f == 32 && r == 3 || f == 6 && r == 29 || f == 4 && r == 19 || f == 11 && (r == 22 || r == 28 || r == 37 || r == 39) || f == 37 && r == 6 || f == 41 && r == 9 || f == 47 && r == 7 || f == 67 && r == 5 || f == 68 && r == 9 || f == 75 && r == 12 || f == 80 && (r == 14 || r == 16)) = false) : env.stab f r = false := h
theorem bytesOf_cells : ∀ s : List UInt8, bytesOf (byteCells s) = some s
  | [] => rfl
  | b :: s => by
    have := bytesOf_cells s
    simp only [byteCells, List.map_cons, bytesOf] at this ⊢
    rw [this]
    simp
theorem byteCells_app (a b : List UInt8) : byteCells (a ++ b) = byteCells a ++ byteCells b := by simp [byteCells]
theorem byteCells_len (a : List UInt8) : (byteCells a).length = a.length := by simp [byteCells]
theorem byteCells_cell (a : List UInt8) : (byteCells a).all V.isCell = true := by simp [byteCells, V.isCell]
theorem byteCells_take (a : List UInt8) (n : Nat) : (byteCells a).take n = byteCells (a.take n) := by simp [byteCells, List.map_take]
def Rd (L : List AObj) (y : V) (t : List UInt8) : Prop :=
  (y = .nilsl ∧ t = []) ∨ (∃ b off cap ex cs, y = .hsl b off t.length cap ex ∧ L[b]? = some (.cells cs 5) ∧ t.length ≤ cap ∧ off + t.length ≤ cs.length ∧ (cs.drop off).take t.length = byteCells t) ∨ (∃ cells cap, y = .row cells t.length cap ∧ t.length ≤ cells.length ∧ cells.take t.length = byteCells t)
theorem Rd.nil (L : List AObj) : Rd L .nilsl [] := .inl ⟨rfl, rfl⟩
theorem Rd.row (L : List AObj) (t : List UInt8) (cap : RCap) : Rd L (.row (byteCells t) t.length cap) t := .inr (.inr ⟨_, _, rfl, by simp [byteCells], by rw [List.take_of_length_le (by simp [byteCells])]⟩)
section
variable {L L' : List AObj} {y : V} {t : List UInt8}
theorem Rd.len (h : Rd L y t) : vLen y = some t.length := by
  rcases h with ⟨rfl, rfl⟩ | ⟨b, off, cap, ex, cs, rfl, _⟩ | ⟨cells, cap, rfl, _⟩ <;> rfl
theorem Rd.lenT (h : Rd L y t) (e : TypeId) : vLenT (some (.slice e)) y = some (.int .i64 t.length) := by
  rcases h with ⟨rfl, rfl⟩ | ⟨b, off, cap, ex, cs, rfl, _⟩ | ⟨cells, cap, rfl, _⟩ <;> rfl
theorem Rd.vcells (h : Rd L y t) : vCells L 1 t.length y = some (byteCells t) := by
  rcases h with ⟨rfl, rfl⟩ | ⟨b, off, cap, ex, cs, rfl, h1, h2, h3, h4⟩ | ⟨cells, cap, rfl, h1, h2⟩
  · rfl
  · simp [vCells, h1, h3, h4]
  · simp [vCells, h1, h2]
theorem Rd.cells (h : Rd L y t) : y.cells = [y] := by
  rcases h with ⟨rfl, rfl⟩ | ⟨b, off, cap, ex, cs, rfl, _⟩ | ⟨cells, cap, rfl, _⟩ <;> rfl
theorem Rd.isCell (h : Rd L y t) : y.isCell = true := by
  rcases h with ⟨rfl, rfl⟩ | ⟨b, off, cap, ex, cs, rfl, _⟩ | ⟨cells, cap, rfl, _⟩ <;> rfl
theorem Rd.lt (h : Rd L y t) {q : Nat} (hq : blkOf y = some q) : q < L.length := by
  rcases h with ⟨rfl, rfl⟩ | ⟨b, off, cap, ex, cs, rfl, h1, _⟩ | ⟨cells, cap, rfl, _⟩
  · cases hq
  · cases hq; exact B.lt_get h1
  · cases hq
theorem Rd.move (h : Rd L y t) (hq : ∀ q, blkOf y = some q → L'[q]? = L[q]?) : Rd L' y t := by
  rcases h with ⟨rfl, rfl⟩ | ⟨b, off, cap, ex, cs, rfl, h1, h2⟩ | ⟨cells, cap, rfl, h1⟩
  · exact .inl ⟨rfl, rfl⟩
  · exact .inr (.inl ⟨b, off, cap, ex, cs, rfl, by rw [hq b rfl]; exact h1, h2⟩)
  · exact .inr (.inr ⟨cells, cap, rfl, h1⟩)
theorem Rd.app (h : Rd L y t) (X : List AObj) : Rd (L ++ X) y t := h.move fun q hq => by rw [List.getElem?_append_left (h.lt hq)]
theorem Rd.set (h : Rd L y t) (b : Nat) (o : AObj) (hb : blkOf y ≠ some b) : Rd (L.set b o) y t := h.move fun q hq => by rw [List.getElem?_set_ne (fun e => hb (by rw [hq, e]))]
theorem Rd.str (h : Rd L y t) (ts : List Nat) : convO env ⟨L, ts⟩ 26 9 (some (.slice 5)) (some .string) y = some (.str t, ⟨L, ts⟩) := by
  have hv := h.vcells
  rcases h with ⟨rfl, rfl⟩ | ⟨b, off, cap, ex, cs, rfl, _⟩ | ⟨cells, cap, rfl, _⟩ <;> simp [convO, convP, convR, u5, hv, bytesOf_cells]
theorem vB {n d cap : Nat} (h : n ≤ cap) : vBound (some (.int .i64 (n : Int))) d cap = some n := by
  have h1 : (n : Int) ≤ (cap : Int) := by omega
  simp [vBound, h1]
theorem Rd.take (h : Rd L y t) {n : Nat} (hn : n ≤ t.length) {lo : Option V} (hlo : lo = none ∨ lo = some (.int .i64 0)) : ∃ y', sliceO env 26 y lo (some (.int .i64 (n : Int))) none = some y' ∧ Rd L y' (t.take n) ∧ blkOf y' = blkOf y := by
  have htl : (t.take n).length = n := by rw [List.length_take]; omega
  have hlo2 : ∀ m, vBound lo 0 m = some 0 := by
    intro m
    rcases hlo with rfl | rfl <;> simp [vBound]
  rcases h with ⟨rfl, rfl⟩ | ⟨b, off, cap, ex, cs, rfl, h1, h2, h3, h4⟩ | ⟨cells, cap, rfl, h1, h2⟩
  · have : n = 0 := by simpa using hn
    subst this
    exact ⟨.nilsl, by simp only [sliceO, u26, s5, vSlice, Option.bind_some, vB (Nat.le_refl 0), hlo2], .inl ⟨rfl, rfl⟩, rfl⟩
  · have key : ∃ ex', sliceO env 26 (.hsl b off t.length cap ex) lo (some (.int .i64 (n : Int))) none = some (.hsl b off n cap ex') := by
      have hnc : n ≤ cap := by omega
      cases ex with
      | exact => exact ⟨.exact, by simp only [sliceO, u26, s5, vSlice, Option.bind_some, vB hnc, hlo2, Nat.zero_mul, Nat.add_zero, Nat.sub_zero, ite_self]⟩
      | least => exact ⟨HCap.least.cut 1, by simp only [sliceO, u26, s5, vSlice, Option.bind_some, vB hnc, hlo2, Nat.zero_mul, Nat.add_zero, Nat.sub_zero, or_true, if_true]⟩
      | grow s => exact ⟨(HCap.grow s).cut 1, by simp only [sliceO, u26, s5, vSlice, Option.bind_some, vB hnc, hlo2, Nat.zero_mul, Nat.add_zero, Nat.sub_zero, or_true, if_true]⟩
      | both s => exact ⟨(HCap.both s).cut 1, by simp only [sliceO, u26, s5, vSlice, Option.bind_some, vB hnc, hlo2, Nat.zero_mul, Nat.add_zero, Nat.sub_zero, or_true, if_true]⟩
    obtain ⟨ex', key⟩ := key
    refine ⟨_, key, .inr (.inl ⟨b, off, cap, ex', cs, by rw [htl], h1, by omega, by omega, ?_⟩), rfl⟩
    rw [htl, ← byteCells_take, ← h4, List.take_take, Nat.min_eq_left hn]
  · refine ⟨.row ((cells.drop (0 * 1)).take ((n - 0) * 1)) (n - 0) (if n = t.length then subCap 1 cap else .unk), by simp only [sliceO, u26, s5, vSlice, Option.bind_some, vB hn, hlo2], .inr (.inr ⟨cells.take n, _, by rw [htl]; simp; rfl, by rw [htl, List.length_take]; omega, ?_⟩), rfl⟩
    rw [htl, List.take_take, Nat.min_self, ← byteCells_take, ← h2, List.take_take, Nat.min_eq_left hn]
end
def Own (L : List AObj) (v : V) (s : List UInt8) : Prop :=
  (v = .nilsl ∧ s = []) ∨ (v = .row [] 0 .full ∧ s = []) ∨ ∃ b, v = .hsl b 0 s.length s.length (.grow 1) ∧ L[b]? = some (.cells (byteCells s) 5)
theorem Own.rd {L : List AObj} {v : V} {s : List UInt8} (h : Own L v s) : Rd L v s := by
  rcases h with ⟨rfl, rfl⟩ | ⟨rfl, rfl⟩ | ⟨b, rfl, hb⟩
  · exact .inl ⟨rfl, rfl⟩
  · exact .inr (.inr ⟨[], .full, rfl, Nat.le_refl _, rfl⟩)
  · exact .inr (.inl ⟨b, 0, s.length, .grow 1, _, rfl, hb, Nat.le_refl _, by rw [byteCells_len]; omega, by rw [List.drop_zero, List.take_of_length_le (by rw [byteCells_len]; exact Nat.le_refl _)]⟩)
theorem Own.move {L L' : List AObj} {v : V} {s : List UInt8} (h : Own L v s) (hq : ∀ q, blkOf v = some q → L'[q]? = L[q]?) : Own L' v s := by
  rcases h with ⟨rfl, rfl⟩ | ⟨rfl, rfl⟩ | ⟨b, rfl, hb⟩
  · exact .inl ⟨rfl, rfl⟩
  · exact .inr (.inl ⟨rfl, rfl⟩)
  · exact .inr (.inr ⟨b, rfl, by rw [hq b rfl]; exact hb⟩)
def From (n : Nat) (v u : V) : Prop := blkOf u = blkOf v ∨ ∃ q, blkOf u = some q ∧ n ≤ q
theorem app_own {L : List AObj} {ts : List Nat} {x y : V} {s t : List UInt8} (hx : Own L x s) (hy : Rd L y t) (hl : s.length + t.length ≤ 2 ^ 38) :
    ∃ x' L', appO env true ⟨L, ts⟩ 26 26 x y = some (x', ⟨L', ts⟩) ∧ Own L' x' (s ++ t) ∧ L.length ≤ L'.length ∧ (∀ q, q < L.length → blkOf x ≠ some q → L'[q]? = L[q]?) ∧ From L.length x x' := by
  have hc := hy.vcells
  have hlim : (s.length + t.length) * 1 ≤ lim ∧ s.length + t.length ≤ lim := by unfold lim; omega
  simp only [appO, e26, s5, b5, z5, u26, Option.bind_some, hy.len, hc, if_true]
  by_cases h0 : t.length = 0
  · have : t = [] := List.eq_nil_of_length_eq_zero h0
    subst this
    refine ⟨x, L, ?_, by simpa using hx, Nat.le_refl _, fun q _ _ => rfl, .inl rfl⟩
    rcases hx with ⟨rfl, rfl⟩ | ⟨rfl, rfl⟩ | ⟨b, rfl, hb⟩ <;> simp [aappend]
  · have hcell := byteCells_cell t
    have hnew : ∀ (o : AObj), (L ++ [o])[L.length]? = some o := fun o => by simp
    rcases hx with ⟨rfl, rfl⟩ | ⟨rfl, rfl⟩ | ⟨b, rfl, hb⟩
    · refine ⟨.hsl L.length 0 t.length t.length (.grow 1), L ++ [.cells (byteCells t) 5], ?_, .inr (.inr ⟨L.length, by simp, by simp⟩), by simp, fun q hq _ => by rw [List.getElem?_append_left hq], .inr ⟨L.length, rfl, Nat.le_refl _⟩⟩
      simp only [List.length_nil, Nat.zero_add] at hlim
      simp [aappend, h0, hlim, S.push]
    · refine ⟨.hsl L.length 0 t.length t.length (.grow 1), L ++ [.cells (byteCells t) 5], ?_, .inr (.inr ⟨L.length, by simp, by simp⟩), by simp, fun q hq _ => by rw [List.getElem?_append_left hq], .inr ⟨L.length, rfl, Nat.le_refl _⟩⟩
      simp only [List.length_nil, Nat.zero_add] at hlim
      simp [aappend, h0, hlim, hcell, S.push]
    · refine ⟨.hsl L.length 0 (s.length + t.length) (s.length + t.length) (.grow 1), L.set b .dead ++ [.cells (byteCells s ++ byteCells t) 5], ?_, .inr (.inr ⟨L.length, by simp, by rw [byteCells_app]; exact get_last L b _ _⟩), by simp, fun q hq hne => ?_, .inr ⟨L.length, rfl, Nat.le_refl _⟩⟩
      · have h1 : ¬ s.length + t.length ≤ s.length := by omega
        have h2 : ¬ (HCap.grow 1 = HCap.exact) := by simp
        have e1 : (byteCells s).take (s.length * 1) = byteCells s := by rw [List.take_of_length_le (by rw [byteCells_len]; omega)]
        have e2 : s.length * 1 ≤ (byteCells s).length := by rw [byteCells_len]; omega
        simp only [aappend, h1, if_false, h2, false_and, hlim, hcell, and_self, if_true, hb, e1, e2, S.push, S.set]
      · rw [List.getElem?_append_left (by simpa using hq), List.getElem?_set_ne (fun e => hne (by rw [e]; rfl))]
end Go.Proofs.YtncohjljeoknkaaDoor.D
namespace Go.Proofs.YtncohjljeoknkaaDoor.D
open Go.Ab
set_option maxHeartbeats 4000000
set_option maxRecDepth 100000
set_option linter.unusedSimpArgs false
set_option linter.unusedVariables false
theorem at53 : env.P.funcs[53]? = some Tryd.f53 := by kernel_rfl
theorem at56 : env.P.funcs[56]? = some Tryd.f56 := by kernel_rfl
theorem at71 : env.P.funcs[71]? = some Tryd.f71 := by kernel_rfl
theorem at72 : env.P.funcs[72]? = some Tryd.f72 := by kernel_rfl
def BufV (L : List AObj) (v : V) (P : List UInt8) : Prop :=
  (v = .nilsl ∧ P = []) ∨ ∃ k cap cs, v = .hsl k 0 P.length cap (.grow 1) ∧ L[k]? = some (.cells cs 5) ∧ P.length ≤ cap ∧ P.length ≤ cs.length ∧ cs.take P.length = byteCells P
section
variable {L L' : List AObj} {v : V} {P : List UInt8}
theorem BufV.rd (h : BufV L v P) : Rd L v P := by
  rcases h with ⟨rfl, rfl⟩ | ⟨k, cap, cs, rfl, h1, h2, h3, h4⟩
  · exact .inl ⟨rfl, rfl⟩
  · exact .inr (.inl ⟨k, 0, cap, _, cs, rfl, h1, h2, by omega, by rw [List.drop_zero]; exact h4⟩)
theorem BufV.move (h : BufV L v P) (hq : ∀ q, blkOf v = some q → L'[q]? = L[q]?) : BufV L' v P := by
  rcases h with ⟨rfl, rfl⟩ | ⟨k, cap, cs, rfl, h1, h2⟩
  · exact .inl ⟨rfl, rfl⟩
  · exact .inr ⟨k, cap, cs, rfl, by rw [hq k rfl]; exact h1, h2⟩
theorem BufV.cut0 (h : BufV L v P) : ∃ v', sliceO env 26 v none (some (.int .i64 0)) none = some v' ∧ BufV L v' [] ∧ blkOf v' = blkOf v ∧ v'.cells = [v'] ∧ v'.isCell = true := by
  rcases h with ⟨rfl, rfl⟩ | ⟨k, cap, cs, rfl, h1, h2, h3, h4⟩
  · exact ⟨.nilsl, by simp [sliceO, u26, s5, vSlice, vBound], .inl ⟨rfl, rfl⟩, rfl, rfl, rfl⟩
  · exact ⟨.hsl k 0 0 cap (.grow 1), by simp [sliceO, u26, s5, vSlice, vBound, HCap.cut], .inr ⟨k, cap, cs, rfl, h1, Nat.zero_le _, Nat.zero_le _, rfl⟩, rfl, rfl, rfl⟩
theorem BufV.all (h : BufV L v P) : sliceO env 26 v (some (.int .i64 0)) none none = some v := by
  rcases h with ⟨rfl, rfl⟩ | ⟨k, cap, cs, rfl, h1, h2, h3, h4⟩
  · simp [sliceO, u26, s5, vSlice, vBound]
  · simp [sliceO, u26, s5, vSlice, vBound, HCap.cut]
end
theorem src_of {L : List AObj} {b : Nat} {y : V} {t : List UInt8} (hy : Rd L y t) (hb : blkOf y ≠ some b) : srcOK b y = true := by
  rcases hy with ⟨rfl, rfl⟩ | ⟨k, off, cap, ex, cs, rfl, _⟩ | ⟨cells, cap, rfl, _⟩
  · rfl
  · simp only [srcOK, bne_iff_ne, ne_eq]
    rintro rfl
    exact hb rfl
  · rfl
theorem get_at (M : List AObj) (p : AObj) (n : Nat) (h : n = M.length) : (M ++ [p])[n]? = some p := by rw [h, List.getElem?_concat_length]
theorem call50 (args : List V) (σ : S) : callFn env (ev env) 50 args σ = bufW args σ := rfl
theorem write_call {L : List AObj} {ts : List Nat} {b : Nat} {T : TypeId} {bv y : V} {lr : Int} {rest : List V} {P t : List UInt8} (hb : L[b]? = some (.cells (bv :: .int .i64 0 :: .int .i8 lr :: rest) T)) (hB : BufV L bv P) (hbk : blkOf bv ≠ some b) (hy : Rd L y t) (hyb : blkOf y ≠ some b) (hl : P.length + t.length ≤ 2 ^ 38) :
    ∃ bv' L', callFn env (ev env) 50 [.ptr b 0, y] ⟨L, ts⟩ = some (.tup [.int .i64 t.length, .nilif], ⟨L', ts⟩) ∧ L'[b]? = some (.cells (bv' :: .int .i64 0 :: .int .i8 0 :: rest) T) ∧ BufV L' bv' (P ++ t) ∧ L.length ≤ L'.length ∧
      (∀ q, q < L.length → q ≠ b → blkOf bv ≠ some q → L'[q]? = L[q]?) ∧ From L.length bv bv' := by
  rw [call50, bufW_eq hb hy.len hy.vcells (src_of hy hyb) (byteCells_cell t)]
  have hbl := B.lt_get hb
  have hg : ∀ o, (L.set b o)[b]? = some o := fun o => List.getElem?_set_self hbl
  unfold bufP
  rcases hB with ⟨rfl, rfl⟩ | ⟨k, cap, cs, rfl, h1, h2, h3, h4⟩
  · simp only
    by_cases h0 : t.length = 0
    · have : t = [] := List.eq_nil_of_length_eq_zero h0
      subst this
      rw [if_pos (show ([] : List UInt8).length = 0 from rfl)]
      exact ⟨.nilsl, _, rfl, hg _, .inl ⟨rfl, rfl⟩, by simp, fun q hq hne _ => by rw [List.getElem?_set_ne (Ne.symm hne)], .inl rfl⟩
    · rw [if_neg h0, if_pos (by simpa using hl)]
      refine ⟨.hsl L.length 0 t.length t.length (.grow 1), _, rfl, B.get_set hbl _ _, .inr ⟨L.length, t.length, byteCells t, by simp, get_last L b _ _, by simp, by simp [byteCells_len], ?_⟩, by simp, fun q hq hne _ => ?_, .inr ⟨L.length, rfl, Nat.le_refl _⟩⟩
      · rw [List.nil_append, List.take_of_length_le (by rw [byteCells_len]; exact Nat.le_refl _)]
      · rw [List.getElem?_append_left (by simpa using hq), List.getElem?_set_ne (Ne.symm hne)]
  · have hkb : b ≠ k := fun e => hbk (by rw [e]; rfl)
    have hkl := B.lt_get h1
    have hcell : (cs.take P.length).all V.isCell = true := by rw [h4]; exact byteCells_cell P
    simp only [h1]
    rw [if_pos ⟨trivial, trivial, trivial, hkb, h2, h3, hl, hcell⟩]
    by_cases h0 : t.length = 0
    · have : t = [] := List.eq_nil_of_length_eq_zero h0
      subst this
      rw [if_pos (show ([] : List UInt8).length = 0 from rfl), List.append_nil]
      exact ⟨.hsl k 0 P.length cap (.grow 1), _, rfl, hg _, .inr ⟨k, cap, cs, rfl, by rw [List.getElem?_set_ne hkb]; exact h1, h2, h3, h4⟩, by simp, fun q hq hne _ => by rw [List.getElem?_set_ne (Ne.symm hne)], .inl rfl⟩
    · rw [if_neg h0]
      refine ⟨.hsl L.length 0 (P.length + t.length) (P.length + t.length) (.grow 1), _, rfl, ?_, .inr ⟨L.length, P.length + t.length, cs.take P.length ++ byteCells t, by simp, ?_, by simp, ?_, ?_⟩, by simp, fun q hq hne hqk => ?_, .inr ⟨L.length, rfl, Nat.le_refl _⟩⟩
      · rw [List.getElem?_append_left (by simpa using hbl), List.getElem?_set_ne (Ne.symm hkb)]; exact hg _
      · exact get_at _ _ _ (by simp)
      · rw [h4, ← byteCells_app, byteCells_len]; exact Nat.le_refl _
      · rw [h4, ← byteCells_app, List.take_of_length_le (by rw [byteCells_len]; exact Nat.le_refl _)]
      · rw [List.getElem?_append_left (by simpa using hq), List.getElem?_set_ne (fun e => hqk (by rw [e]; rfl)), List.getElem?_set_ne (Ne.symm hne)]
section
variable {L : List AObj} {ts : List Nat} {b : Nat} {T : TypeId} {bv : V} {y1 : V} {lr o : Int} {rest : List V} {P : List UInt8}
theorem len_call (hb : L[b]? = some (.cells (bv :: .int .i64 0 :: y1 :: rest) T)) (hB : BufV L bv P) (hl : P.length ≤ 2 ^ 39) : callFn env (ev env) 53 [.ptr b 0] ⟨L, ts⟩ = some (.int .i64 P.length, ⟨L, ts⟩) := by
  refine callFn_eq rfl rfl at53 rfl (by simp [Tryd.f53]) (by simp [Tryd.f53]) (G_start ?_)
  have hw : IntKind.wrap .i64 ((P.length : Int) - 0) = (P.length : Int) := by rw [B.wrap64 (by omega)]; omega
  simp -implicitDefEqProofs only [Tryd.f53,Wa,Wb,Wc,Wd,We,Wf,Wg,Wh,Wi,Wj,Wk,Wl,Wm,Wn,Zo,Zp,evalT,Nat.reduceLT,Nat.reduceEqDiff,if_true,if_false,reduceIte,Ys,ofVal,ofCell,argT,resT,setT,Y0,Int.reduceEq,Int.reduceLT,Int.reduceLE,Int.reduceNeg,mb,Nat.reduceBEq,tys,stb,Va,storeList,Nat.reduceAdd,Nat.reduceLeDiff,opT_nilCheck,nilO_ptr,hb,hB.rd.lenT,hw]
  exact ⟨by kernel_rfl, rfl, trivial⟩
theorem bytes_call (hb : L[b]? = some (.cells (bv :: .int .i64 0 :: y1 :: rest) T)) (hB : BufV L bv P) : callFn env (ev env) 56 [.ptr b 0] ⟨L, ts⟩ = some (bv, ⟨L, ts⟩) := by
  refine callFn_eq rfl rfl at56 rfl (by simp [Tryd.f56]) (by simp [Tryd.f56]) (G_start ?_)
  simp -implicitDefEqProofs only [Tryd.f56,Wa,Wb,Wc,Wd,We,Wf,Wg,Wh,Wi,Wj,Wk,Wl,Wm,Wn,Zo,Zp,evalT,Nat.reduceLT,Nat.reduceEqDiff,if_true,if_false,reduceIte,Ys,ofVal,ofCell,argT,resT,setT,Y0,Int.reduceEq,Int.reduceLT,Int.reduceLE,Int.reduceNeg,mb,Nat.reduceBEq,tys,stb,Va,storeList,Nat.reduceAdd,Nat.reduceLeDiff,opT_nilCheck,nilO_ptr,hb,opT_slice,optO_none,optO_some,hB.all]
  exact ⟨by kernel_rfl, rfl, trivial⟩
theorem reset_call (hb : L[b]? = some (.cells (bv :: .int .i64 o :: .int .i8 lr :: rest) T)) (hB : BufV L bv P) :
    ∃ bv', callFn env (ev env) 72 [.ptr b 0] ⟨L, ts⟩ = some (.tup [], ⟨L.set b (.cells (bv' :: .int .i64 0 :: .int .i8 0 :: rest) T), ts⟩) ∧ BufV L bv' [] ∧ blkOf bv' = blkOf bv := by
  obtain ⟨bv', h1, h2, h3, h4, h5⟩ := hB.cut0
  refine ⟨bv', ?_, h2, h3⟩
  have hbl := B.lt_get hb
  have hg : ∀ o, (L.set b o)[b]? = some o := fun o => List.getElem?_set_self hbl
  refine callFn_eq rfl rfl at72 rfl (by simp [Tryd.f72]) (by simp [Tryd.f72]) (G_start ?_)
  simp -implicitDefEqProofs only [Tryd.f72,Wa,Wb,Wc,Wd,We,Wf,Wg,Wh,Wi,Wj,Wk,Wl,Wm,Wn,Zo,Zp,evalT,Nat.reduceLT,Nat.reduceEqDiff,if_true,if_false,reduceIte,Ys,ofVal,ofCell,argT,resT,setT,Y0,Int.reduceEq,Int.reduceLT,Int.reduceLE,Int.reduceNeg,mb,Nat.reduceBEq,tys,stb,Va,storeList,Nat.reduceAdd,Nat.reduceLeDiff,opT_nilCheck,nilO_ptr,hb,hg,opT_slice,optO_none,optO_some,h1,h4,h5,List.set_set]
  exact ⟨rfl, rfl, rfl, trivial⟩
theorem next_call (hb : L[b]? = some (.cells (bv :: .int .i64 0 :: .int .i8 lr :: rest) T)) (hB : BufV L bv P) (hbk : blkOf bv ≠ some b) (hl : P.length ≤ 2 ^ 39) (n : Nat) (hn : n ≤ P.length) :
    ∃ y lr', callFn env (ev env) 71 [.ptr b 0, .int .i64 n] ⟨L, ts⟩ = some (y, ⟨L.set b (.cells (bv :: .int .i64 n :: .int .i8 lr' :: rest) T), ts⟩) ∧ Rd L y (P.take n) ∧ blkOf y = blkOf bv := by
  obtain ⟨y, h1, h2, h3⟩ := hB.rd.take hn (.inr rfl)
  have hbl := B.lt_get hb
  have hg : ∀ o, (L.set b o)[b]? = some o := fun o => List.getElem?_set_self hbl
  refine ⟨y, if n = 0 then 0 else -1, ?_, h2, h3⟩
  refine callFn_eq rfl rfl at71 rfl (by simp [Tryd.f71]) (by simp [Tryd.f71]) (G_start ?_)
  have hL : ∀ o, callFn env (ev env) 53 [.ptr b 0] ⟨L.set b (.cells (bv :: .int .i64 0 :: o :: rest) T), ts⟩ = some (.int .i64 P.length, ⟨L.set b (.cells (bv :: .int .i64 0 :: o :: rest) T), ts⟩) := fun o => len_call (hg _) (hB.move fun q hq => by rw [List.getElem?_set_ne (fun e => hbk (by rw [hq, e]))]) hl
  have c1 : ¬ ((P.length : Int) < (n : Int)) := by omega
  have w1 : IntKind.wrap .i64 ((0 : Int) + n) = (n : Int) := by rw [B.wrap64 (by omega)]; omega
  by_cases h0 : n = 0
  · subst h0
    have v0 : ((0 : Nat) : Int) = 0 := rfl
    have c3 : ¬ ((P.length : Int) < 0) := by omega
    simp -implicitDefEqProofs only [v0] at h1 w1
    simp -implicitDefEqProofs only [Tryd.f71,Wa,Wb,Wc,Wd,We,Wf,Wg,Wh,Wi,Wj,Wk,Wl,Wm,Wn,Zo,Zp,evalT,Nat.reduceLT,Nat.reduceEqDiff,if_true,if_false,reduceIte,Ys,ofVal,ofCell,argT,resT,setT,Y0,Int.reduceEq,Int.reduceLT,Int.reduceLE,Int.reduceNeg,mb,Nat.reduceBEq,tys,stb,Va,storeList,Nat.reduceAdd,Nat.reduceLeDiff,opT_nilCheck,nilO_ptr,hb,hL,hg,opT_slice,optO_none,optO_some,v0,c3,w1,h1,List.set_set]
    exact ⟨rfl, by kernel_rfl, rfl, rfl, trivial⟩
  · have c2 : (0 : Int) < (n : Int) := by omega
    simp -implicitDefEqProofs only [Tryd.f71,Wa,Wb,Wc,Wd,We,Wf,Wg,Wh,Wi,Wj,Wk,Wl,Wm,Wn,Zo,Zp,evalT,Nat.reduceLT,Nat.reduceEqDiff,if_true,if_false,reduceIte,Ys,ofVal,ofCell,argT,resT,setT,Y0,Int.reduceEq,Int.reduceLT,Int.reduceLE,Int.reduceNeg,mb,Nat.reduceBEq,tys,stb,Va,storeList,Nat.reduceAdd,Nat.reduceLeDiff,opT_nilCheck,nilO_ptr,hb,hL,hg,opT_slice,optO_none,optO_some,c1,c2,w1,h1,h0,List.set_set]
    exact ⟨rfl, by kernel_rfl, rfl, rfl, rfl, trivial⟩
end
end Go.Proofs.YtncohjljeoknkaaDoor.D
namespace Go.Proofs.YtncohjljeoknkaaDoor.D
open Go.Ab
set_option maxHeartbeats 4000000
set_option maxRecDepth 100000
set_option linter.unusedSimpArgs false
set_option linter.unusedVariables false
theorem at13 : env.P.funcs[13]? = some Tryd.f13 := by kernel_rfl
theorem at14 : env.P.funcs[14]? = some Tryd.f14 := by kernel_rfl
theorem at15 : env.P.funcs[15]? = some Tryd.f15 := by kernel_rfl
theorem at16 : env.P.funcs[16]? = some Tryd.f16 := by kernel_rfl
theorem at17 : env.P.funcs[17]? = some Tryd.f17 := by kernel_rfl
theorem at18 : env.P.funcs[18]? = some Tryd.f18 := by kernel_rfl
theorem at19 : env.P.funcs[19]? = some Tryd.f19 := by kernel_rfl
theorem at20 : env.P.funcs[20]? = some Tryd.f20 := by kernel_rfl
theorem at49 : env.P.funcs[49]? = some Tryd.f49 := by kernel_rfl
theorem at51 : env.P.funcs[51]? = some Tryd.f51 := by kernel_rfl
theorem at52 : env.P.funcs[52]? = some Tryd.f52 := by kernel_rfl
theorem at54 : env.P.funcs[54]? = some Tryd.f54 := by kernel_rfl
structure DS where
  D : List UInt8
  P : List UInt8
  left : Int
  stop : Bool
def stI (b : Bool) : Int := if b then 2 else 1
structure Dk (L : List AObj) (d : Nat) (s : DS) (bv dv : V) (lr : Int) : Prop where
  cell : L[d]? = some (.cells [bv, .int .i64 0, .int .i8 lr, dv, .int .i64 s.left, .int .i64 (stI s.stop)] 50)
  buf : BufV L bv s.P
  dur : Own L dv s.D
  bd : blkOf bv ≠ some d
  dd : blkOf dv ≠ some d
  bdv : ∀ q, blkOf bv = some q → blkOf dv ≠ some q
def Disk (L : List AObj) (d : Nat) (s : DS) (F : Nat → Prop) : Prop := ∃ bv dv lr, Dk L d s bv dv lr ∧ F = fun q => q = d ∨ blkOf bv = some q ∨ blkOf dv = some q
def Step (L L' : List AObj) (F F' : Nat → Prop) : Prop := L.length ≤ L'.length ∧ (∀ q, q < L.length → ¬ F q → L'[q]? = L[q]?) ∧ ∀ q, F' q → F q ∨ L.length ≤ q
theorem Step.refl (L : List AObj) (F : Nat → Prop) : Step L L F F := ⟨Nat.le_refl _, fun _ _ _ => rfl, fun _ h => .inl h⟩
theorem Step.trans {L L' L'' : List AObj} {F F' F'' : Nat → Prop} (h : Step L L' F F') (k : Step L' L'' F' F'') : Step L L'' F F'' := by
  obtain ⟨h1, h2, h3⟩ := h
  obtain ⟨k1, k2, k3⟩ := k
  refine ⟨by omega, fun q hq hn => ?_, fun q hq => ?_⟩
  · rw [k2 q (by omega) (fun hf => by rcases h3 q hf with h | h; exact hn h; omega)]
    exact h2 q hq hn
  · rcases k3 q hq with h | h
    · exact h3 q h
    · exact .inr (by omega)
theorem Disk.lt {L : List AObj} {d : Nat} {s : DS} {F : Nat → Prop} (h : Disk L d s F) {q : Nat} (hq : F q) : q < L.length := by
  obtain ⟨bv, dv, lr, hk, rfl⟩ := h
  rcases hq with rfl | hq | hq
  · exact B.lt_get hk.cell
  · exact hk.buf.rd.lt hq
  · exact hk.dur.rd.lt hq
theorem Disk.move {L L' : List AObj} {d : Nat} {s : DS} {F : Nat → Prop} (h : Disk L d s F) (hq : ∀ q, F q → L'[q]? = L[q]?) : Disk L' d s F := by
  obtain ⟨bv, dv, lr, hk, rfl⟩ := h
  exact ⟨bv, dv, lr, ⟨by rw [hq d (.inl rfl)]; exact hk.cell, hk.buf.move fun q h => hq q (.inr (.inl h)), hk.dur.move fun q h => hq q (.inr (.inr h)), hk.bd, hk.dd, hk.bdv⟩, rfl⟩
theorem Disk.app {L : List AObj} {d : Nat} {s : DS} {F : Nat → Prop} (h : Disk L d s F) (X : List AObj) : Disk (L ++ X) d s F := h.move fun q hq => by rw [List.getElem?_append_left (h.lt hq)]
section
variable {L : List AObj} {ts : List Nat} {d : Nat} {s : DS} {bv dv : V} {lr : Int} {F : Nat → Prop}
theorem Dk.nums (h : Dk L d s bv dv lr) (left : Int) (stop : Bool) (lr' : Int) : Dk (L.set d (.cells [bv, .int .i64 0, .int .i8 lr', dv, .int .i64 left, .int .i64 (stI stop)] 50)) d ⟨s.D, s.P, left, stop⟩ bv dv lr' := by
  have hl := B.lt_get h.cell
  refine ⟨List.getElem?_set_self hl, h.buf.move fun q hq => ?_, h.dur.move fun q hq => ?_, h.bd, h.dd, h.bdv⟩
  · rw [List.getElem?_set_ne (fun e => h.bd (by rw [hq, e]))]
  · rw [List.getElem?_set_ne (fun e => h.dd (by rw [hq, e]))]
theorem step_set (o : AObj) (hF : F d) : Step L (L.set d o) F F := ⟨by simp, fun q _ hn => by rw [List.getElem?_set_ne (fun e => hn (by rw [← e]; exact hF))], fun q h => .inl h⟩
theorem Q2 (h : Dk L d s bv dv lr) : callFn env (ev env) 54 [.ptr d 0] ⟨L, ts⟩ = some (.int .i64 (stI s.stop), ⟨L, ts⟩) := by
  refine callFn_eq rfl rfl at54 rfl (by simp [Tryd.f54]) (by simp [Tryd.f54]) (G_start ?_)
  have hp : ∀ cc, binO env 22 cc .eql (some (.ptr d 0)) (some .nilptr) = some (.bool false) := fun cc => by cases cc <;> kernel_rfl
  simp -implicitDefEqProofs only [Tryd.f54,Wa,Wb,Wc,Wd,We,Wf,Wg,Wh,Wi,Wj,Wk,Wl,Wm,Wn,Zo,Zp,evalT,Nat.reduceLT,Nat.reduceEqDiff,if_true,if_false,reduceIte,Ys,ofVal,ofCell,argT,resT,setT,Y0,Int.reduceEq,Int.reduceLT,Int.reduceLE,Int.reduceNeg,mb,Nat.reduceBEq,tys,stb,Va,storeList,Nat.reduceAdd,Nat.reduceLeDiff,opT_nilCheck,nilO_ptr,h.cell,hp]
  exact ⟨rfl, trivial⟩
theorem ready_call (h : Dk L d s bv dv lr) : callFn env (ev env) 49 [.ptr d 0] ⟨L, ts⟩ = some (.int .i64 (if s.stop then 13 else 0), ⟨L, ts⟩) := by
  refine callFn_eq rfl rfl at49 rfl (by simp [Tryd.f49]) (by simp [Tryd.f49]) (G_start ?_)
  have hi := Q2 (ts := ts) h
  cases hs : s.stop
  · rw [hs] at hi
    have e : stI false = 1 := rfl
    rw [e] at hi
    simp -implicitDefEqProofs only [Tryd.f49,Wa,Wb,Wc,Wd,We,Wf,Wg,Wh,Wi,Wj,Wk,Wl,Wm,Wn,Zo,Zp,evalT,Nat.reduceLT,Nat.reduceEqDiff,if_true,if_false,reduceIte,Ys,ofVal,ofCell,argT,resT,setT,Y0,Int.reduceEq,Int.reduceLT,Int.reduceLE,Int.reduceNeg,mb,Nat.reduceBEq,tys,stb,Va,storeList,Nat.reduceAdd,Nat.reduceLeDiff,hi]
    exact ⟨rfl, trivial⟩
  · rw [hs] at hi
    have e : stI true = 2 := rfl
    rw [e] at hi
    simp -implicitDefEqProofs only [Tryd.f49,Wa,Wb,Wc,Wd,We,Wf,Wg,Wh,Wi,Wj,Wk,Wl,Wm,Wn,Zo,Zp,evalT,Nat.reduceLT,Nat.reduceEqDiff,if_true,if_false,reduceIte,Ys,ofVal,ofCell,argT,resT,setT,Y0,Int.reduceEq,Int.reduceLT,Int.reduceLE,Int.reduceNeg,mb,Nat.reduceBEq,tys,stb,Va,storeList,Nat.reduceAdd,Nat.reduceLeDiff,hi]
    exact ⟨rfl, trivial⟩
theorem stops_call (h : Dk L d s bv dv lr) : callFn env (ev env) 51 [.ptr d 0] ⟨L, ts⟩ = some (.int .i64 13, ⟨L.set d (.cells [bv, .int .i64 0, .int .i8 lr, dv, .int .i64 s.left, .int .i64 (stI true)] 50), ts⟩) := by
  refine callFn_eq rfl rfl at51 rfl (by simp [Tryd.f51]) (by simp [Tryd.f51]) (G_start ?_)
  have hg : ∀ o, (L.set d o)[d]? = some o := fun o => List.getElem?_set_self (B.lt_get h.cell)
  simp -implicitDefEqProofs only [Tryd.f51,Wa,Wb,Wc,Wd,We,Wf,Wg,Wh,Wi,Wj,Wk,Wl,Wm,Wn,Zo,Zp,evalT,Nat.reduceLT,Nat.reduceEqDiff,if_true,if_false,reduceIte,Ys,ofVal,ofCell,argT,resT,setT,Y0,Int.reduceEq,Int.reduceLT,Int.reduceLE,Int.reduceNeg,mb,Nat.reduceBEq,tys,stb,Va,storeList,Nat.reduceAdd,Nat.reduceLeDiff,opT_nilCheck,nilO_ptr,h.cell,hg]
  exact ⟨rfl, rfl, rfl⟩
end
end Go.Proofs.YtncohjljeoknkaaDoor.D
namespace Go.Proofs.YtncohjljeoknkaaDoor.D
open Go.Ab
set_option maxHeartbeats 4000000
set_option maxRecDepth 100000
set_option linter.unusedSimpArgs false
set_option linter.unusedVariables false
theorem sc_71 (ag : Array Operand) (ts : Array TypeId) : scOp env (.call ⟨.value (.func 71), ag, ts⟩) = true := rfl
theorem sc_app (ag : Array Operand) (ts : Array TypeId) : scOp env (.call ⟨.builtin .append, ag, ts⟩) = true := rfl
theorem sc_nil (x : Operand) : scOp env (.nilCheck x) = false := rfl
theorem rd_nil (x : Operand) : readsOp (.nilCheck x) = false := rfl
theorem mb52 : env.mutb 52 0 = true := rfl
def fp (d : Nat) (bv dv : V) : Nat → Prop := fun q => q = d ∨ blkOf bv = some q ∨ blkOf dv = some q
theorem keep_call {L : List AObj} {ts : List Nat} {d : Nat} {s : DS} {bv dv : V} {lr : Int} (h : Dk L d s bv dv lr) (n : Nat) (hn : n ≤ s.P.length) (hl : s.D.length + s.P.length ≤ 2 ^ 38) :
    ∃ L' bv' dv', callFn env (ev env) 52 [.ptr d 0, .int .i64 n] ⟨L, ts⟩ = some (.tup [], ⟨L', ts⟩) ∧ Dk L' d ⟨s.D ++ s.P.take n, [], s.left, s.stop⟩ bv' dv' 0 ∧ Step L L' (fp d bv dv) (fp d bv' dv') := by
  have hdl := B.lt_get h.cell
  obtain ⟨y, lr', hN, hy, hyb⟩ := next_call (ts := ts) h.cell h.buf h.bd (by omega) n hn
  generalize hL1 : L.set d (.cells [bv, .int .i64 n, .int .i8 lr', dv, .int .i64 s.left, .int .i64 (stI s.stop)] 50) = L1 at hN
  have hL1l : L1.length = L.length := by rw [← hL1]; simp
  have hm : ∀ q, q ≠ d → L1[q]? = L[q]? := fun q hq => by rw [← hL1, List.getElem?_set_ne (Ne.symm hq)]
  have hd1 : L1[d]? = some (.cells [bv, .int .i64 n, .int .i8 lr', dv, .int .i64 s.left, .int .i64 (stI s.stop)] 50) := by rw [← hL1]; exact List.getElem?_set_self hdl
  have hy1 : Rd L1 y (s.P.take n) := hy.move fun q hq => hm q (fun e => h.bd (by rw [← hyb, hq, e]))
  have ho1 : Own L1 dv s.D := h.dur.move fun q hq => hm q (fun e => h.dd (by rw [hq, e]))
  have hb1 : BufV L1 bv s.P := h.buf.move fun q hq => hm q (fun e => h.bd (by rw [hq, e]))
  obtain ⟨dv', L2, hA, hO, hlen, hfr, hfrom⟩ := app_own (ts := ts) ho1 hy1 (by rw [List.length_take]; omega)
  have hd2 : L2[d]? = some (.cells [bv, .int .i64 n, .int .i8 lr', dv, .int .i64 s.left, .int .i64 (stI s.stop)] 50) := by rw [hfr d (by omega) h.dd]; exact hd1
  have hb2 : BufV L2 bv s.P := hb1.move fun q hq => hfr q (hb1.rd.lt hq) (h.bdv q hq)
  have hdd' : blkOf dv' ≠ some d := by
    rcases hfrom with e | ⟨q, e1, e2⟩
    · rw [e]; exact h.dd
    · rw [e1]; rintro ⟨⟩; omega
  have hbdv' : ∀ q, blkOf bv = some q → blkOf dv' ≠ some q := fun q hq => by
    rcases hfrom with e | ⟨p, e1, e2⟩
    · rw [e]; exact h.bdv q hq
    · rw [e1]; rintro ⟨⟩
      have := hb1.rd.lt hq
      omega
  have hg : ∀ o, (L2.set d o)[d]? = some o := fun o => List.getElem?_set_self (by omega)
  have hb3 : ∀ o, BufV (L2.set d o) bv s.P := fun o => hb2.move fun q hq => by rw [List.getElem?_set_ne (fun e => h.bd (by rw [hq, e]))]
  obtain ⟨bv', hR, hB', hbb⟩ := reset_call (ts := ts) (hg (.cells [bv, .int .i64 n, .int .i8 lr', dv', .int .i64 s.left, .int .i64 (stI s.stop)] 50)) (hb3 _)
  rw [List.set_set] at hR
  refine ⟨L2.set d (.cells [bv', .int .i64 0, .int .i8 0, dv', .int .i64 s.left, .int .i64 (stI s.stop)] 50), bv', dv', ?_, ⟨hg _, hB'.move fun q hq => ?_, hO.move fun q hq => ?_, by rw [hbb]; exact h.bd, hdd', fun q hq => hbdv' q (by rw [← hbb]; exact hq)⟩, by rw [List.length_set]; omega, fun q hq hne => ?_, fun q hq => ?_⟩
  · refine callFn_eq rfl rfl at52 rfl (by simp [Tryd.f52]) (by simp [Tryd.f52]) (G_start ?_)
    simp -implicitDefEqProofs only [Tryd.f52,Wa,Wb,Wc,Wd,We,Wf,Wg,Wh,Wi,Wj,Wk,Wl,Wm,Wn,Zo,Zp,evalT,Nat.reduceLT,Nat.reduceEqDiff,if_true,if_false,reduceIte,Ys,ofVal,ofCell,argT,resT,setT,Y0,Int.reduceEq,Int.reduceLT,Int.reduceLE,Int.reduceNeg,mb,Nat.reduceBEq,tys,stb]
    refine G_late rfl (fun s0 => ∃ a b c x z, s0.heap[d]? = some (.cells [a, b, c, dv, x, z] 50)) 2 (fun _ => ⟨_, _, _, _, _, h.cell⟩) (by kernel_rfl) (by kernel_rfl) ?_
    simp -implicitDefEqProofs only [Wa,Wb,Wc,Wd,We,Wf,Wg,Wh,Wi,Wj,Wk,Wl,Wm,Wn,Zo,Zp,evalT,Nat.reduceLT,Nat.reduceEqDiff,if_true,if_false,reduceIte,Ys,ofVal,ofCell,argT,resT,setT,Y0,Int.reduceEq,Int.reduceLT,Int.reduceLE,Int.reduceNeg,mb,Nat.reduceBEq,tys,stb,Va,storeList,Nat.reduceAdd,Nat.reduceLeDiff,GM_nil,GM_op,GMS_some,GMS_none,GMS_ite,GMS_nite,mb52,opT_nilCheck,nilO_ptr,h.cell,hN,hA,hd2,hg,hR,ho1.rd.cells,hO.rd.cells,hO.rd.isCell,sc_71,sc_app,sc_nil,rd_nil,sc_load,sc_move,sc_fieldAddr,rd_fieldAddr,sc_store,rd_store,rd_load,rd_move,rd_call,aread_load]
    exact ⟨fun s0 ⟨a, b, c, x, z, e⟩ => by rw [e]; rfl, ⟨_, _, _, _, _, hd1⟩, rfl, trivial⟩
  · rw [List.getElem?_set_ne (fun e => h.bd (by rw [← hbb, hq, e])), List.getElem?_set_ne (fun e => h.bd (by rw [← hbb, hq, e]))]
  · rw [List.getElem?_set_ne (fun e => hdd' (by rw [hq, e]))]
  · rw [List.getElem?_set_ne (fun e => hne (.inl e.symm)), hfr q (by omega) (fun e => hne (.inr (.inr e))), hm q (fun e => hne (.inl e))]
  · rcases hq with rfl | hq | hq
    · exact .inl (.inl rfl)
    · exact .inl (.inr (.inl (by rw [← hbb]; exact hq)))
    · rcases hfrom with e | ⟨p, e1, e2⟩
      · exact .inl (.inr (.inr (by rw [← e]; exact hq)))
      · rw [e1] at hq; cases hq; exact .inr (by omega)
end Go.Proofs.YtncohjljeoknkaaDoor.D
namespace Go.Proofs.YtncohjljeoknkaaDoor.D
open Go.Ab
set_option maxHeartbeats 4000000
set_option maxRecDepth 100000
set_option linter.unusedSimpArgs false
set_option linter.unusedVariables false
def wrS (s : DS) (b : List UInt8) : DS × Int :=
  if s.stop then (s, 13) else
  if s.left = -1 then (⟨s.D, s.P ++ b, -1, false⟩, 0) else
  if s.left < b.length then (⟨s.D, s.P ++ b.take s.left.toNat, 0, true⟩, 13) else (⟨s.D, s.P ++ b, s.left - b.length, false⟩, 0)
def syncS (s : DS) : DS × Int :=
  if s.stop then (s, 13) else
  if s.left = 0 then (⟨s.D, s.P, 0, true⟩, 13) else (⟨s.D ++ s.P, [], s.left, false⟩, 0)
def fuseS (s : DS) (n : Int) : DS × Int :=
  if n < -1 then (s, 2) else
  if s.stop then (s, 13) else (⟨s.D, s.P, n, false⟩, 0)
def crashS (s : DS) (k : Int) : DS × Int :=
  if k < 0 then (s, 2) else (⟨s.D ++ s.P.take k.toNat, [], -1, false⟩, 0)
def OkS (s : DS) : Prop := -1 ≤ s.left ∧ s.left ≤ 9223372036854775807
section
variable {L : List AObj} {ts : List Nat} {d : Nat} {s : DS} {bv dv : V} {lr : Int}
theorem wrote {y : V} {t : List UInt8} (h : Dk L d s bv dv lr) (hy : Rd L y t) (hyd : blkOf y ≠ some d) (hl : s.P.length + t.length ≤ 2 ^ 38) :
    ∃ bv' L', callFn env (ev env) 50 [.ptr d 0, y] ⟨L, ts⟩ = some (.tup [.int .i64 t.length, .nilif], ⟨L', ts⟩) ∧ Dk L' d ⟨s.D, s.P ++ t, s.left, s.stop⟩ bv' dv 0 ∧ Step L L' (fp d bv dv) (fp d bv' dv) := by
  have hdl := B.lt_get h.cell
  obtain ⟨bv', L', h1, h2, h3, h4, h5, h6⟩ := write_call (ts := ts) h.cell h.buf h.bd hy hyd hl
  refine ⟨bv', L', h1, ⟨h2, h3, h.dur.move fun q hq => ?_, ?_, h.dd, fun q hq => ?_⟩, h4, fun q hq hn => h5 q hq (fun e => hn (.inl e)) (fun e => hn (.inr (.inl e))), fun q hq => ?_⟩
  · exact h5 q (h.dur.rd.lt hq) (fun e => h.dd (by rw [hq, e])) (fun e => h.bdv q e hq)
  · rcases h6 with e | ⟨p, e1, e2⟩
    · rw [e]; exact h.bd
    · rw [e1]; rintro ⟨⟩; omega
  · rcases h6 with e | ⟨p, e1, e2⟩
    · exact h.bdv q (by rw [← e]; exact hq)
    · rw [e1] at hq; cases hq
      intro e
      have := h.dur.rd.lt e
      omega
  · rcases hq with rfl | hq | hq
    · exact .inl (.inl rfl)
    · rcases h6 with e | ⟨p, e1, e2⟩
      · exact .inl (.inr (.inl (by rw [← e]; exact hq)))
      · rw [e1] at hq; cases hq; exact .inr e2
    · exact .inl (.inr (.inr hq))
theorem wr_call {y : V} {t : List UInt8} (h : Dk L d s bv dv lr) (hok : OkS s) (hy : Rd L y t) (hyd : blkOf y ≠ some d) (hl : s.D.length + s.P.length + t.length ≤ 2 ^ 38) :
    ∃ L' bv' dv' lr', callFn env (ev env) 14 [.ptr d 0, y] ⟨L, ts⟩ = some (.int .i64 (wrS s t).2, ⟨L', ts⟩) ∧ Dk L' d (wrS s t).1 bv' dv' lr' ∧ Step L L' (fp d bv dv) (fp d bv' dv') := by
  obtain ⟨ok1, ok2⟩ := hok
  have hR := ready_call (ts := ts) h
  unfold wrS
  cases hs : s.stop with
  | true =>
    rw [if_pos rfl]
    rw [hs] at hR
    refine ⟨L, bv, dv, lr, ?_, h, Step.refl _ _⟩
    refine callFn_eq rfl rfl at14 rfl (by simp [Tryd.f14]) (by simp [Tryd.f14]) (G_start ?_)
    simp -implicitDefEqProofs only [Tryd.f14,Wa,Wb,Wc,Wd,We,Wf,Wg,Wh,Wi,Wj,Wk,Wl,Wm,Wn,Zo,Zp,evalT,Nat.reduceLT,Nat.reduceEqDiff,if_true,if_false,reduceIte,Ys,ofVal,ofCell,argT,resT,setT,Y0,Int.reduceEq,Int.reduceLT,Int.reduceLE,Int.reduceNeg,mb,Nat.reduceBEq,tys,stb,Va,storeList,Nat.reduceAdd,Nat.reduceLeDiff,hR]
    exact ⟨rfl, trivial⟩
  | false =>
    rw [if_neg (by simp)]
    rw [hs] at hR
    by_cases c1 : s.left = -1
    · rw [if_pos c1]
      obtain ⟨bv', L', hW, hD, hS⟩ := wrote (ts := ts) h hy hyd (by omega)
      refine ⟨L', bv', dv, 0, ?_, by rw [c1, hs] at hD; exact hD, hS⟩
      refine callFn_eq rfl rfl at14 rfl (by simp [Tryd.f14]) (by simp [Tryd.f14]) (G_start ?_)
      have c1' := eq_true c1
      simp -implicitDefEqProofs only [Tryd.f14,Wa,Wb,Wc,Wd,We,Wf,Wg,Wh,Wi,Wj,Wk,Wl,Wm,Wn,Zo,Zp,evalT,Nat.reduceLT,Nat.reduceEqDiff,if_true,if_false,reduceIte,Ys,ofVal,ofCell,argT,resT,setT,Y0,Int.reduceEq,Int.reduceLT,Int.reduceLE,Int.reduceNeg,mb,Nat.reduceBEq,tys,stb,Va,storeList,Nat.reduceAdd,Nat.reduceLeDiff,hR,opT_nilCheck,nilO_ptr,h.cell,c1',hW]
      exact ⟨rfl, trivial⟩
    · rw [if_neg c1]
      have c1' := eq_false c1
      by_cases c2 : s.left < (t.length : Int)
      · rw [if_pos c2]
        have hk : ((s.left.toNat : Nat) : Int) = s.left := by omega
        obtain ⟨y', hsl, hy', hyb⟩ := hy.take (n := s.left.toNat) (by omega) (.inl rfl)
        rw [hk] at hsl
        obtain ⟨bv', L', hW, hD, hS⟩ := wrote (ts := ts) h hy' (by rw [hyb]; exact hyd) (by rw [List.length_take]; omega)
        have hD2 := hD.nums 0 s.stop 0
        have hST := stops_call (ts := ts) hD2
        rw [List.set_set] at hST
        have hD3 := hD.nums 0 true 0
        have hdl' := B.lt_get hD.cell
        refine ⟨_, bv', dv, 0, ?_, hD3, hS.trans (step_set _ (.inl rfl))⟩
        refine callFn_eq rfl rfl at14 rfl (by simp [Tryd.f14]) (by simp [Tryd.f14]) (G_start ?_)
        simp only at hST
        simp -implicitDefEqProofs only [Tryd.f14,Wa,Wb,Wc,Wd,We,Wf,Wg,Wh,Wi,Wj,Wk,Wl,Wm,Wn,Zo,Zp,evalT,Nat.reduceLT,Nat.reduceEqDiff,if_true,if_false,reduceIte,Ys,ofVal,ofCell,argT,resT,setT,Y0,Int.reduceEq,Int.reduceLT,Int.reduceLE,Int.reduceNeg,mb,Nat.reduceBEq,tys,stb,Va,storeList,Nat.reduceAdd,Nat.reduceLeDiff,hR,opT_nilCheck,nilO_ptr,h.cell,c1',c2,hy.lenT,opT_slice,optO_none,optO_some,hsl,hW,hD.cell,hST]
        exact ⟨by kernel_rfl, rfl, rfl, trivial⟩
      · rw [if_neg c2]
        obtain ⟨bv', L', hW, hD, hS⟩ := wrote (ts := ts) h hy hyd (by omega)
        have hD2 := hD.nums (s.left - t.length) false 0
        have hw : IntKind.wrap .i64 (s.left - (t.length : Int)) = s.left - t.length := B.wrap64 (by omega)
        refine ⟨_, bv', dv, 0, ?_, hD2, hS.trans (step_set _ (.inl rfl))⟩
        refine callFn_eq rfl rfl at14 rfl (by simp [Tryd.f14]) (by simp [Tryd.f14]) (G_start ?_)
        simp -implicitDefEqProofs only [Tryd.f14,Wa,Wb,Wc,Wd,We,Wf,Wg,Wh,Wi,Wj,Wk,Wl,Wm,Wn,Zo,Zp,evalT,Nat.reduceLT,Nat.reduceEqDiff,if_true,if_false,reduceIte,Ys,ofVal,ofCell,argT,resT,setT,Y0,Int.reduceEq,Int.reduceLT,Int.reduceLE,Int.reduceNeg,mb,Nat.reduceBEq,tys,stb,Va,storeList,Nat.reduceAdd,Nat.reduceLeDiff,hR,opT_nilCheck,nilO_ptr,h.cell,c1',c2,hy.lenT,hW,hD.cell,hw,hs]
        exact ⟨rfl, rfl, trivial⟩
theorem sync_call (h : Dk L d s bv dv lr) (hl : s.D.length + s.P.length ≤ 2 ^ 38) :
    ∃ L' bv' dv' lr', callFn env (ev env) 15 [.ptr d 0] ⟨L, ts⟩ = some (.int .i64 (syncS s).2, ⟨L', ts⟩) ∧ Dk L' d (syncS s).1 bv' dv' lr' ∧ Step L L' (fp d bv dv) (fp d bv' dv') := by
  have hR := ready_call (ts := ts) h
  unfold syncS
  cases hs : s.stop with
  | true =>
    rw [if_pos rfl]
    rw [hs] at hR
    refine ⟨L, bv, dv, lr, ?_, h, Step.refl _ _⟩
    refine callFn_eq rfl rfl at15 rfl (by simp [Tryd.f15]) (by simp [Tryd.f15]) (G_start ?_)
    simp -implicitDefEqProofs only [Tryd.f15,Wa,Wb,Wc,Wd,We,Wf,Wg,Wh,Wi,Wj,Wk,Wl,Wm,Wn,Zo,Zp,evalT,Nat.reduceLT,Nat.reduceEqDiff,if_true,if_false,reduceIte,Ys,ofVal,ofCell,argT,resT,setT,Y0,Int.reduceEq,Int.reduceLT,Int.reduceLE,Int.reduceNeg,mb,Nat.reduceBEq,tys,stb,Va,storeList,Nat.reduceAdd,Nat.reduceLeDiff,hR]
    exact ⟨rfl, trivial⟩
  | false =>
    rw [if_neg (by simp)]
    rw [hs] at hR
    by_cases c1 : s.left = 0
    · rw [if_pos c1]
      have hST := stops_call (ts := ts) h
      have hD := h.nums 0 true lr
      rw [c1] at hST
      refine ⟨_, bv, dv, lr, ?_, hD, step_set _ (.inl rfl)⟩
      refine callFn_eq rfl rfl at15 rfl (by simp [Tryd.f15]) (by simp [Tryd.f15]) (G_start ?_)
      have c1' := eq_true c1
      simp -implicitDefEqProofs only [Tryd.f15,Wa,Wb,Wc,Wd,We,Wf,Wg,Wh,Wi,Wj,Wk,Wl,Wm,Wn,Zo,Zp,evalT,Nat.reduceLT,Nat.reduceEqDiff,if_true,if_false,reduceIte,Ys,ofVal,ofCell,argT,resT,setT,Y0,Int.reduceEq,Int.reduceLT,Int.reduceLE,Int.reduceNeg,mb,Nat.reduceBEq,tys,stb,Va,storeList,Nat.reduceAdd,Nat.reduceLeDiff,hR,opT_nilCheck,nilO_ptr,h.cell,c1',hST]
      exact ⟨rfl, trivial⟩
    · rw [if_neg c1]
      have hLn := len_call (ts := ts) h.cell h.buf (by omega)
      obtain ⟨L', bv', dv', hK, hD, hS⟩ := keep_call (ts := ts) h s.P.length (Nat.le_refl _) hl
      rw [List.take_length, hs] at hD
      refine ⟨L', bv', dv', 0, ?_, hD, hS⟩
      refine callFn_eq rfl rfl at15 rfl (by simp [Tryd.f15]) (by simp [Tryd.f15]) (G_start ?_)
      have c1' := eq_false c1
      simp -implicitDefEqProofs only [Tryd.f15,Wa,Wb,Wc,Wd,We,Wf,Wg,Wh,Wi,Wj,Wk,Wl,Wm,Wn,Zo,Zp,evalT,Nat.reduceLT,Nat.reduceEqDiff,if_true,if_false,reduceIte,Ys,ofVal,ofCell,argT,resT,setT,Y0,Int.reduceEq,Int.reduceLT,Int.reduceLE,Int.reduceNeg,mb,Nat.reduceBEq,tys,stb,Va,storeList,Nat.reduceAdd,Nat.reduceLeDiff,hR,opT_nilCheck,nilO_ptr,h.cell,c1',hLn,hK]
      exact ⟨rfl, trivial⟩
theorem fuse_call (n : Int) (h : Dk L d s bv dv lr) :
    ∃ L' bv' dv' lr', callFn env (ev env) 16 [.ptr d 0, .int .i64 n] ⟨L, ts⟩ = some (.int .i64 (fuseS s n).2, ⟨L', ts⟩) ∧ Dk L' d (fuseS s n).1 bv' dv' lr' ∧ Step L L' (fp d bv dv) (fp d bv' dv') := by
  have hI := Q2 (ts := ts) h
  have hne : (stI s.stop = 0) = False := by cases s.stop <;> simp [stI]
  unfold fuseS
  by_cases c0 : n < -1
  · rw [if_pos c0]
    refine ⟨L, bv, dv, lr, ?_, h, Step.refl _ _⟩
    refine callFn_eq rfl rfl at16 rfl (by simp [Tryd.f16]) (by simp [Tryd.f16]) (G_start ?_)
    simp -implicitDefEqProofs only [Tryd.f16,Wa,Wb,Wc,Wd,We,Wf,Wg,Wh,Wi,Wj,Wk,Wl,Wm,Wn,Zo,Zp,evalT,Nat.reduceLT,Nat.reduceEqDiff,if_true,if_false,reduceIte,Ys,ofVal,ofCell,argT,resT,setT,Y0,Int.reduceEq,Int.reduceLT,Int.reduceLE,Int.reduceNeg,mb,Nat.reduceBEq,tys,stb,Va,storeList,Nat.reduceAdd,Nat.reduceLeDiff,hI,hne,c0]
    exact ⟨rfl, trivial⟩
  · rw [if_neg c0]
    cases hs : s.stop with
    | true =>
      rw [if_pos rfl]
      have e2 : (stI s.stop = 2) = True := by rw [hs]; simp [stI]
      refine ⟨L, bv, dv, lr, ?_, h, Step.refl _ _⟩
      refine callFn_eq rfl rfl at16 rfl (by simp [Tryd.f16]) (by simp [Tryd.f16]) (G_start ?_)
      simp -implicitDefEqProofs only [Tryd.f16,Wa,Wb,Wc,Wd,We,Wf,Wg,Wh,Wi,Wj,Wk,Wl,Wm,Wn,Zo,Zp,evalT,Nat.reduceLT,Nat.reduceEqDiff,if_true,if_false,reduceIte,Ys,ofVal,ofCell,argT,resT,setT,Y0,Int.reduceEq,Int.reduceLT,Int.reduceLE,Int.reduceNeg,mb,Nat.reduceBEq,tys,stb,Va,storeList,Nat.reduceAdd,Nat.reduceLeDiff,hI,hne,c0,opT_nilCheck,nilO_ptr,h.cell,e2]
      exact ⟨rfl, trivial⟩
    | false =>
      rw [if_neg (by simp)]
      have e2 : (stI false = 2) = False := by simp [stI]
      have e0 : (stI false = 0) = False := by simp [stI]
      have hcell := h.cell
      rw [hs] at hI hcell
      have hD := h.nums n false lr
      refine ⟨_, bv, dv, lr, ?_, hD, step_set _ (.inl rfl)⟩
      refine callFn_eq rfl rfl at16 rfl (by simp [Tryd.f16]) (by simp [Tryd.f16]) (G_start ?_)
      simp -implicitDefEqProofs only [Tryd.f16,Wa,Wb,Wc,Wd,We,Wf,Wg,Wh,Wi,Wj,Wk,Wl,Wm,Wn,Zo,Zp,evalT,Nat.reduceLT,Nat.reduceEqDiff,if_true,if_false,reduceIte,Ys,ofVal,ofCell,argT,resT,setT,Y0,Int.reduceEq,Int.reduceLT,Int.reduceLE,Int.reduceNeg,mb,Nat.reduceBEq,tys,stb,Va,storeList,Nat.reduceAdd,Nat.reduceLeDiff,hI,e0,c0,opT_nilCheck,nilO_ptr,hcell,e2]
      exact ⟨rfl, rfl, trivial⟩
theorem crash_call (k : Int) (h : Dk L d s bv dv lr) (hl : s.D.length + s.P.length ≤ 2 ^ 38) :
    ∃ L' bv' dv' lr', callFn env (ev env) 19 [.ptr d 0, .int .i64 k] ⟨L, ts⟩ = some (.int .i64 (crashS s k).2, ⟨L', ts⟩) ∧ Dk L' d (crashS s k).1 bv' dv' lr' ∧ Step L L' (fp d bv dv) (fp d bv' dv') := by
  have hI := Q2 (ts := ts) h
  have hne : (stI s.stop = 0) = False := by cases s.stop <;> simp [stI]
  unfold crashS
  by_cases c0 : k < 0
  · rw [if_pos c0]
    refine ⟨L, bv, dv, lr, ?_, h, Step.refl _ _⟩
    refine callFn_eq rfl rfl at19 rfl (by simp [Tryd.f19]) (by simp [Tryd.f19]) (G_start ?_)
    simp -implicitDefEqProofs only [Tryd.f19,Wa,Wb,Wc,Wd,We,Wf,Wg,Wh,Wi,Wj,Wk,Wl,Wm,Wn,Zo,Zp,evalT,Nat.reduceLT,Nat.reduceEqDiff,if_true,if_false,reduceIte,Ys,ofVal,ofCell,argT,resT,setT,Y0,Int.reduceEq,Int.reduceLT,Int.reduceLE,Int.reduceNeg,mb,Nat.reduceBEq,tys,stb,Va,storeList,Nat.reduceAdd,Nat.reduceLeDiff,hI,hne,c0]
    exact ⟨rfl, trivial⟩
  · rw [if_neg c0]
    have hLn := len_call (ts := ts) h.cell h.buf (by omega)
    obtain ⟨L', bv', dv', hK, hD, hS⟩ := keep_call (ts := ts) h (min k.toNat s.P.length) (by omega) hl
    have hmin : ((min k.toNat s.P.length : Nat) : Int) = if (s.P.length : Int) < k then (s.P.length : Int) else k := by split <;> omega
    rw [hmin] at hK
    have et : s.P.take (min k.toNat s.P.length) = s.P.take k.toNat := by
      rw [List.take_eq_take_iff]; omega
    rw [et] at hD
    have hD2 := hD.nums (-1) false 0
    have hg : ∀ o, (L'.set d o)[d]? = some o := fun o => List.getElem?_set_self (B.lt_get hD.cell)
    refine ⟨_, bv', dv', 0, ?_, hD2, hS.trans (step_set _ (.inl rfl))⟩
    refine callFn_eq rfl rfl at19 rfl (by simp [Tryd.f19]) (by simp [Tryd.f19]) (G_start ?_)
    simp -implicitDefEqProofs only [Tryd.f19,Wa,Wb,Wc,Wd,We,Wf,Wg,Wh,Wi,Wj,Wk,Wl,Wm,Wn,Zo,Zp,evalT,Nat.reduceLT,Nat.reduceEqDiff,if_true,if_false,reduceIte,Ys,ofVal,ofCell,argT,resT,setT,Y0,Int.reduceEq,Int.reduceLT,Int.reduceLE,Int.reduceNeg,mb,Nat.reduceBEq,tys,stb,Va,storeList,Nat.reduceAdd,Nat.reduceLeDiff,hI,hne,c0,opT_nilCheck,nilO_ptr,hLn,hK,hD.cell,hg,List.set_set]
    exact ⟨rfl, rfl, rfl, rfl⟩
end
end Go.Proofs.YtncohjljeoknkaaDoor.D
