/- Proved here: records that are read. Conditions: those of each theorem; no statement of the seat is proved in this text. -/
import Derived.Test.YtncohjljeoknkaaJnA
namespace Go.Proofs.Ytncohjljeoknkaa.D
open Go.Ab
set_option maxHeartbeats 8000000
set_option maxRecDepth 100000
set_option linter.unusedSimpArgs false
set_option linter.unusedVariables false
set_option linter.unusedSectionVars false
def Sub (y' y : V) : Prop := ∀ q, blkOf y' = some q → blkOf y = some q
theorem Sub.refl (y : V) : Sub y y := fun q h => h
theorem Sub.trans {a b c : V} (h : Sub a b) (k : Sub b c) : Sub a c := fun q hq => k q (h q hq)
theorem Rd.cut {L : List AObj} {y : V} {t : List UInt8} (h : Rd L y t) {a b : Nat} (hab : a ≤ b) (hb : b ≤ t.length) {lo hi : Option V} (hlo : lo = some (.int .i64 (a : Int)) ∨ lo = none ∧ a = 0) (hhi : hi = some (.int .i64 (b : Int)) ∨ hi = none ∧ b = t.length) :
    ∃ y', sliceO env 25 y lo hi none = some y' ∧ Rd L y' ((t.take b).drop a) ∧ Sub y' y := by
  have htl : ((t.take b).drop a).length = b - a := by rw [List.length_drop, List.length_take]; omega
  have hl : vBound lo 0 b = some a := by
    rcases hlo with rfl | ⟨rfl, rfl⟩
    · exact vB hab
    · rfl
  have hh : ∀ cap, t.length ≤ cap → vBound hi t.length cap = some b := by
    intro cap hc
    rcases hhi with rfl | ⟨rfl, rfl⟩
    · exact vB (by omega)
    · rfl
  rcases h with ⟨rfl, rfl⟩ | ⟨bk, off, cap, ex, cs, rfl, h1, h2, h3, h4⟩ | ⟨cells, cap, rfl, h1, h2⟩
  · have e1 := hh 0 (Nat.le_refl 0)
    have e : b = 0 := by simpa using hb
    subst e
    have e2 : a = 0 := by omega
    subst e2
    exact ⟨.nilsl, by simp only [List.length_nil] at e1; simp only [sliceO, u26, s5, vSlice, Option.bind_some, e1, hl], .inl ⟨rfl, rfl⟩, Sub.refl _⟩
  · have e1 := hh cap h2
    have htk : (cs.drop (off + a)).take (b - a) = byteCells ((t.take b).drop a) := by
      have : byteCells ((t.take b).drop a) = ((byteCells t).take b).drop a := by simp [byteCells, List.map_take, List.map_drop]
      rw [this, ← h4, List.take_take, Nat.min_eq_left hb, List.drop_take, List.drop_drop]
    have mk : ∀ ex' off', off' = off + a ∨ (b - a = 0 ∧ off' ≤ cs.length) → sliceO env 25 (.hsl bk off t.length cap ex) lo hi none = some (.hsl bk off' (b - a) (cap - a) ex') → ∃ y', sliceO env 25 (.hsl bk off t.length cap ex) lo hi none = some y' ∧ Rd L y' ((t.take b).drop a) ∧ Sub y' (.hsl bk off t.length cap ex) := by
      intro ex' off' ho he
      refine ⟨_, he, .inr (.inl ⟨bk, off', cap - a, ex', cs, by rw [htl], h1, by omega, by omega, ?_⟩), fun q hq => hq⟩
      rw [htl]
      rcases ho with rfl | ⟨hz, _⟩
      · exact htk
      · rw [hz] at htk ⊢
        rw [← htk]; rfl
    cases ex with
    | exact =>
      refine mk .exact (if a = cap then off else off + a) ?_ (by simp only [sliceO, u26, s5, vSlice, Option.bind_some, e1, hl, Nat.mul_one])
      by_cases hac : a = cap
      · rw [if_pos hac]; exact .inr ⟨by omega, by omega⟩
      · rw [if_neg hac]; exact .inl rfl
    | least =>
      by_cases hac : a < cap ∨ a = 0
      · exact mk (HCap.least.cut 1) (off + a) (.inl rfl) (by simp only [sliceO, u26, s5, vSlice, Option.bind_some, e1, hl, Nat.mul_one, hac, if_true])
      · have hba : b = a := by omega
        have hz : (t.take b).drop a = [] := List.eq_nil_of_length_eq_zero (by rw [htl]; omega)
        subst hba
        refine ⟨.row [] 0 .unk, by simp only [sliceO, u26, s5, vSlice, Option.bind_some, e1, hl, Nat.mul_one, hac, if_false, if_true], .inr (.inr ⟨[], .unk, by rw [hz]; rfl, by rw [hz]; simp, by rw [hz]; rfl⟩), fun q hq => by cases hq⟩
    | grow s =>
      by_cases hac : a < cap ∨ a = 0
      · exact mk ((HCap.grow s).cut 1) (off + a) (.inl rfl) (by simp only [sliceO, u26, s5, vSlice, Option.bind_some, e1, hl, Nat.mul_one, hac, if_true])
      · have hba : b = a := by omega
        have hz : (t.take b).drop a = [] := List.eq_nil_of_length_eq_zero (by rw [htl]; omega)
        subst hba
        refine ⟨.row [] 0 .unk, by simp only [sliceO, u26, s5, vSlice, Option.bind_some, e1, hl, Nat.mul_one, hac, if_false, if_true], .inr (.inr ⟨[], .unk, by rw [hz]; rfl, by rw [hz]; simp, by rw [hz]; rfl⟩), fun q hq => by cases hq⟩
    | both s =>
      by_cases hac : a < cap ∨ a = 0
      · exact mk ((HCap.both s).cut 1) (off + a) (.inl rfl) (by simp only [sliceO, u26, s5, vSlice, Option.bind_some, e1, hl, Nat.mul_one, hac, if_true])
      · have hba : b = a := by omega
        have hz : (t.take b).drop a = [] := List.eq_nil_of_length_eq_zero (by rw [htl]; omega)
        subst hba
        refine ⟨.row [] 0 .unk, by simp only [sliceO, u26, s5, vSlice, Option.bind_some, e1, hl, Nat.mul_one, hac, if_false, if_true], .inr (.inr ⟨[], .unk, by rw [hz]; rfl, by rw [hz]; simp, by rw [hz]; rfl⟩), fun q hq => by cases hq⟩
  · have e1 := hh t.length (Nat.le_refl _)
    refine ⟨_, by simp only [sliceO, u26, s5, vSlice, Option.bind_some, e1, hl, Nat.mul_one]; exact rfl, .inr (.inr ⟨(cells.drop a).take (b - a), _, by rw [htl], by rw [htl, List.length_take, List.length_drop]; omega, ?_⟩), fun q hq => by cases hq⟩
    have : byteCells ((t.take b).drop a) = ((byteCells t).take b).drop a := by simp [byteCells, List.map_take, List.map_drop]
    rw [htl, List.take_take, Nat.min_self, this, ← h2, List.take_take, Nat.min_eq_left hb, List.drop_take]
def fieldsR : Nat → List UInt8 → Option (List (List UInt8) × List UInt8)
  | 0, p => some ([], p)
  | c + 1, p => if p.length < 2 then none else if (p.drop 2).length < numF (p.take 2) then none else
    (fieldsR c ((p.drop 2).drop (numF (p.take 2)))).map fun x => ((p.drop 2).take (numF (p.take 2)) :: x.1, x.2)
def payR (p : List UInt8) : Option Rec :=
  if p.length < 2 then none else match fieldsR (p.getD 1 0).toNat (p.drop 2) with
    | some (fs, []) => some ⟨(p.getD 0 0).toNat, fs⟩
    | _ => none
def oneR (t : List UInt8) : Option (Rec × Nat) :=
  if t.length < 4 then none else if (t.drop 4).length < numF (t.take 4) then none else if ((t.drop 4).drop (numF (t.take 4))).length < 4 then none else
    match payR ((t.drop 4).take (numF (t.take 4))) with
    | none => none
    | some r => if (numF (((t.drop 4).drop (numF (t.take 4))).take 4) : Int) = sumF ((t.drop 4).take (numF (t.take 4))) ∧ chkR r = 0 then some (r, numF (t.take 4) + 8) else none
def TK (ts ts' : List Nat) : Prop := ts.length ≤ ts'.length ∧ ∀ k, k < ts.length → ts'[k]? = ts[k]?
theorem TK.refl (ts : List Nat) : TK ts ts := ⟨Nat.le_refl _, fun _ _ => rfl⟩
theorem TK.trans {a b c : List Nat} (h : TK a b) (k : TK b c) : TK a c := ⟨Nat.le_trans h.1 k.1, fun i hi => by rw [k.2 i (Nat.lt_of_lt_of_le hi h.1), h.2 i hi]⟩
theorem TK.row {ts ts' : List Nat} {w n : Nat} {v : V} {cs : List V} (h : TK ts ts') (r : RowT ts w v n cs) : RowT ts' w v n cs := by
  obtain ⟨hl, h1 | ⟨cap, h1, h2 | ⟨k, e, h2, h3⟩⟩⟩ := r
  · exact ⟨hl, .inl h1⟩
  · exact ⟨hl, .inr ⟨cap, h1, .inl h2⟩⟩
  · exact ⟨hl, .inr ⟨cap, h1, .inr ⟨k, e, h2, by rw [h.2 k (List.getElem?_eq_some_iff.1 h3).1]; exact h3⟩⟩⟩
def RowN (n0 : Nat) (ts : List Nat) (w : Nat) (v : V) (n : Nat) (cs : List V) : Prop := RowT ts w v n cs ∧ ∀ cells m k e w', v = .row cells m (.tok k e w') → n0 ≤ k
theorem RowN.nil (n0 : Nat) (ts : List Nat) (w : Nat) : RowN n0 ts w .nilsl 0 [] := ⟨RowT.nil _ _, fun _ _ _ _ _ h => by cases h⟩
theorem RowN.full (n0 : Nat) (ts : List Nat) (w n : Nat) (cells : List V) (h : cells.length = n * w) : RowN n0 ts w (.row cells n .full) n cells := ⟨RowT.full ts w n cells h, fun _ _ _ _ _ h => by cases h⟩
theorem RowN.append {E : Env} {L : List AObj} {n0 : Nat} {ts : List Nat} {t ty ty2 : TypeId} {w n m nb : Nat} {v y : V} {cs new : List V} (h : RowN n0 ts w v n cs) (hn0 : n0 ≤ ts.length) (he : elemS E ty = some t) (hs : sz E t = some w) (hz : zeroN E t = some w) (hb : bys E t = some nb) (hu : ∃ e2, E.P.underlying ty2 = some (.slice e2))
    (hlim : (n + m) * nb ≤ lim ∧ n + m ≤ lim) (hy : vLen y = some m) (hc : vCells L w m y = some new) (hnl : new.length = m * w) (hcell : new.all V.isCell = true) :
    ∃ v' ts', appO E false ⟨L, ts⟩ ty ty2 v y = some (v', ⟨L, ts'⟩) ∧ RowN n0 ts' w v' (n + m) (cs ++ new) ∧ ts.length ≤ ts'.length ∧ (∀ k, k < n0 → ts'[k]? = ts[k]?) ∧ (m ≠ 0 → v' ≠ .nilsl) := by
  obtain ⟨e2, hu⟩ := hu
  obtain ⟨h, hk0⟩ := h
  have hlen : (cs ++ new).length = (n + m) * w := by rw [List.length_append, h.1, hnl, Nat.add_mul]
  obtain ⟨hl, hcase⟩ := id h
  unfold appO
  simp only [he, hs, hb, hu, hz, hy, hc, Option.bind_some, if_true]
  by_cases h0 : m = 0
  · subst h0
    have hn : new = [] := List.eq_nil_of_length_eq_zero (by simpa using hnl)
    subst hn
    refine ⟨v, ts, ?_, ⟨by simpa using h, hk0⟩, Nat.le_refl _, fun _ _ => rfl, fun e => absurd rfl e⟩
    rcases hcase with ⟨rfl, rfl⟩ | ⟨cap, rfl, _⟩ <;> simp [aappend]
  · have new_tok : ∀ cells, cells.length = (n + m) * w → RowN n0 (ts ++ [0]) w (.row cells (n + m) (.tok ts.length 0 w)) (n + m) cells ∧ ts.length ≤ (ts ++ [0]).length ∧ (∀ k, k < n0 → (ts ++ [0])[k]? = ts[k]?) := fun cells hc =>
      ⟨⟨⟨hc, .inr ⟨_, rfl, .inr ⟨ts.length, 0, rfl, by simp⟩⟩⟩, fun _ _ _ _ _ h => by cases h; exact hn0⟩, by simp, fun k hk => by rw [List.getElem?_append_left (by omega)]⟩
    rcases hcase with ⟨rfl, rfl⟩ | ⟨cap, rfl, hcap⟩
    · have hx : cs = [] := List.eq_nil_of_length_eq_zero (by simpa using hl)
      subst hx
      obtain ⟨a1, a2, a3⟩ := new_tok new (by simpa using hlen)
      simp only [Nat.zero_add] at hlim a1
      refine ⟨.row new m (.tok ts.length 0 w), ts ++ [0], ?_, by simpa using a1, a2, a3, fun _ => by simp⟩
      simp [aappend, h0, hlim]
    · rcases hcap with rfl | ⟨k, e, rfl, hk⟩
      · obtain ⟨a1, a2, a3⟩ := new_tok (cs ++ new) hlen
        refine ⟨.row (cs ++ new) (n + m) (.tok ts.length 0 w), ts ++ [0], ?_, a1, a2, a3, fun _ => by simp⟩
        simp only [aappend, h0, hlim, hl, hcell, and_self, if_true, if_false, Bool.false_eq_true]
      · have hkn := hk0 _ _ _ _ _ rfl
        refine ⟨.row (cs ++ new) (n + m) (.tok k (e + 1) w), ts.set k (e + 1), ?_, ⟨⟨hlen, .inr ⟨_, rfl, .inr ⟨k, e + 1, rfl, by rw [List.getElem?_set_self (List.getElem?_eq_some_iff.1 hk).1]⟩⟩⟩, fun _ _ _ _ _ h => by cases h; exact hkn⟩, by simp, fun k' hk' => by rw [List.getElem?_set_ne (by omega)], fun _ => by simp⟩
        simp only [aappend, h0, hlim, hl, hcell, hk, and_self, if_true, if_false]
def OneK (L : List AObj) (tz : List Nat) (t : List UInt8) (v : V) (σ : S) : Prop :=
  (Keep L σ.heap ∧ TK tz σ.toks) ∧ match oneR t with
    | none => v = .tup [.agg [.int .i64 0, .nilsl], .int .i64 0, .bool false]
    | some (r, n) => ∃ fv, Fld fv r.fs ∧ v = .tup [.agg [.int .i64 r.k, fv], .int .i64 n, .bool true]
structure St (L H : List AObj) (k : Int) (fv : V) : Prop where
  keep : Keep L H
  b0 : H[L.length]? = some (.cells [.int .i64 k, fv] 24)
  b1 : H[L.length + 1]? = some (.cells [.int .i64 0] 3)
  b2 : H[L.length + 2]? = some (.cells [.bool false] 4)
theorem Keep.setge {L H : List AObj} (h : Keep L H) {c : Nat} (hc : L.length ≤ c) (o : AObj) : Keep L (H.set c o) := ⟨by rw [List.length_set]; exact h.1, fun q hq => by rw [List.getElem?_set_ne (by omega)]; exact h.2 q hq⟩
theorem St.set {L H : List AObj} {k : Int} {fv : V} (h : St L H k fv) {c : Nat} (hc : L.length + 3 ≤ c) (o : AObj) : St L (H.set c o) k fv :=
  ⟨h.keep.setge (by omega) o, by rw [List.getElem?_set_ne (by omega)]; exact h.b0, by rw [List.getElem?_set_ne (by omega)]; exact h.b1, by rw [List.getElem?_set_ne (by omega)]; exact h.b2⟩
theorem St.trans {L H H' : List AObj} {k : Int} {fv : V} (h : St L H k fv) (hk : Keep H H') : St L H' k fv := ⟨h.keep.trans hk, hk.get h.b0, hk.get h.b1, hk.get h.b2⟩
end Go.Proofs.Ytncohjljeoknkaa.D
namespace Go.Proofs.Ytncohjljeoknkaa.D
open Go.Ab
set_option maxHeartbeats 8000000
set_option maxRecDepth 100000
set_option linter.unusedSimpArgs false
set_option linter.unusedVariables false
noncomputable def rs75 : List ResultVar := Try.f32.results.toList
noncomputable def caps75 (L : List AObj) : List V := [.ptr L.length 0, .ptr (L.length + 1) 0, .ptr (L.length + 2) 0]
noncomputable def D75 (L : List AObj) : List DE := [.call 33 (caps75 L)]
noncomputable def X75 (L : List AObj) (tz : List Nat) (t : List UInt8) : V → List V → List DE → S → Prop := EndX' env 33 (caps75 L) rs75 (OneK L tz t)
noncomputable def E75 (L : List AObj) (tz : List Nat) (t : List UInt8) : Tm → List DE → S → Prop := EndD env 33 (caps75 L) rs75 (OneK L tz t)
noncomputable def Q75 (L : List AObj) (tz : List Nat) (t : List UInt8) : Post := ⟨E75 L tz t, fun _ _ _ _ => False, E75 L tz t⟩
noncomputable def One (L : List AObj) (tz : List Nat) (t : List UInt8) (c : Code) (T : Tm) (σ : S) : Prop := wpP env 32 none 67 (X75 L tz t) c T (D75 L) σ (Q75 L tz t)
def Ad (L : List AObj) (T : Tm) : Prop := T 2 = .ptr L.length 0 ∧ T 3 = .ptr (L.length + 1) 0 ∧ T 4 = .ptr (L.length + 2) 0
theorem l55 {A : List AObj} {q : Nat} {a b : V} (h : A[q]? = some (.cells [a, b] 24)) : aload env A 24 (.ptr q 0) = some (.agg [a, b]) := by rw [agg55]; simp [loadCellsV, h]
section
variable {L H : List AObj} {tz ts : List Nat} {t : List UInt8} {T : Tm} {k : Int} {fv : V} {rest : Code}
end
end Go.Proofs.Ytncohjljeoknkaa.D
namespace Go.Proofs.Ytncohjljeoknkaa.D
open Go.Ab
set_option maxHeartbeats 8000000
set_option maxRecDepth 100000
set_option linter.unusedSimpArgs false
set_option linter.unusedVariables false
def finR (k : Int) (sum : Nat) (body : List UInt8) : Option (List (List UInt8) × List UInt8) → Option (Rec × Nat)
  | none => none
  | some (fs, left) => if left = [] ∧ (sum : Int) = sumF body ∧ chkR ⟨k, fs⟩ = 0 then some (⟨k, fs⟩, body.length + 8) else none
theorem RowT.fld {ts : List Nat} {v : V} {fs : List (List UInt8)} (h : RowT ts 1 v fs.length (fs.map .str)) : Fld v fs := by
  rcases h.or with ⟨rfl, h0, _⟩ | ⟨cap, rfl⟩
  · exact .inl ⟨rfl, List.eq_nil_of_length_eq_zero h0⟩
  · exact .inr ⟨cap, rfl⟩
section
variable {L H : List AObj} {tz ts : List Nat} {t : List UInt8} {T : Tm} {k : Int} {fv : V} {rest : Code}
structure Rnd (L : List AObj) (tz : List Nat) (t : List UInt8) (k : Int) (sum : Nat) (body : List UInt8) (c : Nat) (yb : V) (j : Nat) (T : Tm) (σ : S) (i : Nat) (acc : List (List UInt8)) (p : List UInt8) (fv yp : V) : Prop where
  ad : Ad L T
  t7 : T 7 = yb
  t8 : T 8 = .int .u32 sum
  t9 : T 9 = .ptr (L.length + 4) 0
  t34 : T 34 = .int .u8 c
  t35 : T 35 = .int .u8 j
  le : i ≤ c
  len : acc.length = i
  st : St L σ.heap k fv
  tk : TK tz σ.toks
  row : RowN tz.length σ.toks 1 fv acc.length (acc.map .str)
  box : σ.heap[L.length + 4]? = some (.cells [yp] 77)
  rd : Rd L yp p
  ho : oneR t = finR k sum body ((fieldsR (c - i) p).map fun x => (acc ++ x.1, x.2))
end
end Go.Proofs.Ytncohjljeoknkaa.D
namespace Go.Proofs.Ytncohjljeoknkaa.D
open Go.Ab
set_option maxHeartbeats 8000000
set_option maxRecDepth 100000
set_option linter.unusedSimpArgs false
set_option linter.unusedVariables false
section
variable {L H : List AObj} {tz ts : List Nat} {t : List UInt8} {T : Tm} {k : Int} {fv : V}
theorem St.kind (hs : St L H k fv) (k' : Int) (fv' : V) : St L (H.set L.length (.cells [.int .i64 k', fv'] 24)) k' fv' :=
  ⟨hs.keep.setge (Nat.le_refl _) _, List.getElem?_set_self (B.lt_get hs.b0), by rw [List.getElem?_set_ne (by omega)]; exact hs.b1, by rw [List.getElem?_set_ne (by omega)]; exact hs.b2⟩
end
end Go.Proofs.Ytncohjljeoknkaa.D
namespace Go.Proofs.Ytncohjljeoknkaa.D
open Go.Ab
set_option maxHeartbeats 8000000
set_option maxRecDepth 100000
set_option linter.unusedSimpArgs false
set_option linter.unusedVariables false
def RecC : List Rec → List V → Prop
  | [], cs => cs = []
  | r :: rs, cs => ∃ fv cs', cs = .int .i64 r.k :: fv :: cs' ∧ Fld fv r.fs ∧ RecC rs cs'
theorem RecC.cell {rs : List Rec} {cs : List V} (h : RecC rs cs) : cs.all V.isCell = true ∧ cs.length = rs.length * 2 := by
  induction rs generalizing cs with
  | nil => simp only [RecC] at h; subst h; exact ⟨rfl, rfl⟩
  | cons a rs ih =>
    obtain ⟨gv, cs', rfl, h1, h2⟩ := h
    obtain ⟨a1, a2⟩ := ih h2
    refine ⟨?_, by simp [a2]; omega⟩
    simp only [List.all_cons, a1, h1.isCell, Bool.and_true]; rfl
def RowR (n0 : Nat) (ts : List Nat) (lv : V) (rs : List Rec) : Prop := ∃ cs, RowN n0 ts 2 lv rs.length cs ∧ RecC rs cs
theorem RowR.nil (n0 : Nat) (ts : List Nat) : RowR n0 ts .nilsl [] := ⟨[], RowN.nil _ _ _, rfl⟩
theorem RowR.cells {n0 : Nat} {ts : List Nat} {lv : V} {rs : List Rec} (h : RowR n0 ts lv rs) : lv.cells = [lv] ∧ lv.isCell = true := by
  obtain ⟨cs, h, _⟩ := h
  exact h.1.cells
theorem RowR.tk {n0 : Nat} {ts ts' : List Nat} {lv : V} {rs : List Rec} (hk : TK ts ts') (h : RowR n0 ts lv rs) : RowR n0 ts' lv rs := by
  obtain ⟨cs, ⟨h1, h2⟩, h3⟩ := h
  exact ⟨cs, ⟨hk.row h1, h2⟩, h3⟩
structure PR (L : List AObj) (tz : List Nat) (lo : AObj) (rs : List Rec) (used : Nat) (p : List UInt8) (H : List AObj) (ts : List Nat) : Prop where
  keep : Keep L H
  tk : TK tz ts
  b0 : ∃ lv, H[L.length]? = some (.cells [lv] 35) ∧ RowR tz.length ts lv rs
  b1 : H[L.length + 1]? = some (.cells [.int .i64 used] 3)
  b2 : ∃ yb, H[L.length + 2]? = some (.cells [yb] 25) ∧ Rd L yb p
  b3 : H[L.length + 3]? = some (.defd true)
  b4 : H[L.length + 4]? = some lo
theorem PR.trans {L : List AObj} {tz : List Nat} {lo : AObj} {rs : List Rec} {used : Nat} {p : List UInt8} {H H' : List AObj} {ts ts' : List Nat} (h : PR L tz lo rs used p H ts) (hk : Keep H H') (ht : TK ts ts') : PR L tz lo rs used p H' ts' := by
  obtain ⟨lv, c1, c2⟩ := h.b0
  obtain ⟨yb, c3, c4⟩ := h.b2
  exact ⟨h.keep.trans hk, h.tk.trans ht, ⟨lv, hk.get c1, c2.tk ht⟩, hk.get h.b1, ⟨yb, hk.get c3, c4⟩, hk.get h.b3, hk.get h.b4⟩
end Go.Proofs.Ytncohjljeoknkaa.D
namespace Go.Proofs.Ytncohjljeoknkaa.D
open Go.Ab
set_option maxHeartbeats 8000000
set_option maxRecDepth 100000
set_option linter.unusedSimpArgs false
set_option linter.unusedVariables false
theorem at6 : env.P.funcs[6]? = some Try.f6 := by kernel_rfl
def RdR (L : List AObj) (v : V) (rs : List Rec) : Prop := ∃ cs, RdS L 2 v rs.length cs ∧ RecC rs cs
theorem RowR.rd {n0 : Nat} {ts : List Nat} {lv : V} {rs : List Rec} (h : RowR n0 ts lv rs) (L : List AObj) : RdR L lv rs := by
  obtain ⟨cs, h1, h2⟩ := h
  exact ⟨cs, h1.1.rd L, h2⟩
theorem RecC.get {rs : List Rec} {cs : List V} (h : RecC rs cs) {i : Nat} (hi : i < rs.length) : ∃ fv, (cs.drop (i * 2)).take 2 = [.int .i64 rs[i].k, fv] ∧ Fld fv rs[i].fs := by
  induction rs generalizing cs i with
  | nil => simp at hi
  | cons a rs ih =>
    obtain ⟨gv, cs', rfl, h1, h2⟩ := h
    cases i with
    | zero => exact ⟨gv, rfl, h1⟩
    | succ i =>
      obtain ⟨fv, e, hf⟩ := ih h2 (i := i) (by simpa using hi)
      exact ⟨fv, by rw [show (i + 1) * 2 = i * 2 + 2 by omega]; exact e, hf⟩
theorem RdR.len {L : List AObj} {v : V} {rs : List Rec} (h : RdR L v rs) (e : TypeId) : vLenT (some (.slice e)) v = some (.int .i64 rs.length) := by
  obtain ⟨cs, h, _⟩ := h
  exact h.2.1 e
theorem load2 {L : List AObj} {p x y : V} (h : loadCellsV L 2 p = some [x, y]) : ∃ p0 p1, vFieldAddr 0 p = some p0 ∧ vFieldAddr 1 p = some p1 ∧ (loadCellsV L 1 p0).bind (·[0]?) = some x ∧ (loadCellsV L 1 p1).bind (·[0]?) = some y := by
  cases p with
  | rptr cells =>
    unfold loadCellsV at h
    simp only at h
    split at h
    · rename_i hl
      simp only [Option.some.injEq] at h
      refine ⟨_, _, rfl, rfl, ?_, ?_⟩
      · match cells, h with
        | a :: b :: r, h =>
          simp only [List.take_succ_cons, List.take_zero, List.cons.injEq, and_true] at h
          simp [loadCellsV, h.1]
      · match cells, h with
        | a :: b :: r, h =>
          simp only [List.take_succ_cons, List.take_zero, List.cons.injEq, and_true] at h
          simp [loadCellsV, h.2]
    · cases h
  | ptr b off =>
    have key : ∀ cs : List V, (cs.drop off).take 2 = [x, y] → cs[off]? = some x ∧ cs[off + 1]? = some y := by
      intro cs e
      have e1 := congrArg (·[0]?) e
      have e2 := congrArg (·[1]?) e
      simp only [List.getElem?_take_of_lt (show 0 < 2 by omega), List.getElem?_take_of_lt (show 1 < 2 by omega), List.getElem?_drop, Nat.add_zero] at e1 e2
      exact ⟨e1, e2⟩
    refine ⟨_, _, rfl, rfl, ?_, ?_⟩
    · rw [YA, Nat.add_zero]
      unfold loadCellsV at h
      simp only at h
      cases hL : L[b]? with
      | none => rw [hL] at h; cases h
      | some o =>
        rw [hL] at h
        cases o with
        | cells cs t =>
          simp only at h
          split at h
          · exact (key cs (Option.some.inj h)).1
          · cases h
        | ro cs t =>
          simp only at h
          split at h
          · exact (key cs (Option.some.inj h)).1
          · cases h
        | _ => cases h
    · rw [YA]
      unfold loadCellsV at h
      simp only at h
      cases hL : L[b]? with
      | none => rw [hL] at h; cases h
      | some o =>
        rw [hL] at h
        cases o with
        | cells cs t =>
          simp only at h
          split at h
          · exact (key cs (Option.some.inj h)).2
          · cases h
        | ro cs t =>
          simp only at h
          split at h
          · exact (key cs (Option.some.inj h)).2
          · cases h
        | _ => cases h
  | _ => cases h
theorem RdR.idx {L : List AObj} {v : V} {rs : List Rec} (h : RdR L v rs) {i : Nat} (hi : i < rs.length) : ∃ p p0 p1 fv, vIndexAddr 2 v (.int .i64 (i : Int)) = some p ∧ vFieldAddr 0 p = some p0 ∧ vFieldAddr 1 p = some p1 ∧ (loadCellsV L 1 p0).bind (·[0]?) = some (.int .i64 rs[i].k) ∧ (loadCellsV L 1 p1).bind (·[0]?) = some fv ∧ loadCellsV L 2 p = some [.int .i64 rs[i].k, fv] ∧ Fld fv rs[i].fs := by
  obtain ⟨cs, h1, h2⟩ := h
  obtain ⟨p, a1, a2⟩ := h1.2.2.2 i hi
  obtain ⟨fv, e, hf⟩ := h2.get hi
  rw [e] at a2
  obtain ⟨p0, p1, b1, b2, b3, b4⟩ := load2 a2
  exact ⟨p, p0, p1, fv, a1, b1, b2, b3, b4, a2, hf⟩
def longN (fs : List (List UInt8)) (n : Nat) : Bool := (fs.take n).any fun f => decide (400 < f.length)
def longR (r : Rec) : Bool := longN r.fs 71 || decide (70 < r.fs.length)
theorem long_call {L : List AObj} {ts : List Nat} {r : Rec} {fv : V} (hf : Fld fv r.fs) : callFn env (ev env) 6 [.agg [.int .i64 r.k, fv]] ⟨L, ts⟩ = some (.bool (longR r), ⟨L ++ [.cells [.int .i64 r.k, fv] 24], ts⟩) := by
  have hlen := hf.len 9
  have hlast : ∀ o, (L ++ [o])[L.length]? = some o := fun o => by simp
  refine callFn_eq rfl rfl at6 rfl (by simp [Try.f6]) (by simp [Try.f6]) (G_start ?_)
  simp -implicitDefEqProofs only [Try.f6,Wa,Wb,Wc,Wd,We,Wf,Wg,Wh,Wi,Wj,Wk,Wl,Wm,Wn,Zo,Zp,evalT,Nat.reduceLT,Nat.reduceEqDiff,if_true,if_false,reduceIte,Ys,ofVal,ofCell,argT,resT,setT,Y0,Int.reduceEq,Int.reduceLT,Int.reduceLE,Int.reduceNeg,mb,Nat.reduceBEq,tys,stb,Va,storeList,Nat.reduceAdd,Nat.reduceLeDiff,tyj,vBin_xor,vBin_or,vBin_shl,vBin_shr,hlast]
  refine loop_rule (fun m T D σ => D = [] ∧ σ = ⟨L ++ [.cells [.int .i64 r.k, fv] 24], ts⟩ ∧ T 1 = .ptr L.length 0 ∧ ∃ i : Nat, i ≤ r.fs.length ∧ i ≤ 71 ∧ m = 71 - i ∧ T 3 = .int .i64 i ∧ longN r.fs i = false) ?_ 71 _ _ _ ⟨rfl, rfl, rfl, 0, by omega, by omega, rfl, rfl, rfl⟩
  rintro m T D σ ⟨rfl, rfl, t1, i, hi, hi2, rfl, t3, hn⟩
  refine G_start ?_
  have stop : longN r.fs 71 = longN r.fs i → longR r = decide (70 < r.fs.length) := fun h => by
    unfold longR
    rw [h, hn]; rfl
  by_cases hlt : i < r.fs.length
  · have c1 : (i : Int) < (r.fs.length : Int) := by omega
    by_cases h71 : i < 71
    · have c2 : (i : Int) < 71 := by omega
      have w1 : IntKind.wrap .i64 ((i : Int) + 1) = ((i + 1 : Nat) : Int) := by rw [B.wrap64 (by omega)]; omega
      obtain ⟨x, x1, x2⟩ := hf.idx hlt (L ++ [.cells [.int .i64 r.k, fv] 24])
      have ht : longN r.fs (i + 1) = (longN r.fs i || decide (400 < r.fs[i].length)) := by
        unfold longN
        rw [List.take_succ_eq_append_getElem hlt, List.any_append]; simp
      by_cases c3 : 400 < r.fs[i].length
      · have c3' : (400 : Int) < (r.fs[i].length : Int) := by omega
        have hr : longR r = true := by
          have : longN r.fs 71 = true := by
            unfold longN
            rw [List.any_eq_true]
            refine ⟨r.fs[i], ?_, by simp [c3]⟩
            exact List.mem_take_iff_getElem.2 ⟨i, by omega, rfl⟩
          unfold longR; rw [this]; rfl
        simp -implicitDefEqProofs only [Wa,Wb,Wc,Wd,We,Wf,Wg,Wh,Wi,Wj,Wk,Wl,Wm,Wn,Zo,Zp,evalT,Nat.reduceLT,Nat.reduceEqDiff,if_true,if_false,reduceIte,Ys,ofVal,ofCell,argT,resT,setT,Y0,Int.reduceEq,Int.reduceLT,Int.reduceLE,Int.reduceNeg,mb,Nat.reduceBEq,tys,stb,Va,storeList,Nat.reduceAdd,Nat.reduceLeDiff,tyj,vBin_xor,vBin_or,vBin_shl,vBin_shr,t1,t3,hlast,hlen,c1,c2,x1,x2,lenS,c3']
        exact ⟨by rw [hr]; rfl, trivial⟩
      · have c3' : ¬ (400 : Int) < (r.fs[i].length : Int) := by omega
        simp -implicitDefEqProofs only [Wa,Wb,Wc,Wd,We,Wf,Wg,Wh,Wi,Wj,Wk,Wl,Wm,Wn,Zo,Zp,evalT,Nat.reduceLT,Nat.reduceEqDiff,if_true,if_false,reduceIte,Ys,ofVal,ofCell,argT,resT,setT,Y0,Int.reduceEq,Int.reduceLT,Int.reduceLE,Int.reduceNeg,mb,Nat.reduceBEq,tys,stb,Va,storeList,Nat.reduceAdd,Nat.reduceLeDiff,tyj,vBin_xor,vBin_or,vBin_shl,vBin_shr,t1,t3,hlast,hlen,c1,c2,x1,x2,lenS,c3',w1]
        exact ⟨71 - (i + 1), by omega, i + 1, by omega, by omega, rfl, rfl, by rw [ht, hn, decide_eq_false c3]; rfl⟩
    · have c2 : ¬ (i : Int) < 71 := by omega
      have e : i = 71 := by omega
      have hr := stop (by rw [e])
      have c4 : (70 : Int) < (r.fs.length : Int) := by omega
      simp -implicitDefEqProofs only [Wa,Wb,Wc,Wd,We,Wf,Wg,Wh,Wi,Wj,Wk,Wl,Wm,Wn,Zo,Zp,evalT,Nat.reduceLT,Nat.reduceEqDiff,if_true,if_false,reduceIte,Ys,ofVal,ofCell,argT,resT,setT,Y0,Int.reduceEq,Int.reduceLT,Int.reduceLE,Int.reduceNeg,mb,Nat.reduceBEq,tys,stb,Va,storeList,Nat.reduceAdd,Nat.reduceLeDiff,tyj,vBin_xor,vBin_or,vBin_shl,vBin_shr,t1,t3,hlast,hlen,c1,c2,c4]
      exact ⟨by rw [hr, decide_eq_true (by omega)]; rfl, trivial⟩
  · have c1 : ¬ (i : Int) < (r.fs.length : Int) := by omega
    have e : i = r.fs.length := by omega
    have hr := stop (by unfold longN; rw [List.take_of_length_le (by omega), List.take_of_length_le (by omega)])
    have c4 : decide ((70 : Int) < (r.fs.length : Int)) = decide (70 < r.fs.length) := by
      by_cases h : 70 < r.fs.length
      · rw [decide_eq_true h, decide_eq_true (by omega)]
      · rw [decide_eq_false h, decide_eq_false (by omega)]
    simp -implicitDefEqProofs only [Wa,Wb,Wc,Wd,We,Wf,Wg,Wh,Wi,Wj,Wk,Wl,Wm,Wn,Zo,Zp,evalT,Nat.reduceLT,Nat.reduceEqDiff,if_true,if_false,reduceIte,Ys,ofVal,ofCell,argT,resT,setT,Y0,Int.reduceEq,Int.reduceLT,Int.reduceLE,Int.reduceNeg,mb,Nat.reduceBEq,tys,stb,Va,storeList,Nat.reduceAdd,Nat.reduceLeDiff,tyj,vBin_xor,vBin_or,vBin_shl,vBin_shr,t1,t3,hlast,hlen,c1,c4]
    exact ⟨by rw [hr]; rfl, trivial⟩
end Go.Proofs.Ytncohjljeoknkaa.D
namespace Go.Proofs.Ytncohjljeoknkaa.D
open Go.Ab
set_option maxHeartbeats 8000000
set_option maxRecDepth 100000
set_option linter.unusedSimpArgs false
set_option linter.unusedVariables false
structure Pay (L : List AObj) (tz : List Nat) (p : List UInt8) (y : V) (c : Nat) (T : Tm) (H : List AObj) (ts : List Nat) (i pos : Nat) (acc : List (List UInt8)) (fv : V) : Prop where
  t0 : T 0 = y
  t2 : T 2 = .ptr L.length 0
  t3 : T 3 = .bool false
  t4 : T 4 = .ptr (L.length + 1) 0
  t5 : T 5 = .int .i64 pos
  t6 : T 6 = .int .i64 i
  le : i ≤ c
  pl : pos ≤ p.length
  len : acc.length = i
  hp : H = L ++ [.cells [.int .i64 0, .nilsl] 24, .cells [.int .i64 ((p.getD 0 0).toNat : Int), fv] 24]
  tk : TK tz ts
  row : RowN tz.length ts 1 fv acc.length (acc.map .str)
  ho : fieldsR c (p.drop 2) = (fieldsR (c - i) (p.drop pos)).map fun x => (acc ++ x.1, x.2)
end Go.Proofs.Ytncohjljeoknkaa.D
