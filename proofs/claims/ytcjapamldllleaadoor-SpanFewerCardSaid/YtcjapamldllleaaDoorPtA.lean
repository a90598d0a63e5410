/- Proved here: expressions as trees: their values are within their spans. Conditions: those of each theorem; no statement of the seat is proved in this text. -/
import Derived.Test.YtcjapamldllleaaDoorSrB
namespace Go.Proofs.YtcjapamldllleaaDoor
open Go.Ab
set_option maxHeartbeats 4000000
set_option maxRecDepth 100000
set_option linter.unusedSimpArgs false
set_option linter.unusedVariables false
inductive Ex where
  | num (n : Int)
  | col (nm : List UInt8)
  | wrd (nm w : List UInt8) (op : Int)
  | una (op : Int) (a : Ex)
  | bin (op : Int) (a b : Ex)
  | ite (c a b : Ex)
abbrev opN (op : Int) : Nd := ⟨op, 0, []⟩
def Ex.post : Ex → List Nd
  | num n => [⟨1, n, []⟩]
  | col nm => [⟨2, 0, nm⟩]
  | wrd nm w op => [⟨2, 0, nm⟩, ⟨3, 0, w⟩, opN op]
  | una op a => a.post ++ [opN op]
  | bin op a b => a.post ++ (b.post ++ [opN op])
  | ite c a b => c.post ++ (a.post ++ (b.post ++ [opN 8]))
def Ex.kind : Ex → Int
  | num _ => 0
  | col _ => 0
  | wrd _ _ _ => 1
  | una op _ => (takesN op).2
  | bin op _ _ => (takesN op).2
  | ite _ _ _ => 0
def WF (cs : List Col) : Ex → Prop
  | .num n => 0 ≤ n ∧ n ≤ 1000000000
  | .col nm => 0 ≤ seekK cs nm
  | .wrd nm w op => 0 ≤ seekK cs nm ∧ w ∈ (colN cs nm).ws ∧ (op = 9 ∨ op = 10)
  | .una op a => WF cs a ∧ (op = 7 ∨ op = 17) ∧ (takesN op).1 = [a.kind]
  | .bin op a b => WF cs a ∧ WF cs b ∧ (4 ≤ op ∧ op ≤ 16 ∧ op ≠ 7 ∧ op ≠ 8) ∧ (takesN op).1 = [a.kind, b.kind]
  | .ite c a b => WF cs c ∧ WF cs a ∧ WF cs b ∧ c.kind = 1 ∧ a.kind = 0 ∧ b.kind = 0
def place (cs : List Col) (nm w : List UInt8) : Int := placeW (colN cs nm).ws w (colN cs nm).ws.length 0
def colI (cs : List Col) (nm : List UInt8) : Iv := ((colN cs nm).lo, (colN cs nm).hi)
def cellX (cs : List Col) (xs : List Int) (nm : List UInt8) : Int := xs.getD (seekK cs nm).toNat 0
def Ex.val (cs : List Col) (xs : List Int) : Ex → Int
  | num n => n
  | col nm => cellX cs xs nm
  | wrd nm w op => opV op [cellX cs xs nm, place cs nm w]
  | una op a => opV op [a.val cs xs]
  | bin op a b => opV op [a.val cs xs, b.val cs xs]
  | ite c a b => opV 8 [c.val cs xs, a.val cs xs, b.val cs xs]
def Ex.spn (cs : List Col) : Ex → Iv
  | num n => dup n
  | col nm => colI cs nm
  | wrd nm w op => opI op (colI cs nm) (dup (place cs nm w)) (0, 0)
  | una op a => opI op (a.spn cs) (0, 0) (0, 0)
  | bin op a b => opI op (a.spn cs) (b.spn cs) (0, 0)
  | ite c a b => opI 8 (c.spn cs) (a.spn cs) (b.spn cs)
def At (l : List Nd) (i : Nat) (p : List Nd) : Prop := ∀ k, k < p.length → l[i + k]? = p[k]?
theorem At.left {l : List Nd} {i : Nat} {a b : List Nd} (h : At l i (a ++ b)) : At l i a := fun k hk => by
  rw [h k (by rw [List.length_append]; omega), List.getElem?_append_left hk]
theorem At.right {l : List Nd} {i : Nat} {a b : List Nd} (h : At l i (a ++ b)) : At l (i + a.length) b := fun k hk => by
  have := h (a.length + k) (by rw [List.length_append]; omega)
  rw [← Nat.add_assoc, List.getElem?_append_right (by omega), Nat.add_sub_cancel_left] at this
  exact this
theorem At.hd {l : List Nd} {i : Nat} {x : Nd} {r : List Nd} (h : At l i (x :: r)) : gN l i = x ∧ i < l.length := by
  have := h 0 (by simp)
  simp only [Nat.add_zero, List.getElem?_cons_zero] at this
  exact ⟨by simp [gN, List.getD, this], (List.getElem?_eq_some_iff.1 this).1⟩
theorem At.tl {l : List Nd} {i : Nat} {x : Nd} {r : List Nd} (h : At l i (x :: r)) : At l (i + 1) r := fun k hk => by
  have := h (k + 1) (by simpa using hk)
  rw [show i + (k + 1) = i + 1 + k by omega] at this
  simpa using this
theorem At.all (l : List Nd) : At l 0 l := fun k _ => by rw [Nat.zero_add]
theorem nodeE_zero {l : List Nd} {i : Nat} {cs : List Col} {x : Nd} (h : gN l i = x) (h1 : ¬ BadF x) (h2 : 0 ≤ x.n ∧ x.n ≤ 1000000000) (h3 : x.op = 3 → wordE l i cs = 0) (h4 : x.op = 2 → 0 ≤ seekK cs x.col) : nodeE l i cs = 0 := by
  subst h
  unfold nodeE
  rw [if_neg h1, if_neg (by omega)]
  by_cases h : (gN l i).op = 3
  · rw [if_pos h]; exact h3 h
  · rw [if_neg h, if_neg (fun hh => by have := h4 hh.1; omega)]
theorem nodeE_op0 {l : List Nd} {i : Nat} {cs : List Col} {op : Int} (h : gN l i = opN op) (h1 : 4 ≤ op) (h2 : op ≤ 17) : nodeE l i cs = 0 :=
  nodeE_zero h (by unfold BadF; simp; omega) ⟨Int.le_refl _, by simp⟩ (fun e => by simp only at e; omega) (fun e => by simp only at e; omega)
theorem expr_step {l : List Nd} {cs : List Col} {m i : Nat} {st st' : List Int} (hn : nodeE l i cs = 0) (hp : popN st (takesN (gN l i).op).1 = some st') : exprL l cs (m + 1) i st = exprL l cs m (i + 1) (st' ++ [(takesN (gN l i).op).2]) := by
  simp only [exprL, hn, if_true, hp]
theorem popN_app (st want : List Int) : popN (st ++ want) want = some st := by
  unfold popN
  have e : (st ++ want).length - want.length = st.length := by rw [List.length_append]; omega
  rw [if_pos ⟨by rw [List.length_append]; omega, by rw [e, List.drop_left]⟩, e, List.take_left]
theorem take_app' {α : Type} (x y : List α) : (x ++ y).take ((x ++ y).length - y.length) = x ∧ (x ++ y).drop ((x ++ y).length - y.length) = y := by
  have e : (x ++ y).length - y.length = x.length := by rw [List.length_append]; omega
  rw [e]; exact ⟨List.take_left, List.drop_left⟩
theorem op_chunk {l : List Nd} {i : Nat} {cs : List Col} {op : Int} (h : gN l i = opN op) (h1 : 4 ≤ op) (h2 : op ≤ 17) (xs : List Int) (m : Nat) (st vs : List Int) (is : List Iv) (ks zs : List Int) (ps : List Iv) (hk : (takesN op).1 = ks) (hz : zs.length = (arI op).toNat) (hq : ps.length = (arI op).toNat) :
    exprL l cs (m + 1) i (st ++ ks) = exprL l cs m (i + 1) (st ++ [(takesN op).2]) ∧ runL l cs xs (m + 1) i (vs ++ zs) = runL l cs xs m (i + 1) (vs ++ [opV op zs]) ∧
    runI l cs (m + 1) i (is ++ ps) = runI l cs m (i + 1) (is ++ [opI op (at0 ps 0) (at0 ps 1) (at0 ps 2)]) := by
  have ho : (gN l i).op = op := by rw [h]
  refine ⟨?_, ?_, ?_⟩
  · rw [expr_step (nodeE_op0 h h1 h2) (st' := st) (by rw [ho, hk]; exact popN_app st ks), ho]
  · simp only [runL, stepV, ho]
    obtain ⟨e1, e2⟩ := take_app' vs zs
    rw [hz] at e1 e2
    rw [if_neg (by omega), if_neg (by omega), if_neg (by omega), e1, e2]
  · simp only [runI, stepI, ho]
    obtain ⟨e1, e2⟩ := take_app' is ps
    rw [hq] at e1 e2
    rw [if_neg (by omega), if_neg (by omega), if_neg (by omega), e1, e2]
theorem nodeE_col {l : List Nd} {i : Nat} {cs : List Col} {nm : List UInt8} (h : gN l i = ⟨2, 0, nm⟩) (hs : 0 ≤ seekK cs nm) : nodeE l i cs = 0 :=
  nodeE_zero h (by unfold BadF; simp) ⟨Int.le_refl _, by simp⟩ (fun e => by simp only at e; omega) (fun _ => hs)
theorem col_chunk {l : List Nd} {i : Nat} {cs : List Col} {nm : List UInt8} (h : gN l i = ⟨2, 0, nm⟩) (hs : 0 ≤ seekK cs nm) (xs : List Int) (m : Nat) (st vs : List Int) (is : List Iv) :
    exprL l cs (m + 1) i st = exprL l cs m (i + 1) (st ++ [0]) ∧ runL l cs xs (m + 1) i vs = runL l cs xs m (i + 1) (vs ++ [cellX cs xs nm]) ∧ runI l cs (m + 1) i is = runI l cs m (i + 1) (is ++ [colI cs nm]) := by
  refine ⟨?_, ?_, ?_⟩
  · have hp := popN_app st []
    rw [List.append_nil] at hp
    rw [expr_step (nodeE_col h hs) (st' := st) (by rw [h]; exact hp), h]; rfl
  · simp only [runL, stepV, h]; rfl
  · simp only [runI, stepI, h]; rfl
theorem word_chunk {l : List Nd} {i : Nat} {cs : List Col} {nm w : List UInt8} {op : Int} (h0 : gN l i = ⟨2, 0, nm⟩) (h : gN l (i + 1) = ⟨3, 0, w⟩) (h2 : gN l (i + 2) = opN op) (hl : i + 2 < l.length) (ho : op = 9 ∨ op = 10) (hw : w ∈ (colN cs nm).ws) (xs : List Int) (m : Nat) (st vs : List Int) (is : List Iv) :
    exprL l cs (m + 1) (i + 1) st = exprL l cs m (i + 2) (st ++ [0]) ∧ runL l cs xs (m + 1) (i + 1) vs = runL l cs xs m (i + 2) (vs ++ [place cs nm w]) ∧ runI l cs (m + 1) (i + 1) is = runI l cs m (i + 2) (is ++ [dup (place cs nm w)]) := by
  have hwl : wordV l (i + 1) cs = place cs nm w := by unfold wordV place; rw [Nat.add_sub_cancel, h0, h]
  refine ⟨?_, ?_, ?_⟩
  · have hn : nodeE l (i + 1) cs = 0 := by
      have hb : ¬ BadW l (i + 1) := by
        unfold BadW
        rw [Nat.add_sub_cancel, h0, show i + 1 + 1 = i + 2 by omega, h2]
        simp only
        omega
      refine nodeE_zero h (by unfold BadF; simp) ⟨Int.le_refl _, by simp⟩ (fun _ => ?_) (fun e => by simp only at e; omega)
      unfold wordE
      rw [if_neg hb, Nat.add_sub_cancel, h0, h]
      simp only
      rw [if_neg (fun e => by rw [List.eq_nil_of_length_eq_zero e] at hw; simp at hw), if_pos hw]
    have hp := popN_app st []
    rw [List.append_nil] at hp
    rw [expr_step hn (st' := st) (by rw [h]; exact hp), h]; rfl
  · simp only [runL, stepV, h, hwl]; rfl
  · simp only [runI, stepI, h, hwl]; rfl
theorem ar2 {op : Int} (h : 4 ≤ op ∧ op ≤ 16 ∧ op ≠ 7 ∧ op ≠ 8) : (arI op).toNat = 2 := by unfold arI; rw [if_neg (by omega), if_neg (by omega)]; rfl
theorem ar1 {op : Int} (h : op = 7 ∨ op = 17) : (arI op).toNat = 1 := by unfold arI; rw [if_pos h]; rfl
theorem Ex.chunk (cs : List Col) (xs : List Int) : ∀ (e : Ex), WF cs e → ∀ (l : List Nd) (i : Nat), At l i e.post → ∀ (m : Nat) (st vs : List Int) (is : List Iv),
    exprL l cs (m + e.post.length) i st = exprL l cs m (i + e.post.length) (st ++ [e.kind]) ∧ runL l cs xs (m + e.post.length) i vs = runL l cs xs m (i + e.post.length) (vs ++ [e.val cs xs]) ∧
    runI l cs (m + e.post.length) i is = runI l cs m (i + e.post.length) (is ++ [e.spn cs])
  | num n, hw, l, i, ha, m, st, vs, is => by
    obtain ⟨hg, hl⟩ := At.hd ha
    have hn : nodeE l i cs = 0 := nodeE_zero hg (by unfold BadF; simp) hw (fun e => by simp only at e; omega) (fun e => by simp only at e; omega)
    refine ⟨?_, ?_, ?_⟩
    · have hp := popN_app st []
      rw [List.append_nil] at hp
      change exprL l cs (m + 1) i st = _
      rw [expr_step hn (st' := st) (by rw [hg]; exact hp), hg]; rfl
    · change runL l cs xs (m + 1) i vs = _
      simp only [runL, stepV, hg]; rfl
    · change runI l cs (m + 1) i is = _
      simp only [runI, stepI, hg]; rfl
  | col nm, hw, l, i, ha, m, st, vs, is => col_chunk (At.hd ha).1 hw xs m st vs is
  | wrd nm w op, hw, l, i, ha, m, st, vs, is => by
    obtain ⟨w1, w2, w3⟩ := hw
    obtain ⟨g0, _⟩ := At.hd ha
    obtain ⟨g1, _⟩ := At.hd (At.tl ha)
    obtain ⟨g2, hl⟩ := At.hd (At.tl (At.tl ha))
    have g2 : gN l (i + 2) = opN op := g2
    have c1 := col_chunk g0 w1 xs (m + 2) st vs is
    have c2 := word_chunk g0 g1 g2 hl w3 w2 xs (m + 1) (st ++ [0]) (vs ++ [cellX cs xs nm]) (is ++ [colI cs nm])
    have c3 := op_chunk (cs := cs) g2 (by omega) (by omega) xs m st vs is [0, 0] [cellX cs xs nm, place cs nm w] [colI cs nm, dup (place cs nm w)] (by rcases w3 with rfl | rfl <;> rfl) (by rcases w3 with rfl | rfl <;> rfl) (by rcases w3 with rfl | rfl <;> rfl)
    simp only [List.append_assoc, List.cons_append, List.nil_append] at c2
    refine ⟨(c1.1.trans c2.1).trans (c3.1.trans ?_), (c1.2.1.trans c2.2.1).trans c3.2.1, (c1.2.2.trans c2.2.2).trans c3.2.2⟩
    rcases w3 with rfl | rfl <;> rfl
  | una op a, hw, l, i, ha, m, st, vs, is => by
    obtain ⟨w1, w2, w3⟩ := hw
    have c1 := chunk cs xs a w1 l i ha.left (m + 1) st vs is
    have c2 := op_chunk (cs := cs) (At.hd ha.right).1 (by omega) (by omega) xs m st vs is [a.kind] [a.val cs xs] [a.spn cs] w3 (ar1 w2).symm (ar1 w2).symm
    have e : m + (una op a).post.length = m + 1 + a.post.length := by simp only [post, List.length_append, List.length_cons, List.length_nil]; omega
    have e2 : i + (una op a).post.length = i + a.post.length + 1 := by simp only [post, List.length_append, List.length_cons, List.length_nil]; omega
    rw [e, e2]
    exact ⟨c1.1.trans c2.1, c1.2.1.trans c2.2.1, c1.2.2.trans c2.2.2⟩
  | bin op a b, hw, l, i, ha, m, st, vs, is => by
    obtain ⟨w1, w2, w3, w4⟩ := hw
    have c1 := chunk cs xs a w1 l i ha.left (m + 1 + b.post.length) st vs is
    have c2 := chunk cs xs b w2 l _ ha.right.left (m + 1) (st ++ [a.kind]) (vs ++ [a.val cs xs]) (is ++ [a.spn cs])
    have c3 := op_chunk (cs := cs) (At.hd ha.right.right).1 (by omega) (by omega) xs m st vs is [a.kind, b.kind] [a.val cs xs, b.val cs xs] [a.spn cs, b.spn cs] w4 (ar2 w3).symm (ar2 w3).symm
    simp only [List.append_assoc, List.cons_append, List.nil_append] at c2
    have e : m + (bin op a b).post.length = m + 1 + b.post.length + a.post.length := by simp only [post, List.length_append, List.length_cons, List.length_nil]; omega
    have e2 : i + (bin op a b).post.length = i + a.post.length + b.post.length + 1 := by simp only [post, List.length_append, List.length_cons, List.length_nil]; omega
    rw [e, e2]
    exact ⟨(c1.1.trans c2.1).trans c3.1, (c1.2.1.trans c2.2.1).trans c3.2.1, (c1.2.2.trans c2.2.2).trans c3.2.2⟩
  | ite c a b, hw, l, i, ha, m, st, vs, is => by
    obtain ⟨w1, w2, w3, k1, k2, k3⟩ := hw
    have c1 := chunk cs xs c w1 l i ha.left (m + 1 + b.post.length + a.post.length) st vs is
    have c2 := chunk cs xs a w2 l _ ha.right.left (m + 1 + b.post.length) (st ++ [c.kind]) (vs ++ [c.val cs xs]) (is ++ [c.spn cs])
    have c3 := chunk cs xs b w3 l _ ha.right.right.left (m + 1) (st ++ [c.kind] ++ [a.kind]) (vs ++ [c.val cs xs] ++ [a.val cs xs]) (is ++ [c.spn cs] ++ [a.spn cs])
    have c4 := op_chunk (cs := cs) (At.hd ha.right.right.right).1 (by omega) (by omega) xs m st vs is [c.kind, a.kind, b.kind] [c.val cs xs, a.val cs xs, b.val cs xs] [c.spn cs, a.spn cs, b.spn cs] (by rw [k1, k2, k3]; rfl) rfl rfl
    simp only [List.append_assoc, List.cons_append, List.nil_append] at c2 c3
    have e : m + (ite c a b).post.length = m + 1 + b.post.length + a.post.length + c.post.length := by simp only [post, List.length_append, List.length_cons, List.length_nil]; omega
    have e2 : i + (ite c a b).post.length = i + c.post.length + a.post.length + b.post.length + 1 := by simp only [post, List.length_append, List.length_cons, List.length_nil]; omega
    rw [e, e2]
    exact ⟨((c1.1.trans c2.1).trans c3.1).trans c4.1, ((c1.2.1.trans c2.2.1).trans c3.2.1).trans c4.2.1, ((c1.2.2.trans c2.2.2).trans c3.2.2).trans c4.2.2⟩
theorem Ex.whole {cs : List Col} {e : Ex} (h : WF cs e) (hl : e.post.length ≤ 200) : (∀ cond, exprE e.post cs cond = if e.kind = (if cond then 1 else 0) then 0 else 10) ∧ (∀ xs, runV e.post cs xs = e.val cs xs) ∧ spanV e.post cs = e.spn cs := by
  refine ⟨fun cond => ?_, fun xs => ?_, ?_⟩
  · have c := (chunk cs [] e h e.post 0 (At.all _) 0 [] [] []).1
    rw [Nat.zero_add] at c
    unfold exprE lastE
    rw [if_neg (by omega), c]
    simp [exprL]
  · have c := (chunk cs xs e h e.post 0 (At.all _) 0 [] [] []).2.1
    rw [Nat.zero_add] at c
    unfold runV
    rw [c]; rfl
  · have c := (chunk cs [] e h e.post 0 (At.all _) 0 [] [] []).2.2
    rw [Nat.zero_add] at c
    unfold spanV
    rw [c]; rfl
end Go.Proofs.YtcjapamldllleaaDoor
namespace Go.Proofs.YtcjapamldllleaaDoor
open Go.Ab
set_option maxHeartbeats 4000000
set_option maxHeartbeats 4000000
set_option maxRecDepth 100000
set_option linter.unusedSimpArgs false
set_option linter.unusedVariables false
def Sub (p q : Iv) : Prop := q.1 ≤ p.1 ∧ p.2 ≤ q.2
def Ok (k : Int) (p : Iv) : Prop := p.1 ≤ p.2 ∧ if k = 1 then Bit p.1 ∧ Bit p.2 else BI p.1 ∧ BI p.2
theorem Ok.num {p : Iv} (h : Ok 0 p) : p.1 ≤ p.2 ∧ BI p.1 ∧ BI p.2 := ⟨h.1, by simpa [Ok] using h.2⟩
theorem Ok.bit {p : Iv} (h : Ok 1 p) : p.1 ≤ p.2 ∧ Bit p.1 ∧ Bit p.2 := ⟨h.1, by simpa [Ok] using h.2⟩
theorem Ok.rel {k : Int} {p : Iv} (h : Ok k p) : ∃ s, Rel k p s := by
  by_cases hk : k = 1
  · subst hk
    obtain ⟨h0, h1, h2⟩ := h.bit
    exact ⟨⟨0, 0, decide (p.2 = 1), decide (p.1 = 0)⟩, .mkbit h0 h1 h2 rfl rfl⟩
  · obtain ⟨h0, h1⟩ := h
    rw [if_neg hk] at h1
    exact ⟨⟨p.1, p.2, false, false⟩, h0, by rw [if_neg hk]; exact ⟨h1.1, h1.2, rfl, rfl⟩⟩
theorem Rel.ok {k : Int} {p : Iv} {s : Rs} (h : Rel k p s) : Ok k p := by
  refine ⟨h.1, ?_⟩
  have h2 := h.2
  by_cases hk : k = 1
  · rw [if_pos hk] at h2 ⊢; exact ⟨h2.1, h2.2.1⟩
  · rw [if_neg hk] at h2 ⊢; exact ⟨h2.1, h2.2.1⟩
theorem op_okI {op : Int} (h1 : 4 ≤ op) (h2 : op ≤ 17) {p q r : Iv} (hp : Ok ((takesN op).1.getD 0 0) p) (hq : 2 ≤ arI op → Ok ((takesN op).1.getD 1 0) q) (hr : op = 8 → Ok 0 r) : Ok (takesN op).2 (opI op p q r) := by
  obtain ⟨s, hs⟩ := hp.rel
  by_cases h3 : 2 ≤ arI op
  · obtain ⟨t, ht⟩ := (hq h3).rel
    by_cases h8 : op = 8
    · obtain ⟨u, hu⟩ := (hr h8).rel
      exact (op_rel h1 h2 hs (fun _ => ht) (fun _ => hu)).ok
    · exact (op_rel (u := Rs.none) h1 h2 hs (fun _ => ht) (fun h => absurd h h8)).ok
  · have h8 : op ≠ 8 := fun e => h3 (by rw [e]; decide)
    exact (op_rel (t := Rs.none) (u := Rs.none) h1 h2 hs (fun h => absurd h h3) (fun h => absurd h h8)).ok
theorem limI_id {x : Int} (h : BI x) : limI x = x := by unfold BI at h; unfold limI maxI minI; split <;> split <;> omega
theorem timesI_eq {a b : Int} (ha : BI a) (hb : BI b) : timesI a b = limI (a * b) := by
  obtain ⟨a1, a2⟩ := ha
  obtain ⟨b1, b2⟩ := hb
  unfold timesI
  by_cases h0 : a = 0 ∨ b = 0
  · rw [if_pos h0]
    have : a * b = 0 := by rcases h0 with h | h <;> simp [h]
    rw [this]; rfl
  rw [if_neg h0]
  have e1 : wr (0 - a) = -a := by rw [wr_id (by omega) (by omega)]; omega
  have e2 : wr (0 - b) = -b := by rw [wr_id (by omega) (by omega)]; omega
  rw [e1, e2]
  have hna : maxI a (-a) = if a < 0 then -a else a := by unfold maxI; split <;> split <;> omega
  have hnb : maxI b (-b) = if b < 0 then -b else b := by unfold maxI; split <;> split <;> omega
  have ha3 : 0 < maxI a (-a) := by rw [hna]; split <;> omega
  have hb3 : 0 < maxI b (-b) := by rw [hnb]; split <;> omega
  have hpr : maxI a (-a) * maxI b (-b) = if decide (a < 0) = decide (b < 0) then a * b else -(a * b) := by
    rw [hna, hnb]
    by_cases h1 : a < 0 <;> by_cases h2 : b < 0 <;> simp [h1, h2, Int.neg_mul, Int.mul_neg]
  have hq : Int.tdiv 1000000000000000 (maxI b (-b)) * maxI b (-b) ≤ 1000000000000000 := by
    rw [Int.tdiv_eq_ediv_of_nonneg (by omega)]
    exact Int.ediv_mul_le _ (by omega)
  have hq2 : 1000000000000000 < (Int.tdiv 1000000000000000 (maxI b (-b)) + 1) * maxI b (-b) := by
    rw [Int.tdiv_eq_ediv_of_nonneg (by omega)]
    exact Int.lt_ediv_add_one_mul_self _ hb3
  have hq0 : 0 ≤ Int.tdiv 1000000000000000 (maxI b (-b)) := Int.tdiv_nonneg (by omega) (by omega)
  have hq1 : Int.tdiv 1000000000000000 (maxI b (-b)) ≤ 1000000000000000 := by
    have : Int.tdiv 1000000000000000 (maxI b (-b)) * 1 ≤ Int.tdiv 1000000000000000 (maxI b (-b)) * maxI b (-b) := Int.mul_le_mul_of_nonneg_left (by omega) hq0
    omega
  generalize maxI a (-a) = na at *
  generalize maxI b (-b) = nb at *
  rw [wr_id (x := Int.tdiv 1000000000000000 nb) (by omega) (by omega)]
  generalize Int.tdiv 1000000000000000 nb = q at *
  by_cases h1 : na ≤ q
  · rw [if_pos h1]
    have h2 : na * nb ≤ q * nb := Int.mul_le_mul_of_nonneg_right h1 (by omega)
    have h3 : 0 ≤ na * nb := Int.mul_nonneg (by omega) (by omega)
    have hb : BI (a * b) := by
      unfold BI
      split at hpr <;> omega
    rw [limI_id hb]
    unfold BI at hb
    exact wr_id (by omega) (by omega)
  · rw [if_neg h1]
    have h2 : (q + 1) * nb ≤ na * nb := Int.mul_le_mul_of_nonneg_right (by omega) (by omega)
    split at hpr
    · rename_i hs
      rw [if_pos hs]
      unfold limI maxI minI
      split <;> split <;> omega
    · rename_i hs
      rw [if_neg hs]
      unfold limI maxI minI
      split <;> split <;> omega
theorem mul_lo {a b c d x y : Int} (h1 : a ≤ x) (h2 : x ≤ b) (h3 : c ≤ y) (h4 : y ≤ d) : a * c ≤ x * y ∨ a * d ≤ x * y ∨ b * c ≤ x * y ∨ b * d ≤ x * y := by
  rcases Int.le_total 0 y with hy | hy
  · have k1 : a * y ≤ x * y := Int.mul_le_mul_of_nonneg_right h1 hy
    rcases Int.le_total 0 a with ha | ha
    · have : a * c ≤ a * y := Int.mul_le_mul_of_nonneg_left h3 ha
      omega
    · have : a * d ≤ a * y := Int.mul_le_mul_of_nonpos_left ha h4
      omega
  · have k1 : b * y ≤ x * y := Int.mul_le_mul_of_nonpos_right h2 hy
    rcases Int.le_total 0 b with hb | hb
    · have : b * c ≤ b * y := Int.mul_le_mul_of_nonneg_left h3 hb
      omega
    · have : b * d ≤ b * y := Int.mul_le_mul_of_nonpos_left hb h4
      omega
theorem mul_hi {a b c d x y : Int} (h1 : a ≤ x) (h2 : x ≤ b) (h3 : c ≤ y) (h4 : y ≤ d) : x * y ≤ a * c ∨ x * y ≤ a * d ∨ x * y ≤ b * c ∨ x * y ≤ b * d := by
  have := mul_lo (a := -b) (b := -a) (c := c) (d := d) (x := -x) (y := y) (by omega) (by omega) h3 h4
  simp only [Int.neg_mul] at this
  omega
theorem minI_l (a b : Int) : minI a b ≤ a ∧ minI a b ≤ b := by unfold minI; split <;> omega
theorem maxI_l (a b : Int) : a ≤ maxI a b ∧ b ≤ maxI a b := by unfold maxI; split <;> omega
theorem mulI_bound (p q : Iv) : ((mulI p q).1 ≤ timesI p.1 q.1 ∧ (mulI p q).1 ≤ timesI p.1 q.2 ∧ (mulI p q).1 ≤ timesI p.2 q.1 ∧ (mulI p q).1 ≤ timesI p.2 q.2) ∧ (timesI p.1 q.1 ≤ (mulI p q).2 ∧ timesI p.1 q.2 ≤ (mulI p q).2 ∧ timesI p.2 q.1 ≤ (mulI p q).2 ∧ timesI p.2 q.2 ≤ (mulI p q).2) := by
  simp only [mulI, hullI, dup]
  generalize timesI p.1 q.1 = x1
  generalize timesI p.1 q.2 = x2
  generalize timesI p.2 q.1 = x3
  generalize timesI p.2 q.2 = x4
  unfold minI maxI
  repeat' split
  all_goals omega
theorem times_in {p q : Iv} (hp : BI p.1 ∧ BI p.2) (hq : BI q.1 ∧ BI q.2) {x y : Int} (hx : BI x) (hy : BI y) (h1 : p.1 ≤ x) (h2 : x ≤ p.2) (h3 : q.1 ≤ y) (h4 : y ≤ q.2) : (mulI p q).1 ≤ timesI x y ∧ timesI x y ≤ (mulI p q).2 := by
  obtain ⟨⟨a1, a2, a3, a4⟩, b1, b2, b3, b4⟩ := mulI_bound p q
  rw [timesI_eq hx hy]
  rw [timesI_eq hp.1 hq.1] at a1 b1
  rw [timesI_eq hp.1 hq.2] at a2 b2
  rw [timesI_eq hp.2 hq.1] at a3 b3
  rw [timesI_eq hp.2 hq.2] at a4 b4
  constructor
  · rcases mul_lo h1 h2 h3 h4 with h | h | h | h <;> have := limI_mono h <;> omega
  · rcases mul_hi h1 h2 h3 h4 with h | h | h | h <;> have := limI_mono h <;> omega
theorem hull_least {p q s : Iv} (h : Sub p s) (g : Sub q s) : Sub (hullI p q) s := by
  unfold Sub hullI at *
  simp only
  unfold minI maxI
  split <;> split <;> omega
theorem hull_left (p q : Iv) : Sub p (hullI p q) := by unfold Sub hullI; exact ⟨(minI_l _ _).1, (maxI_l _ _).1⟩
theorem hull_right (p q : Iv) : Sub q (hullI p q) := by unfold Sub hullI; exact ⟨(minI_l _ _).2, (maxI_l _ _).2⟩
theorem Sub.trans {p q r : Iv} (h : Sub p q) (g : Sub q r) : Sub p r := by unfold Sub at *; omega
theorem Sub.rfl' (p : Iv) : Sub p p := ⟨Int.le_refl _, Int.le_refl _⟩
theorem mul_sub {p q p' q' : Iv} (hp : Ok 0 p) (hq : Ok 0 q) (hp' : Ok 0 p') (hq' : Ok 0 q') (h : Sub p' p) (g : Sub q' q) : Sub (mulI p' q') (mulI p q) := by
  obtain ⟨_, a1, a2⟩ := hp.num
  obtain ⟨_, b1, b2⟩ := hq.num
  obtain ⟨c0, c1, c2⟩ := hp'.num
  obtain ⟨d0, d1, d2⟩ := hq'.num
  have key : ∀ x y, BI x → BI y → p.1 ≤ x → x ≤ p.2 → q.1 ≤ y → y ≤ q.2 → Sub (dup (timesI x y)) (mulI p q) := fun x y hx hy h1 h2 h3 h4 => times_in ⟨a1, a2⟩ ⟨b1, b2⟩ hx hy h1 h2 h3 h4
  unfold Sub at h g
  have k1 := key p'.1 q'.1 c1 d1 (by omega) (by omega) (by omega) (by omega)
  have k2 := key p'.1 q'.2 c1 d2 (by omega) (by omega) (by omega) (by omega)
  have k3 := key p'.2 q'.1 c2 d1 (by omega) (by omega) (by omega) (by omega)
  have k4 := key p'.2 q'.2 c2 d2 (by omega) (by omega) (by omega) (by omega)
  exact hull_least (hull_least (hull_least k1 k2) k3) k4
theorem not_sub {p p' : Iv} (hp : Ok 1 p) (hp' : Ok 1 p') (h : Sub p' p) : Sub (notI p') (notI p) := by
  obtain ⟨_, a1, a2⟩ := hp.bit
  obtain ⟨_, b1, b2⟩ := hp'.bit
  have e : ∀ x, Bit x → wr (1 - x) = 1 - x := fun x hx => by rcases hx with rfl | rfl <;> decide
  unfold Sub at *
  simp only [notI, e _ a1, e _ a2, e _ b1, e _ b2]
  omega
theorem eqI_ok {p q : Iv} (hp : Ok 0 p) (hq : Ok 0 q) : Ok 1 (eqI p q) := op_okI (op := 9) (by decide) (by decide) hp (fun _ => hq) (fun h => by simp at h) (r := (0, 0))
theorem lessI_ok {p q : Iv} (hp : Ok 0 p) (hq : Ok 0 q) : Ok 1 (lessI p q) := op_okI (op := 11) (by decide) (by decide) hp (fun _ => hq) (fun h => by simp at h) (r := (0, 0))
theorem eq_sub {p q p' q' : Iv} (hp' : Ok 0 p') (hq' : Ok 0 q') (h : Sub p' p) (g : Sub q' q) : Sub (eqI p' q') (eqI p q) := by
  obtain ⟨c0, _, _⟩ := hp'.num
  obtain ⟨d0, _, _⟩ := hq'.num
  obtain ⟨a, b⟩ := p
  obtain ⟨c, d⟩ := q
  obtain ⟨a', b'⟩ := p'
  obtain ⟨c', d'⟩ := q'
  unfold Sub at *
  simp only at h g c0 d0
  constructor
  · refine bitI_le fun e => ?_
    simp only [Bool.and_eq_true, decide_eq_true_eq, Prod.mk.injEq] at e ⊢
    omega
  · refine bitI_le fun e => ?_
    simp only [Bool.and_eq_true, decide_eq_true_eq] at e ⊢
    omega
theorem wr_bit (b : Bool) : wr (1 - bitI b) = bitI (!b) := by cases b <;> decide
theorem less_sub {p q p' q' : Iv} (h : Sub p' p) (g : Sub q' q) : Sub (lessI p' q') (lessI p q) := by
  unfold Sub lessI at *
  simp only [wr_bit]
  constructor
  · refine bitI_le fun e => ?_
    simp only [Bool.not_eq_true', decide_eq_false_iff_not] at e ⊢
    omega
  · refine bitI_le fun e => ?_
    simp only [decide_eq_true_eq] at e ⊢
    omega
theorem op_sub {op : Int} (h1 : 4 ≤ op) (h2 : op ≤ 17) {p q r p' q' r' : Iv} (hp : Ok ((takesN op).1.getD 0 0) p) (hq : 2 ≤ arI op → Ok ((takesN op).1.getD 1 0) q) (hp' : Ok ((takesN op).1.getD 0 0) p') (hq' : 2 ≤ arI op → Ok ((takesN op).1.getD 1 0) q')
    (h : Sub p' p) (g : 2 ≤ arI op → Sub q' q) (k : op = 8 → Sub r' r) : Sub (opI op p' q' r') (opI op p q r) := by
  have ho : op = 4 ∨ op = 5 ∨ op = 6 ∨ op = 7 ∨ op = 8 ∨ op = 9 ∨ op = 10 ∨ op = 11 ∨ op = 12 ∨ op = 13 ∨ op = 14 ∨ op = 15 ∨ op = 16 ∨ op = 17 := by omega
  rcases ho with rfl | rfl | rfl | rfl | rfl | rfl | rfl | rfl | rfl | rfl | rfl | rfl | rfl | rfl
  · obtain ⟨_, a1, a2⟩ := Ok.num hp
    obtain ⟨_, b1, b2⟩ := Ok.num (hq (by decide))
    obtain ⟨_, c1, c2⟩ := Ok.num hp'
    obtain ⟨_, d1, d2⟩ := Ok.num (hq' (by decide))
    have g := g (by decide)
    unfold BI at *
    unfold Sub at *
    refine ⟨limI_mono ?_, limI_mono ?_⟩ <;> rw [wr_id (by omega) (by omega), wr_id (by omega) (by omega)] <;> omega
  · obtain ⟨_, a1, a2⟩ := Ok.num hp
    obtain ⟨_, b1, b2⟩ := Ok.num (hq (by decide))
    obtain ⟨_, c1, c2⟩ := Ok.num hp'
    obtain ⟨_, d1, d2⟩ := Ok.num (hq' (by decide))
    have g := g (by decide)
    unfold BI at *
    unfold Sub at *
    refine ⟨limI_mono ?_, limI_mono ?_⟩ <;> rw [wr_id (by omega) (by omega), wr_id (by omega) (by omega)] <;> omega
  · exact mul_sub hp (hq (by decide)) hp' (hq' (by decide)) h (g (by decide))
  · obtain ⟨_, a1, a2⟩ := Ok.num hp
    obtain ⟨_, c1, c2⟩ := Ok.num hp'
    unfold BI at *
    unfold Sub at *
    change wr (0 - p.2) ≤ wr (0 - p'.2) ∧ wr (0 - p'.1) ≤ wr (0 - p.1)
    refine ⟨?_, ?_⟩ <;> rw [wr_id (by omega) (by omega), wr_id (by omega) (by omega)] <;> omega
  · obtain ⟨a0, a1, a2⟩ := Ok.bit hp
    obtain ⟨c0, c1, c2⟩ := Ok.bit hp'
    have g := g (by decide)
    have k := k rfl
    change Sub (if p' = (1, 1) then q' else if p' = (0, 0) then r' else hullI q' r') (if p = (1, 1) then q else if p = (0, 0) then r else hullI q r)
    obtain ⟨a, b⟩ := p
    obtain ⟨a', b'⟩ := p'
    unfold Sub at h
    simp only at a0 a1 a2 c0 c1 c2 h
    have hqh : Sub (hullI q' r') (hullI q r) := hull_least (g.trans (hull_left _ _)) (k.trans (hull_right _ _))
    rcases a1 with rfl | rfl <;> rcases a2 with rfl | rfl <;> rcases c1 with rfl | rfl <;> rcases c2 with rfl | rfl <;> first | omega | skip
    all_goals first
      | exact g
      | exact k
      | exact hqh
      | exact k.trans (hull_right _ _)
      | exact g.trans (hull_left _ _)
  · exact eq_sub hp' (hq' (by decide)) h (g (by decide))
  · exact not_sub (eqI_ok hp (hq (by decide))) (eqI_ok hp' (hq' (by decide))) (eq_sub hp' (hq' (by decide)) h (g (by decide)))
  · exact less_sub h (g (by decide))
  · exact not_sub (lessI_ok (hq (by decide)) hp) (lessI_ok (hq' (by decide)) hp') (less_sub (g (by decide)) h)
  · exact less_sub (g (by decide)) h
  · exact not_sub (lessI_ok hp (hq (by decide))) (lessI_ok hp' (hq' (by decide))) (less_sub h (g (by decide)))
  · have g := g (by decide)
    unfold Sub at *
    change minI p.1 q.1 ≤ minI p'.1 q'.1 ∧ minI p'.2 q'.2 ≤ minI p.2 q.2
    unfold minI
    constructor <;> split <;> split <;> omega
  · have g := g (by decide)
    unfold Sub at *
    change maxI p.1 q.1 ≤ maxI p'.1 q'.1 ∧ maxI p'.2 q'.2 ≤ maxI p.2 q.2
    unfold maxI
    constructor <;> split <;> split <;> omega
  · exact not_sub hp hp' h
theorem op_dup {op : Int} (h1 : 4 ≤ op) (h2 : op ≤ 17) {x y z : Int} (hx : (takesN op).1.getD 0 0 = 1 → Bit x) : opI op (dup x) (dup y) (dup z) = dup (opV op [x, y, z]) := by
  have ho : op = 4 ∨ op = 5 ∨ op = 6 ∨ op = 7 ∨ op = 8 ∨ op = 9 ∨ op = 10 ∨ op = 11 ∨ op = 12 ∨ op = 13 ∨ op = 14 ∨ op = 15 ∨ op = 16 ∨ op = 17 := by omega
  have he : eqI (dup x) (dup y) = dup (bitI (decide (x = y))) := by
    unfold eqI dup
    simp only [Prod.mk.injEq]
    constructor
    · congr 1; rw [Bool.eq_iff_iff]; simp
    · congr 1; rw [Bool.eq_iff_iff]; simp; omega
  have hl : ∀ x y, lessI (dup x) (dup y) = dup (bitI (decide (x < y))) := fun x y => by
    unfold lessI dup
    simp only [wr_bit, Prod.mk.injEq, and_true]
    congr 1; rw [Bool.eq_iff_iff]; simp
  have hn : ∀ b : Bool, notI (dup (bitI b)) = dup (bitI (!b)) := fun b => by
    unfold notI dup
    simp only [wr_bit]
  rcases ho with rfl | rfl | rfl | rfl | rfl | rfl | rfl | rfl | rfl | rfl | rfl | rfl | rfl | rfl
  · rfl
  · rfl
  · change mulI (dup x) (dup y) = dup (timesI x y)
    simp only [mulI, hullI, dup, minI, maxI]
    simp
  · rfl
  · change (if dup x = (1, 1) then dup y else if dup x = (0, 0) then dup z else hullI (dup y) (dup z)) = dup (if x = 1 then y else z)
    rcases hx rfl with rfl | rfl <;> rfl
  · exact he
  · change notI (eqI (dup x) (dup y)) = dup (bitI (decide (¬ x = y)))
    rw [he, hn]; congr 2; rw [Bool.eq_iff_iff]; simp
  · exact hl x y
  · change notI (lessI (dup y) (dup x)) = dup (bitI (decide (x ≤ y)))
    rw [hl, hn]; congr 2; rw [Bool.eq_iff_iff]; simp
  · exact hl y x
  · change notI (lessI (dup x) (dup y)) = dup (bitI (decide (y ≤ x)))
    rw [hl, hn]; congr 2; rw [Bool.eq_iff_iff]; simp
  · rfl
  · rfl
  · rfl
end Go.Proofs.YtcjapamldllleaaDoor
namespace Go.Proofs.YtcjapamldllleaaDoor
open Go.Ab
set_option maxHeartbeats 4000000
set_option maxHeartbeats 4000000
set_option maxRecDepth 100000
set_option linter.unusedSimpArgs false
set_option linter.unusedVariables false
structure Tame (cs : List Col) : Prop where
  b : ∀ nm, 0 ≤ seekK cs nm → (colN cs nm).lo ≤ (colN cs nm).hi ∧ -1000000 ≤ (colN cs nm).lo ∧ (colN cs nm).hi ≤ 1000000
  w : ∀ nm, (colN cs nm).ws.length ≤ 1000
theorem Tame.col {cs : List Col} (h : Tame cs) {nm : List UInt8} (hs : 0 ≤ seekK cs nm) : Ok 0 (colI cs nm) := by
  obtain ⟨b1, b2, b3⟩ := h.b nm hs
  refine ⟨b1, ?_⟩
  rw [if_neg (by decide)]
  unfold BI colI
  simp only
  omega
theorem Tame.place {cs : List Col} (h : Tame cs) (nm w : List UInt8) : Ok 0 (dup (place cs nm w)) := by
  have := placeW_le (colN cs nm).ws w (colN cs nm).ws.length 0
  have hw := h.w nm
  refine ⟨Int.le_refl _, ?_⟩
  rw [if_neg (by decide)]
  unfold BI dup YtcjapamldllleaaDoor.place
  simp only
  omega
theorem Ex.ok {cs : List Col} (hT : Tame cs) : ∀ e : Ex, WF cs e → Ok e.kind (e.spn cs)
  | num n, h => by
    obtain ⟨h1, h2⟩ := h
    change Ok 0 (dup n)
    refine ⟨Int.le_refl _, ?_⟩
    rw [if_neg (by decide)]
    unfold BI dup
    simp only
    omega
  | col nm, h => hT.col h
  | wrd nm w op, h => by
    obtain ⟨h1, _, rfl | rfl⟩ := h
    · exact op_okI (op := 9) (by decide) (by decide) (hT.col h1) (fun _ => hT.place nm w) (fun h => by simp at h)
    · exact op_okI (op := 10) (by decide) (by decide) (hT.col h1) (fun _ => hT.place nm w) (fun h => by simp at h)
  | una op a, h => by
    obtain ⟨w1, w2, w3⟩ := h
    have ha := ok hT a w1
    have k : (takesN op).1.getD 0 0 = a.kind := by rw [w3]; rfl
    have n2 : ¬ 2 ≤ arI op := by unfold arI; rw [if_pos w2]; decide
    exact op_okI (by omega) (by omega) (k ▸ ha) (fun h => absurd h n2) (fun h => by omega)
  | bin op a b, h => by
    obtain ⟨w1, w2, w3, w4⟩ := h
    have ha := ok hT a w1
    have hb := ok hT b w2
    have k : (takesN op).1.getD 0 0 = a.kind := by rw [w4]; rfl
    have k2 : (takesN op).1.getD 1 0 = b.kind := by rw [w4]; rfl
    exact op_okI (by omega) (by omega) (k ▸ ha) (fun h => k2 ▸ hb) (fun h => by omega)
  | ite c a b, h => by
    obtain ⟨w1, w2, w3, k1, k2, k3⟩ := h
    have hc := ok hT c w1
    have ha := ok hT a w2
    have hb := ok hT b w3
    rw [k1] at hc; rw [k2] at ha; rw [k3] at hb
    exact op_okI (op := 8) (by decide) (by decide) hc (fun _ => ha) (fun _ => hb)
def Row (cs : List Col) (xs : List Int) : Prop := ∀ nm, 0 ≤ seekK cs nm → (colN cs nm).lo ≤ cellX cs xs nm ∧ cellX cs xs nm ≤ (colN cs nm).hi
theorem Sub.ok {k : Int} {x : Int} {p : Iv} (hp : Ok k p) (h : Sub (dup x) p) : Ok k (dup x) := by
  refine ⟨Int.le_refl _, ?_⟩
  have h2 := hp.2
  unfold Sub dup at h
  simp only at h
  by_cases hk : k = 1
  · rw [if_pos hk] at h2 ⊢
    unfold Bit dup at *
    simp only
    omega
  · rw [if_neg hk] at h2 ⊢
    unfold BI dup at *
    simp only
    omega
theorem Ex.within {cs : List Col} (hT : Tame cs) {xs : List Int} (hr : Row cs xs) : ∀ e : Ex, WF cs e → Sub (dup (e.val cs xs)) (e.spn cs)
  | num n, h => Sub.rfl' _
  | col nm, h => hr nm h
  | wrd nm w op, h => by
    obtain ⟨h1, _, h3⟩ := h
    have hv : Sub (dup (cellX cs xs nm)) (colI cs nm) := hr nm h1
    have key : ∀ op : Int, 4 ≤ op → op ≤ 17 → (takesN op).1 = [0, 0] → op ≠ 8 → Sub (dup (opV op [cellX cs xs nm, place cs nm w])) (opI op (colI cs nm) (dup (place cs nm w)) (0, 0)) := fun op g1 g2 g3 g4 => by
      have e : dup (opV op [cellX cs xs nm, place cs nm w]) = opI op (dup (cellX cs xs nm)) (dup (place cs nm w)) (dup 0) := (op_dup g1 g2 (fun h => by rw [g3] at h; simp at h)).symm
      rw [e]
      have k0 : (takesN op).1.getD 0 0 = 0 := by rw [g3]; rfl
      have k1 : (takesN op).1.getD 1 0 = 0 := by rw [g3]; rfl
      have o1 := hT.col h1
      have o2 := hT.place nm w
      have o3 := Sub.ok o1 hv
      rw [← k0] at o1 o3; rw [← k1] at o2
      exact op_sub g1 g2 o1 (fun _ => o2) o3 (fun _ => o2) hv (fun _ => Sub.rfl' _) (fun h => absurd h g4)
    rcases h3 with rfl | rfl
    · exact key 9 (by decide) (by decide) rfl (by decide)
    · exact key 10 (by decide) (by decide) rfl (by decide)
  | una op a, h => by
    obtain ⟨w1, w2, w3⟩ := h
    have ha := Ex.ok hT a w1
    have hv := within hT hr a w1
    have k : (takesN op).1.getD 0 0 = a.kind := by rw [w3]; rfl
    have n2 : ¬ 2 ≤ arI op := by unfold arI; rw [if_pos w2]; decide
    have hb : (takesN op).1.getD 0 0 = 1 → Bit (a.val cs xs) := fun h => by
      rw [k] at h
      have := Sub.ok ha hv
      rw [h] at this
      exact this.bit.2.1
    have e : dup ((una op a).val cs xs) = opI op (dup (a.val cs xs)) (dup 0) (dup 0) := (op_dup (by omega) (by omega) hb).symm
    rw [e]
    exact op_sub (by omega) (by omega) (k ▸ ha) (fun h => absurd h n2) (k ▸ Sub.ok ha hv) (fun h => absurd h n2) hv (fun h => absurd h n2) (fun h => by omega)
  | bin op a b, h => by
    obtain ⟨w1, w2, w3, w4⟩ := h
    have ha := Ex.ok hT a w1
    have hb := Ex.ok hT b w2
    have va := within hT hr a w1
    have vb := within hT hr b w2
    have k : (takesN op).1.getD 0 0 = a.kind := by rw [w4]; rfl
    have k2 : (takesN op).1.getD 1 0 = b.kind := by rw [w4]; rfl
    have hbit : (takesN op).1.getD 0 0 = 1 → Bit (a.val cs xs) := fun h => by
      rw [k] at h
      have := Sub.ok ha va
      rw [h] at this
      exact this.bit.2.1
    have e : dup ((bin op a b).val cs xs) = opI op (dup (a.val cs xs)) (dup (b.val cs xs)) (dup 0) := (op_dup (by omega) (by omega) hbit).symm
    rw [e]
    exact op_sub (by omega) (by omega) (k ▸ ha) (fun _ => k2 ▸ hb) (k ▸ Sub.ok ha va) (fun _ => k2 ▸ Sub.ok hb vb) va (fun _ => vb) (fun h => by omega)
  | ite c a b, h => by
    obtain ⟨w1, w2, w3, k1, k2, k3⟩ := h
    have hc := Ex.ok hT c w1
    have ha := Ex.ok hT a w2
    have vc := within hT hr c w1
    have va := within hT hr a w2
    have vb := within hT hr b w3
    have oc := Sub.ok hc vc
    have oa := Sub.ok ha va
    rw [k1] at hc oc; rw [k2] at ha oa
    have e : dup ((ite c a b).val cs xs) = opI 8 (dup (c.val cs xs)) (dup (a.val cs xs)) (dup (b.val cs xs)) := (op_dup (by decide) (by decide) (fun _ => oc.bit.2.1)).symm
    rw [e]
    exact op_sub (op := 8) (by decide) (by decide) hc (fun _ => ha) oc (fun _ => oa) vc (fun _ => va) (fun _ => vb)
structure Less (cs ds : List Col) : Prop where
  seek : ∀ nm, seekK ds nm = seekK cs nm
  ws : ∀ nm, (colN ds nm).ws = (colN cs nm).ws
  part : ∀ nm, 0 ≤ seekK cs nm → Sub (colI ds nm) (colI cs nm)
end Go.Proofs.YtcjapamldllleaaDoor
