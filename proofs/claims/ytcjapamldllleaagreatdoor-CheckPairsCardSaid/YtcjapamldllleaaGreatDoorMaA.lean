/- Proved here: expressions as trees, and what is drawn. Conditions: those of each theorem; no statement of the seat is proved in this text. -/
import Derived.Test.YtcjapamldllleaaGreatDoorEnvM
import Derived.Test.YtcjapamldllleaaGreatDoorCqC
namespace Go.Proofs.YtcjapamldllleaaGreatDoor
open Go.Ab
set_option maxHeartbeats 4000000
set_option maxRecDepth 100000
set_option linter.unusedSimpArgs false
set_option linter.unusedVariables false
set_option linter.unusedSectionVars false
inductive Ex where
  | num (n : Int)
  | col (nm : List UInt8)
  | wrd (nm w : List UInt8) (op : Int)
  | una (op : Int) (a : Ex)
  | bin (op : Int) (a b : Ex)
  | ite (c a b : Ex)
abbrev opN (op : Int) : Nd := ⟨op, 0, []⟩
def Ex.post : Ex → List Nd
  | num n => [⟨1, n, []⟩]
  | col nm => [⟨2, 0, nm⟩]
  | wrd nm w op => [⟨2, 0, nm⟩, ⟨3, 0, w⟩, opN op]
  | una op a => a.post ++ [opN op]
  | bin op a b => a.post ++ (b.post ++ [opN op])
  | ite c a b => c.post ++ (a.post ++ (b.post ++ [opN 8]))
def Ex.kind : Ex → Int
  | num _ => 0
  | col _ => 0
  | wrd _ _ _ => 1
  | una op _ => (takesN op).2
  | bin op _ _ => (takesN op).2
  | ite _ _ _ => 0
def WF (cs : List Col) : Ex → Prop
  | .num n => 0 ≤ n ∧ n ≤ 1000000000
  | .col nm => 0 ≤ seekK cs nm
  | .wrd nm w op => 0 ≤ seekK cs nm ∧ w ∈ (colN cs nm).ws ∧ (op = 9 ∨ op = 10)
  | .una op a => WF cs a ∧ (op = 7 ∨ op = 17) ∧ (takesN op).1 = [a.kind]
  | .bin op a b => WF cs a ∧ WF cs b ∧ (4 ≤ op ∧ op ≤ 16 ∧ op ≠ 7 ∧ op ≠ 8) ∧ (takesN op).1 = [a.kind, b.kind]
  | .ite c a b => WF cs c ∧ WF cs a ∧ WF cs b ∧ c.kind = 1 ∧ a.kind = 0 ∧ b.kind = 0
def At (l : List Nd) (i : Nat) (p : List Nd) : Prop := ∀ k, k < p.length → l[i + k]? = p[k]?
theorem At.left {l : List Nd} {i : Nat} {a b : List Nd} (h : At l i (a ++ b)) : At l i a := fun k hk => by
  rw [h k (by rw [List.length_append]; omega), List.getElem?_append_left hk]
theorem At.right {l : List Nd} {i : Nat} {a b : List Nd} (h : At l i (a ++ b)) : At l (i + a.length) b := fun k hk => by
  have := h (a.length + k) (by rw [List.length_append]; omega)
  rw [← Nat.add_assoc, List.getElem?_append_right (by omega), Nat.add_sub_cancel_left] at this
  exact this
theorem At.hd {l : List Nd} {i : Nat} {x : Nd} {r : List Nd} (h : At l i (x :: r)) : gN l i = x ∧ i < l.length := by
  have := h 0 (by simp)
  simp only [Nat.add_zero, List.getElem?_cons_zero] at this
  exact ⟨by simp [gN, List.getD, this], (List.getElem?_eq_some_iff.1 this).1⟩
theorem At.tl {l : List Nd} {i : Nat} {x : Nd} {r : List Nd} (h : At l i (x :: r)) : At l (i + 1) r := fun k hk => by
  have := h (k + 1) (by simpa using hk)
  rw [show i + (k + 1) = i + 1 + k by omega] at this
  simpa using this
theorem At.all (l : List Nd) : At l 0 l := fun k _ => by rw [Nat.zero_add]
theorem nodeE_zero {l : List Nd} {i : Nat} {cs : List Col} {x : Nd} (h : gN l i = x) (h1 : ¬ BadF x) (h2 : 0 ≤ x.n ∧ x.n ≤ 1000000000) (h3 : x.op = 3 → wordE l i cs = 0) (h4 : x.op = 2 → 0 ≤ seekK cs x.col) : nodeE l i cs = 0 := by
  subst h
  unfold nodeE
  rw [if_neg h1, if_neg (by omega)]
  by_cases h : (gN l i).op = 3
  · rw [if_pos h]; exact h3 h
  · rw [if_neg h, if_neg (fun hh => by have := h4 hh.1; omega)]
theorem nodeE_op0 {l : List Nd} {i : Nat} {cs : List Col} {op : Int} (h : gN l i = opN op) (h1 : 4 ≤ op) (h2 : op ≤ 17) : nodeE l i cs = 0 :=
  nodeE_zero h (by unfold BadF; simp; omega) ⟨Int.le_refl _, by simp⟩ (fun e => by simp only at e; omega) (fun e => by simp only at e; omega)
theorem expr_step {l : List Nd} {cs : List Col} {m i : Nat} {st st' : List Int} (hn : nodeE l i cs = 0) (hp : popN st (takesN (gN l i).op).1 = some st') : exprL l cs (m + 1) i st = exprL l cs m (i + 1) (st' ++ [(takesN (gN l i).op).2]) := by
  simp only [exprL, hn, if_true, hp]
theorem popN_app (st want : List Int) : popN (st ++ want) want = some st := by
  unfold popN
  have e : (st ++ want).length - want.length = st.length := by rw [List.length_append]; omega
  rw [if_pos ⟨by rw [List.length_append]; omega, by rw [e, List.drop_left]⟩, e, List.take_left]
theorem op_chunk {l : List Nd} {i : Nat} {cs : List Col} {op : Int} (h : gN l i = opN op) (h1 : 4 ≤ op) (h2 : op ≤ 17) (m : Nat) (st ks : List Int) (hk : (takesN op).1 = ks) :
    exprL l cs (m + 1) i (st ++ ks) = exprL l cs m (i + 1) (st ++ [(takesN op).2]) := by
  have ho : (gN l i).op = op := by rw [h]
  rw [expr_step (nodeE_op0 h h1 h2) (st' := st) (by rw [ho, hk]; exact popN_app st ks), ho]
theorem nodeE_col {l : List Nd} {i : Nat} {cs : List Col} {nm : List UInt8} (h : gN l i = ⟨2, 0, nm⟩) (hs : 0 ≤ seekK cs nm) : nodeE l i cs = 0 :=
  nodeE_zero h (by unfold BadF; simp) ⟨Int.le_refl _, by simp⟩ (fun e => by simp only at e; omega) (fun _ => hs)
theorem col_chunk {l : List Nd} {i : Nat} {cs : List Col} {nm : List UInt8} (h : gN l i = ⟨2, 0, nm⟩) (hs : 0 ≤ seekK cs nm) (m : Nat) (st : List Int) :
    exprL l cs (m + 1) i st = exprL l cs m (i + 1) (st ++ [0]) := by
  have hp := popN_app st []
  rw [List.append_nil] at hp
  rw [expr_step (nodeE_col h hs) (st' := st) (by rw [h]; exact hp), h]; rfl
theorem word_chunk {l : List Nd} {i : Nat} {cs : List Col} {nm w : List UInt8} {op : Int} (h0 : gN l i = ⟨2, 0, nm⟩) (h : gN l (i + 1) = ⟨3, 0, w⟩) (h2 : gN l (i + 2) = opN op) (hl : i + 2 < l.length) (ho : op = 9 ∨ op = 10) (hw : w ∈ (colN cs nm).ws) (m : Nat) (st : List Int) :
    exprL l cs (m + 1) (i + 1) st = exprL l cs m (i + 2) (st ++ [0]) := by
  have hn : nodeE l (i + 1) cs = 0 := by
    have hb : ¬ BadW l (i + 1) := by
      unfold BadW
      rw [Nat.add_sub_cancel, h0, show i + 1 + 1 = i + 2 by omega, h2]
      simp only
      omega
    refine nodeE_zero h (by unfold BadF; simp) ⟨Int.le_refl _, by simp⟩ (fun _ => ?_) (fun e => by simp only at e; omega)
    unfold wordE
    rw [if_neg hb, Nat.add_sub_cancel, h0, h]
    simp only
    rw [if_neg (fun e => by rw [List.eq_nil_of_length_eq_zero e] at hw; simp at hw), if_pos hw]
  have hp := popN_app st []
  rw [List.append_nil] at hp
  rw [expr_step hn (st' := st) (by rw [h]; exact hp), h]; rfl
theorem Ex.chunk (cs : List Col) : ∀ (e : Ex), WF cs e → ∀ (l : List Nd) (i : Nat), At l i e.post → ∀ (m : Nat) (st : List Int),
    exprL l cs (m + e.post.length) i st = exprL l cs m (i + e.post.length) (st ++ [e.kind])
  | num n, hw, l, i, ha, m, st => by
    obtain ⟨hg, hl⟩ := At.hd ha
    have hn : nodeE l i cs = 0 := nodeE_zero hg (by unfold BadF; simp) hw (fun e => by simp only at e; omega) (fun e => by simp only at e; omega)
    have hp := popN_app st []
    rw [List.append_nil] at hp
    change exprL l cs (m + 1) i st = _
    rw [expr_step hn (st' := st) (by rw [hg]; exact hp), hg]; rfl
  | col nm, hw, l, i, ha, m, st => col_chunk (At.hd ha).1 hw m st
  | wrd nm w op, hw, l, i, ha, m, st => by
    obtain ⟨w1, w2, w3⟩ := hw
    obtain ⟨g0, _⟩ := At.hd ha
    obtain ⟨g1, _⟩ := At.hd (At.tl ha)
    obtain ⟨g2, hl⟩ := At.hd (At.tl (At.tl ha))
    have g2 : gN l (i + 2) = opN op := g2
    have c1 := col_chunk g0 w1 (m + 2) st
    have c2 := word_chunk g0 g1 g2 hl w3 w2 (m + 1) (st ++ [0])
    have c3 := op_chunk (cs := cs) g2 (by omega) (by omega) m st [0, 0] (by rcases w3 with rfl | rfl <;> rfl)
    simp only [List.append_assoc, List.cons_append, List.nil_append] at c2
    refine (c1.trans c2).trans (c3.trans ?_)
    rcases w3 with rfl | rfl <;> rfl
  | una op a, hw, l, i, ha, m, st => by
    obtain ⟨w1, w2, w3⟩ := hw
    have c1 := chunk cs a w1 l i ha.left (m + 1) st
    have c2 := op_chunk (cs := cs) (At.hd ha.right).1 (by omega) (by omega) m st [a.kind] w3
    have e : m + (una op a).post.length = m + 1 + a.post.length := by simp only [post, List.length_append, List.length_cons, List.length_nil]; omega
    have e2 : i + (una op a).post.length = i + a.post.length + 1 := by simp only [post, List.length_append, List.length_cons, List.length_nil]; omega
    rw [e, e2]
    exact c1.trans c2
  | bin op a b, hw, l, i, ha, m, st => by
    obtain ⟨w1, w2, w3, w4⟩ := hw
    have c1 := chunk cs a w1 l i ha.left (m + 1 + b.post.length) st
    have c2 := chunk cs b w2 l _ ha.right.left (m + 1) (st ++ [a.kind])
    have c3 := op_chunk (cs := cs) (At.hd ha.right.right).1 (by omega) (by omega) m st [a.kind, b.kind] w4
    simp only [List.append_assoc, List.cons_append, List.nil_append] at c2
    have e : m + (bin op a b).post.length = m + 1 + b.post.length + a.post.length := by simp only [post, List.length_append, List.length_cons, List.length_nil]; omega
    have e2 : i + (bin op a b).post.length = i + a.post.length + b.post.length + 1 := by simp only [post, List.length_append, List.length_cons, List.length_nil]; omega
    rw [e, e2]
    exact (c1.trans c2).trans c3
  | ite c a b, hw, l, i, ha, m, st => by
    obtain ⟨w1, w2, w3, k1, k2, k3⟩ := hw
    have c1 := chunk cs c w1 l i ha.left (m + 1 + b.post.length + a.post.length) st
    have c2 := chunk cs a w2 l _ ha.right.left (m + 1 + b.post.length) (st ++ [c.kind])
    have c3 := chunk cs b w3 l _ ha.right.right.left (m + 1) (st ++ [c.kind] ++ [a.kind])
    have c4 := op_chunk (cs := cs) (At.hd ha.right.right.right).1 (by omega) (by omega) m st [c.kind, a.kind, b.kind] (by rw [k1, k2, k3]; rfl)
    simp only [List.append_assoc, List.cons_append, List.nil_append] at c2 c3
    have e : m + (ite c a b).post.length = m + 1 + b.post.length + a.post.length + c.post.length := by simp only [post, List.length_append, List.length_cons, List.length_nil]; omega
    have e2 : i + (ite c a b).post.length = i + c.post.length + a.post.length + b.post.length + 1 := by simp only [post, List.length_append, List.length_cons, List.length_nil]; omega
    rw [e, e2]
    exact ((c1.trans c2).trans c3).trans c4
theorem Ex.whole {cs : List Col} {e : Ex} (h : WF cs e) (cond : Bool) : exprE e.post cs cond = if 200 < e.post.length then 4 else if e.kind = (if cond then 1 else 0) then 0 else 10 := by
  unfold exprE lastE
  split
  · rfl
  · have c := chunk cs e h e.post 0 (At.all _) 0 []
    rw [Nat.zero_add] at c
    rw [c]
    simp [exprL]
theorem Ex.noted {cs : List Col} {e : Ex} (h : WF cs e) (hk : e.kind = 0) (hl : e.post.length < 200) (cond : Bool) : exprE (e.post ++ [opN 17]) cs cond = 10 := by
  unfold exprE lastE
  rw [if_neg (by rw [List.length_append]; simp only [List.length_cons, List.length_nil]; omega)]
  have c := chunk cs e h (e.post ++ [opN 17]) 0 ((At.all _).left) 1 []
  have hg : gN (e.post ++ [opN 17]) e.post.length = opN 17 := by simp [gN, List.getD]
  have hn : nodeE (e.post ++ [opN 17]) e.post.length cs = 0 := nodeE_op0 hg (by omega) (by omega)
  rw [Nat.zero_add] at c
  rw [show (e.post ++ [opN 17]).length = 1 + e.post.length by simp; omega, c]
  have hp : popN ([] ++ [e.kind]) (takesN 17).1 = none := by rw [hk]; rfl
  simp only [exprL, hn, if_true, hg, hp]
  rfl
end Go.Proofs.YtcjapamldllleaaGreatDoor
namespace Go.Proofs.YtcjapamldllleaaGreatDoor
open Go.Ab
set_option maxHeartbeats 4000000
set_option maxRecDepth 100000
set_option linter.unusedSimpArgs false
set_option linter.unusedVariables false
set_option linter.unusedSectionVars false
def In64 (x : Int) : Prop := -9223372036854775808 ≤ x ∧ x ≤ 9223372036854775807
theorem getD_in {xs : List Int} (h : ∀ x ∈ xs, In64 x) (j : Nat) : In64 (xs.getD j 0) := by
  rw [List.getD]
  rcases Nat.lt_or_ge j xs.length with hj | hj
  · rw [List.getElem?_eq_getElem hj]; exact h _ (List.getElem_mem hj)
  · rw [List.getElem?_eq_none hj]; simp [In64]
theorem weakL_strs : ∀ l : List (List UInt8), V.weak.weakL (l.map V.str) = l.map V.str
  | [] => rfl
  | x :: l => by simp only [List.map_cons, V.weak.weakL, V.weak, weakL_strs l]
theorem weak_W {w : V} {ws : List (List UInt8)} (h : IsW w ws) : w.weak = w := by
  rcases h with ⟨rfl, _⟩ | rfl
  · rfl
  · simp only [V.weak, weakL_strs, RCap.weak]
theorem weakL_flatC : ∀ {cs : List Col}, OkC cs → V.weak.weakL (flatC cs) = flatC cs
  | [], _ => rfl
  | c :: cs, h => by
    rw [flatC_cons]
    simp only [V.weak.weakL, V.weak, weakL_flatC (cs := cs) (fun d hd => h d (List.mem_cons_of_mem _ hd)), weak_W (h c List.mem_cons_self)]
abbrev aggC (c : Col) : V := .agg [.str c.name, .int .i64 c.lo, .int .i64 c.hi, c.w]
theorem V1i {α : Type} {o : Option α} {v : α} {k : α → Prop} (h : o = some v) (g : k v) : V1 o k := ⟨v, h, g⟩
theorem sc_build' (E : Env) (t : TypeId) (ps : Array (Nat × Operand)) : scOp E (.build t ps) = false := rfl
theorem rd_build' (t : TypeId) (ps : Array (Nat × Operand)) : readsOp (.build t ps) = false := rfl
theorem rd_bs (t : TypeId) (n : Nat) (ps : Array (Nat × Operand)) : readsOp (.buildSlice t n ps) = false := rfl
end Go.Proofs.YtcjapamldllleaaGreatDoor
namespace Go.Proofs.YtcjapamldllleaaGreatDoor.N
open Go.Ab
set_option maxHeartbeats 4000000
set_option maxHeartbeats 4000000
set_option maxRecDepth 100000
set_option linter.unusedSimpArgs false
set_option linter.unusedVariables false
set_option linter.unusedSectionVars false
def IsI (v : V) (xs : List Int) : Prop := (v = .nilsl ∧ xs = []) ∨ v = .row (xs.map (V.int .i64)) xs.length .unk ∨ v = .row (xs.map (V.int .i64)) xs.length .full
theorem idx_I {v : V} {xs : List Int} (h : IsI v xs) {i : Nat} (hi : i < xs.length) : vIndexAddr 1 v (.int .i64 (i : Int)) = some (.rptr (.int .i64 (xs.getD i 0) :: (xs.map (V.int .i64)).drop (i + 1))) := by
  rcases h with ⟨rfl, rfl⟩ | rfl | rfl
  · simp at hi
  · rw [Ys, if_pos (by omega), Int.toNat_natCast, Nat.mul_one, List.drop_eq_getElem_cons (by simpa using hi)]
    simp [List.getD, hi]
  · rw [Ys, if_pos (by omega), Int.toNat_natCast, Nat.mul_one, List.drop_eq_getElem_cons (by simpa using hi)]
    simp [List.getD, hi]
theorem mb (f : FuncId) (r : Nat) : env.mutb f r = false := rfl
theorem stb (f : FuncId) (r : Nat) (h : (f == 12 && r == 8 || f == 12 && r == 9 || f == 28 && r == 11 || f == 39 && r == 7) = false) : env.stab f r = false := h
theorem tys : env.P.underlying 3 = some (.int .i64) ∧ env.P.underlying 4 = some .bool ∧ env.P.underlying 9 = some .string ∧ env.P.underlying 44 = some (.slice 9) ∧ env.P.underlying 22 = some (.slice 42) ∧ env.P.underlying 23 = some (.slice 46) ∧ env.P.underlying 31 = some (.slice 3) ∧
    sz env 9 = some 1 ∧ sz env 44 = some 1 ∧ sz env 3 = some 1 ∧ sz env 4 = some 1 ∧ sz env 22 = some 1 ∧ sz env 23 = some 1 ∧ sz env 31 = some 1 ∧ sz env 46 = some 4 ∧ sz env 42 = some 3 ∧ sz env 36 = some 2 ∧
    fldOff env 36 0 = some 0 ∧ fldOff env 36 1 = some 1 ∧ fldOff env 46 0 = some 0 ∧ fldOff env 46 1 = some 1 ∧ fldOff env 46 2 = some 2 ∧ fldOff env 46 3 = some 3 ∧ fldOff env 42 0 = some 0 ∧ fldOff env 42 1 = some 1 ∧ fldOff env 42 2 = some 2 ∧
    (∀ h p, aload env h 9 p = (loadCellsV h 1 p).bind (·[0]?)) ∧ (∀ h p, aload env h 44 p = (loadCellsV h 1 p).bind (·[0]?)) ∧ (∀ h p, aload env h 3 p = (loadCellsV h 1 p).bind (·[0]?)) ∧ (∀ h p, aload env h 4 p = (loadCellsV h 1 p).bind (·[0]?)) ∧
    (∀ h p, aload env h 31 p = (loadCellsV h 1 p).bind (·[0]?)) ∧ (∀ h p, aload env h 23 p = (loadCellsV h 1 p).bind (·[0]?)) ∧ (∀ h p, aload env h 42 p = (loadCellsV h 3 p).map .agg) ∧ (∀ h p, aload env h 46 p = (loadCellsV h 4 p).map .agg) ∧
    zeroV env 42 = some (.agg [.int .i64 0, .int .i64 0, .str []]) ∧ zeroV env 46 = some (.agg [.str [], .int .i64 0, .int .i64 0, .nilsl]) := by
  have g9 : aggT env 9 = some false := by kernel_rfl
  have g44 : aggT env 44 = some false := by kernel_rfl
  have g3 : aggT env 3 = some false := by kernel_rfl
  have g4 : aggT env 4 = some false := by kernel_rfl
  have g24 : aggT env 31 = some false := by kernel_rfl
  have g23 : aggT env 23 = some false := by kernel_rfl
  have g52 : aggT env 42 = some true := by kernel_rfl
  have g46 : aggT env 46 = some true := by kernel_rfl
  have s52 : sz env 42 = some 3 := by kernel_rfl
  have s46 : sz env 46 = some 4 := by kernel_rfl
  exact ⟨by kernel_rfl, by kernel_rfl, by kernel_rfl, by kernel_rfl, by kernel_rfl, by kernel_rfl, by kernel_rfl, by kernel_rfl, by kernel_rfl, by kernel_rfl, by kernel_rfl, by kernel_rfl, by kernel_rfl, by kernel_rfl, by kernel_rfl, by kernel_rfl, by kernel_rfl, by kernel_rfl, by kernel_rfl, by kernel_rfl, by kernel_rfl, by kernel_rfl, by kernel_rfl, by kernel_rfl, by kernel_rfl, by kernel_rfl,
    fun _ _ => aload_one g9, fun _ _ => aload_one g44, fun _ _ => aload_one g3, fun _ _ => aload_one g4, fun _ _ => aload_one g24, fun _ _ => aload_one g23, fun h p => by unfold aload; rw [g52, s52]; rfl, fun h p => by unfold aload; rw [g46, s46]; rfl, by kernel_rfl, by kernel_rfl⟩
theorem at30 : env.P.funcs[30]? = some Tryz.f30 := by kernel_rfl
theorem at42 : env.P.funcs[42]? = some Tryz.f42 := by kernel_rfl
theorem pick_call (x n : Int) (hx : In64 x) (hn : In64 n) (h1 : 1 ≤ n) (σ : S) : callFn env (ev env) 42 [.int .i64 x, .int .i64 n] σ = some (.int .i64 (x % n), σ) := by
  refine callFn_pure rfl rfl rfl at42 rfl (by simp [Tryz.f42]) (by simp [Tryz.f42]) (G_start ?_) σ
  unfold In64 at hx hn
  have hne : (n = 0) = False := eq_false (by omega)
  have hb1 : Int.tmod x n < n := Int.tmod_lt_of_pos x (by omega)
  have hb2 : -n < Int.tmod x n := Int.lt_tmod_of_pos x (by omega)
  have e1 : IntKind.i64.wrap (Int.tmod x n) = Int.tmod x n := wrap_i64 (by omega) (by omega)
  have hem : x % n = if Int.tmod x n < 0 then Int.tmod x n + n else Int.tmod x n := by
    have h2 := Int.tmod_add_mul_tdiv x n
    split
    · rename_i h
      have : (Int.tmod x n + n + n * (Int.tdiv x n - 1)) % n = Int.tmod x n + n := by rw [Int.add_mul_emod_self_left]; exact Int.emod_eq_of_lt (by omega) (by omega)
      rw [← this]; congr 1; rw [Int.mul_sub]; omega
    · have : (Int.tmod x n + n * Int.tdiv x n) % n = Int.tmod x n := by rw [Int.add_mul_emod_self_left]; exact Int.emod_eq_of_lt (by omega) (by omega)
      rw [← this]; congr 1; omega
  by_cases h : Int.tmod x n < 0
  · rw [if_pos h] at hem
    have e2 : IntKind.i64.wrap (Int.tmod x n + n) = Int.tmod x n + n := wrap_i64 (by omega) (by omega)
    have g : (Int.tmod x n < 0) = True := eq_true h
    simp -implicitDefEqProofs only [Tryz.f42,Wa,Wb,Wc,Wd,We,Wf,Wg,Wh,Wi,Wj,Wk,Wl,Wm,Wn,Zo,Zp,evalT,Nat.reduceLT,Nat.reduceEqDiff,if_true,if_false,reduceIte,Ys,ofVal,ofCell,argT,resT,setT,Y0,Int.reduceEq,Int.reduceLT,Int.reduceLE,Int.reduceNeg,mb,Nat.reduceBEq,tys,stb,empty_mk,hne,e1,g,e2]
    rw [hem]; rfl
  · rw [if_neg h] at hem
    have g : (Int.tmod x n < 0) = False := eq_false h
    simp -implicitDefEqProofs only [Tryz.f42,Wa,Wb,Wc,Wd,We,Wf,Wg,Wh,Wi,Wj,Wk,Wl,Wm,Wn,Zo,Zp,evalT,Nat.reduceLT,Nat.reduceEqDiff,if_true,if_false,reduceIte,Ys,ofVal,ofCell,argT,resT,setT,Y0,Int.reduceEq,Int.reduceLT,Int.reduceLE,Int.reduceNeg,mb,Nat.reduceBEq,tys,stb,empty_mk,hne,e1,g]
    rw [hem]; rfl
abbrev tk (xv : V) (a : Nat) : AObj := .cells [xv, .int .i64 a] 36
theorem len_I' {v : V} {xs : List Int} (h : IsI v xs) (e : TypeId) : vLenT (some (.slice e)) v = some (.int .i64 xs.length) := by rcases h with ⟨rfl, rfl⟩ | rfl | rfl <;> simp [vLenT]
theorem take_gen (xv : V) (xs : List Int) (hx : IsI xv xs) (hin : ∀ x ∈ xs, In64 x) (hxl : xs.length < 2 ^ 63) (a : Nat) (ha : a ≤ xs.length) (n : Int) (hn : In64 n) :
    ∃ (r : Int) (a' : Nat), (∀ (L : List AObj) (b : Nat) ts, b < L.length → callFn env (ev env) 30 [.ptr b 0, .int .i64 n] ⟨L.set b (tk xv a), ts⟩ = some (.int .i64 r, ⟨L.set b (tk xv a'), ts⟩)) ∧ a' ≤ xs.length ∧ 0 ≤ r ∧ (1 ≤ n → r < n) ∧ (n < 1 → r = 0) := by
  have hln := len_I' hx 3
  unfold In64 at hn
  by_cases h1 : xs.length ≤ a
  · have g1 : ((a : Int) ≥ (xs.length : Int)) = True := eq_true (by omega)
    refine ⟨0, a, fun L b ts hb => ?_, ha, Int.le_refl _, fun h => by omega, fun _ => rfl⟩
    have hg : (L.set b (tk xv a))[b]? = some (tk xv a) := List.getElem?_set_self hb
    refine callFn_eq rfl rfl at30 rfl (by simp [Tryz.f30]) (by simp [Tryz.f30]) (G_start ?_)
    simp -implicitDefEqProofs only [Tryz.f30,Wa,Wb,Wc,Wd,We,Wf,Wg,Wh,Wi,Wj,Wk,Wl,Wm,Wn,Zo,Zp,evalT,Nat.reduceLT,Nat.reduceEqDiff,if_true,if_false,reduceIte,Ys,ofVal,ofCell,argT,resT,setT,Y0,Int.reduceEq,Int.reduceLT,Int.reduceLE,Int.reduceNeg,mb,Nat.reduceBEq,tys,stb,Va,storeList,Nat.reduceAdd,Nat.reduceLeDiff,opT_nilCheck,nilO_ptr,hg,hln,g1,vBin_sneq]
    exact ⟨by kernel_rfl, rfl, trivial⟩
  have g1 : ((a : Int) ≥ (xs.length : Int)) = False := eq_false (by omega)
  by_cases h2 : n < 1
  · have g2 : (n < 1) = True := eq_true h2
    refine ⟨0, a, fun L b ts hb => ?_, ha, Int.le_refl _, fun h => by omega, fun _ => rfl⟩
    have hg : (L.set b (tk xv a))[b]? = some (tk xv a) := List.getElem?_set_self hb
    refine callFn_eq rfl rfl at30 rfl (by simp [Tryz.f30]) (by simp [Tryz.f30]) (G_start ?_)
    simp -implicitDefEqProofs only [Tryz.f30,Wa,Wb,Wc,Wd,We,Wf,Wg,Wh,Wi,Wj,Wk,Wl,Wm,Wn,Zo,Zp,evalT,Nat.reduceLT,Nat.reduceEqDiff,if_true,if_false,reduceIte,Ys,ofVal,ofCell,argT,resT,setT,Y0,Int.reduceEq,Int.reduceLT,Int.reduceLE,Int.reduceNeg,mb,Nat.reduceBEq,tys,stb,Va,storeList,Nat.reduceAdd,Nat.reduceLeDiff,opT_nilCheck,nilO_ptr,hg,hln,g1,g2,vBin_sneq]
    exact ⟨by kernel_rfl, rfl, trivial⟩
  have g2 : (n < 1) = False := eq_false h2
  have hx64 := getD_in hin a
  have hP := pick_call (xs.getD a 0) n hx64 hn (by omega)
  have e1 : IntKind.i64.wrap ((a : Int) + 1) = ((a + 1 : Nat) : Int) := by rw [wrap_i64 (by omega) (by omega)]; omega
  have e2 : IntKind.i64.wrap (((a + 1 : Nat) : Int) - 1) = (a : Int) := by rw [wrap_i64 (by omega) (by omega)]; omega
  have hxv := idx_I hx (show a < xs.length by omega)
  refine ⟨xs.getD a 0 % n, a + 1, fun L b ts hb => ?_, by omega, Int.emod_nonneg _ (by omega), fun _ => Int.emod_lt_of_pos _ (by omega), fun h => absurd h h2⟩
  have hg : (L.set b (tk xv a))[b]? = some (tk xv a) := List.getElem?_set_self hb
  have hg2 : ((L.set b (tk xv a)).set b (tk xv (a + 1)))[b]? = some (tk xv (a + 1)) := by rw [List.set_set]; exact List.getElem?_set_self hb
  refine callFn_eq rfl rfl at30 rfl (by simp [Tryz.f30]) (by simp [Tryz.f30]) (G_start ?_)
  simp -implicitDefEqProofs only [Tryz.f30,Wa,Wb,Wc,Wd,We,Wf,Wg,Wh,Wi,Wj,Wk,Wl,Wm,Wn,Zo,Zp,evalT,Nat.reduceLT,Nat.reduceEqDiff,if_true,if_false,reduceIte,Ys,ofVal,ofCell,argT,resT,setT,Y0,Int.reduceEq,Int.reduceLT,Int.reduceLE,Int.reduceNeg,mb,Nat.reduceBEq,tys,stb,Va,storeList,Nat.reduceAdd,Nat.reduceLeDiff,opT_nilCheck,nilO_ptr,hg,hln,g1,g2,vBin_sneq,e1,hg2,e2,hxv,hP,load_hd]
  exact ⟨by kernel_rfl, rfl, by kernel_rfl, rfl, by rw [List.set_set]⟩
theorem take_call (L : List AObj) (b : Nat) (xv : V) (xs : List Int) (hx : IsI xv xs) (hin : ∀ x ∈ xs, In64 x) (hxl : xs.length < 2 ^ 63) (hb : b < L.length) (a : Nat) (ha : a ≤ xs.length) (n : Int) (hn : In64 n) :
    ∃ (r : Int) (a' : Nat), (∀ ts, callFn env (ev env) 30 [.ptr b 0, .int .i64 n] ⟨L.set b (tk xv a), ts⟩ = some (.int .i64 r, ⟨L.set b (tk xv a'), ts⟩)) ∧ a' ≤ xs.length ∧ 0 ≤ r ∧ (1 ≤ n → r < n) ∧ (n < 1 → r = 0) := by
  obtain ⟨r, a', h1, h2⟩ := take_gen xv xs hx hin hxl a ha n hn
  exact ⟨r, a', fun ts => h1 L b ts hb, h2⟩
theorem build52c (s : List UInt8) : buildO env 42 [(0, .int .i64 2), (2, .str s)] = some (.agg [.int .i64 2, .int .i64 0, .str s]) := by kernel_rfl
theorem build52o (x : Int) : buildO env 42 [(0, .int .i64 x)] = some (.agg [.int .i64 x, .int .i64 0, .str []]) := by kernel_rfl
theorem build52n (x n : Int) : buildO env 42 [(0, .int .i64 x), (1, .int .i64 n)] = some (.agg [.int .i64 x, .int .i64 n, .str []]) := by kernel_rfl
def Nd.v (x : Nd) : V := .agg [.int .i64 x.op, .int .i64 x.n, .str x.col]
end Go.Proofs.YtcjapamldllleaaGreatDoor.N
namespace Go.Proofs.YtcjapamldllleaaGreatDoor.N
open Go.Ab
set_option maxHeartbeats 4000000
set_option maxHeartbeats 4000000
set_option maxRecDepth 100000
set_option linter.unusedSimpArgs false
set_option linter.unusedVariables false
set_option linter.unusedSectionVars false
theorem eN : Elt env 22 42 3 32 := ⟨by kernel_rfl, by kernel_rfl, by kernel_rfl, by kernel_rfl, by kernel_rfl⟩
theorem eC : Elt env 23 46 4 56 := ⟨by kernel_rfl, by kernel_rfl, by kernel_rfl, by kernel_rfl, by kernel_rfl⟩
theorem eI : Elt env 31 3 1 8 := ⟨by kernel_rfl, by kernel_rfl, by kernel_rfl, by kernel_rfl, by kernel_rfl⟩
theorem flatN_len : ∀ l : List Nd, (flatN l).length = l.length * 3
  | [] => rfl
  | x :: l => by rw [flatN_cons]; simp only [List.length_cons, flatN_len l]; omega
theorem flatN_app (a b : List Nd) : flatN (a ++ b) = flatN a ++ flatN b := by simp [flatN]
theorem rowN1 (a b c : V) : rowO env 22 1 [(0, .agg [a, b, c])] = some (.row [a, b, c] 1 .full) := by kernel_rfl
theorem rowN3 (a b c d e f g h i : V) : rowO env 22 3 [(0, .agg [a, b, c]), (1, .agg [d, e, f]), (2, .agg [g, h, i])] = some (.row [a, b, c, d, e, f, g, h, i] 3 .full) := by kernel_rfl
theorem rowC1 (a b c d : V) : rowO env 23 1 [(0, .agg [a, b, c, d])] = some (.row [a, b, c, d] 1 .full) := by kernel_rfl
abbrev GN (base : Nat) (ts : List Nat) (v : V) (l : List Nd) : Prop := GrowV base ts 3 v l.length (flatN l)
theorem GN.push {base : Nat} {hp : List AObj} {ts : List Nat} {v : V} {l : List Nd} (g : GN base ts v l) (hb : base ≤ ts.length) (x : Nd) (q : RCap) (hl : l.length ≤ 4000) : ∃ v' ts', appO env false ⟨hp, ts⟩ 22 22 v (.row [.int .i64 x.op, .int .i64 x.n, .str x.col] 1 q) = some (v', ⟨hp, ts'⟩) ∧ GN base ts' v' (l ++ [x]) ∧ Ext base ts ts' := by
  have hlim : lim = 2 ^ 40 := rfl
  have := GrowV.push (E := env) (hp := hp) (q := q) (new := [.int .i64 x.op, .int .i64 x.n, .str x.col]) eN ⟨42, eN.slice⟩ g hb rfl (by simp [V.isCell]) ⟨by rw [hlim]; omega, by rw [hlim]; omega⟩
  obtain ⟨v', ts', h1, h2, h3⟩ := this
  refine ⟨v', ts', h1, ?_, h3⟩
  unfold GN
  rw [List.length_append, flatN_app]; exact h2
theorem GN.append {base : Nat} {hp : List AObj} {ts : List Nat} {v y : V} {l m : List Nd} (g : GN base ts v l) (hb : base ≤ ts.length) (hy : vLen y = some m.length) (hc : vCells hp 3 m.length y = some (flatN m)) (hl : l.length ≤ 4000) (hm : m.length ≤ 4000) : ∃ v' ts', appO env false ⟨hp, ts⟩ 22 22 v y = some (v', ⟨hp, ts'⟩) ∧ GN base ts' v' (l ++ m) ∧ Ext base ts ts' := by
  have hlim : lim = 2 ^ 40 := rfl
  have hcell : (flatN m).all V.isCell = true := by
    induction m with
    | nil => rfl
    | cons x m ih => simp only [List.length_cons] at hm; rw [flatN_cons]; simp only [List.all_cons, V.isCell, Bool.true_and]; clear hy hc hm ih; induction m with
      | nil => rfl
      | cons x m ih => rw [flatN_cons]; simp only [List.all_cons, V.isCell, Bool.true_and]; exact ih
  have := GrowV.append (E := env) eN ⟨42, eN.slice⟩ g hb hy hc (flatN_len m) hcell ⟨by rw [hlim]; omega, by rw [hlim]; omega⟩
  obtain ⟨v', ts', h1, h2, h3⟩ := this
  refine ⟨v', ts', h1, ?_, h3⟩
  unfold GN
  rw [List.length_append, flatN_app]; exact h2
theorem GN.full (base : Nat) (ts : List Nat) (l : List Nd) : GN base ts (.row (flatN l) l.length .full) l := GrowV.full _ _ (flatN_len l)
theorem flatC_at' {cs : List Col} {i : Nat} (h : i < cs.length) : ∃ r, (flatC cs).drop (i * 4) = .str (cs.getD i Col.none).name :: .int .i64 (cs.getD i Col.none).lo :: .int .i64 (cs.getD i Col.none).hi :: (cs.getD i Col.none).w :: r := by
  induction cs generalizing i with
  | nil => simp at h
  | cons c cs ih =>
    cases i with
    | zero => exact ⟨flatC cs, by rw [flatC_cons]; rfl⟩
    | succ i =>
      obtain ⟨r, hr⟩ := ih (i := i) (by simpa using h)
      refine ⟨r, ?_⟩
      rw [flatC_cons, show (i + 1) * 4 = i * 4 + 1 + 1 + 1 + 1 by omega]
      simp only [List.drop_succ_cons, List.getD_cons_succ]
      exact hr
theorem idx_C' (cs : List Col) (q : RCap) {i : Nat} (h : i < cs.length) : ∃ r, vIndexAddr 4 (.row (flatC cs) cs.length q) (.int .i64 i) = some (.rptr (.str (cs.getD i Col.none).name :: .int .i64 (cs.getD i Col.none).lo :: .int .i64 (cs.getD i Col.none).hi :: (cs.getD i Col.none).w :: r)) := by
  obtain ⟨r, hr⟩ := flatC_at' h
  exact ⟨r, by rw [Ys, if_pos (by omega), Int.toNat_natCast, hr]⟩
end Go.Proofs.YtcjapamldllleaaGreatDoor.N
namespace Go.Proofs.YtcjapamldllleaaGreatDoor.N
open Go.Ab
set_option maxHeartbeats 4000000
set_option maxHeartbeats 4000000
set_option maxRecDepth 100000
set_option linter.unusedSimpArgs false
set_option linter.unusedVariables false
set_option linter.unusedSectionVars false
theorem callW {E : Env} {f : FuncId} {args : List V} {v : V} (hp : E.pure f = true) (hk : E.hook f = none) (h1 : args.all V.closed = true → ∀ σ, callFn E (ev E) f args σ = some (v, σ))
    (h2 : (args.map V.weak).all V.closed = true) (h3 : ∀ σ, callFn E (ev E) f (args.map V.weak) σ = some (v, σ)) (σ : S) : callFn E (ev E) f args σ = some (v, σ) := by
  cases h : args.all V.closed with
  | true => exact h1 h σ
  | false => rw [callFn_weak hp hk h h2 σ]; exact h3 σ
theorem weakL_flatN : ∀ l : List Nd, V.weak.weakL (flatN l) = flatN l
  | [] => rfl
  | x :: l => by rw [flatN_cons]; simp only [V.weak.weakL, V.weak, weakL_flatN l]
def RN (v : V) (l : List Nd) : Prop := (v.closed = true → IsN v l) ∧ IsN v.weak l
def RC (v : V) (cs : List Col) : Prop := (v.closed = true → IsC v cs) ∧ IsC v.weak cs
theorem flatN_nil {l : List Nd} (h : (flatN l) = []) : l = [] := by
  cases l with
  | nil => rfl
  | cons x l => rw [flatN_cons] at h; simp at h
theorem RN.grow {base : Nat} {ts : List Nat} {v : V} {l : List Nd} (g : GN base ts v l) : RN v l := by
  unfold GN at g
  generalize hc : flatN l = cs at g
  generalize hn : l.length = n at g
  cases g with
  | nil => exact ⟨fun _ => .inl ⟨rfl, flatN_nil hc⟩, .inl ⟨rfl, flatN_nil hc⟩⟩
  | full _ _ hl => subst hc hn; exact ⟨fun _ => .inr (.inr rfl), .inr (.inr (by simp only [V.weak, weakL_flatN, RCap.weak]))⟩
  | tok _ _ k e hl hb ht => subst hc hn; exact ⟨fun h => by simp [V.closed] at h, .inr (.inl (by simp only [V.weak, weakL_flatN, RCap.weak]))⟩
theorem RC.row {cs : List Col} (ok : OkC cs) (q : RCap) : RC (.row (flatC cs) cs.length q) cs := by
  refine ⟨fun h => ?_, ?_⟩
  · cases q with
    | full => exact .inr ⟨.full, .inr rfl, rfl⟩
    | unk => exact .inr ⟨.unk, .inl rfl, rfl⟩
    | tok k e w => simp [V.closed] at h
  · have := weakL_flatC ok
    cases q with
    | full => exact .inr ⟨.full, .inr rfl, by simp only [V.weak, this, RCap.weak]⟩
    | unk => exact .inr ⟨.unk, .inl rfl, by simp only [V.weak, this, RCap.weak]⟩
    | tok k e w => exact .inr ⟨.unk, .inl rfl, by simp only [V.weak, this, RCap.weak]⟩
structure Fit (v : V) (l : List Nd) (cv : V) (cs : List Col) : Prop where
  hv : RN v l
  hl : l.length ≤ 1000
  hc : RC cv cs
  ok : OkC cs
  hcl : cs.length ≤ 1000
  hw : ∀ i, i < cs.length → (cs.getD i Col.none).ws.length ≤ 1000
theorem expr_call {v : V} {l : List Nd} {cv : V} {cs : List Col} (F : Fit v l cv cs) (cond : Bool) (σ : S) : callFn env (ev env) 7 [v, cv, .bool cond] σ = some (.int .i64 (exprE l cs cond), σ) := by
  have hl := F.hl
  have hcl := F.hcl
  refine call_of hk7 (callW rfl rfl (fun h => ?_) ?_ ?_) _ σ
  · simp only [List.all_cons, List.all_nil, Bool.and_true, Bool.and_eq_true] at h
    exact fun σ => YtcjapamldllleaaGreatDoor.expr_call v l (F.hv.1 h.1) (by omega) cv cs (F.hc.1 h.2.1) F.ok (by omega) F.hw cond σ
  · simp only [List.map_cons, List.map_nil, List.all_cons, List.all_nil, closed_C F.hc.2 F.ok, closed_N F.hv.2, V.weak, V.closed, Bool.and_self]
  · exact fun σ => YtcjapamldllleaaGreatDoor.expr_call v.weak l F.hv.2 (by omega) cv.weak cs F.hc.2 F.ok (by omega) F.hw cond σ
theorem firstQ_neg (f : Nat → Bool) : ∀ m i, firstQ f m i = -1 → ∀ k, i ≤ k → k < i + m → f k = false
  | 0, i, _, k, h1, h2 => by omega
  | m + 1, i, h, k, h1, h2 => by
    simp only [firstQ] at h
    by_cases hf : f i = true
    · rw [if_pos hf] at h; omega
    · rw [if_neg hf] at h
      by_cases hk : k = i
      · rw [hk]; simpa using hf
      · exact firstQ_neg f m (i + 1) h k (by omega) (by omega)
end Go.Proofs.YtcjapamldllleaaGreatDoor.N
namespace Go.Proofs.YtcjapamldllleaaGreatDoor.N
open Go.Ab
set_option maxHeartbeats 4000000
set_option maxHeartbeats 4000000
set_option maxRecDepth 100000
set_option linter.unusedSimpArgs false
set_option linter.unusedVariables false
set_option linter.unusedSectionVars false
theorem build39 {v : V} {xs : List Int} (h : IsI v xs) : buildO env 36 [(0, v)] = some (.agg [v, .int .i64 0]) := by
  rcases h with ⟨rfl, rfl⟩ | rfl | rfl <;> kernel_rfl
theorem isCell_I {v : V} {xs : List Int} (h : IsI v xs) : v.isCell = true := by rcases h with ⟨rfl, _⟩ | rfl | rfl <;> rfl
theorem sc_take (ag : Array Operand) (ts : Array TypeId) : scOp env (.call ⟨.value (.func 30), ag, ts⟩) = true := rfl
theorem flatC_app (a b : List Col) : flatC (a ++ b) = flatC a ++ flatC b := by simp [flatC]
abbrev GC (base : Nat) (ts : List Nat) (v : V) (cs : List Col) : Prop := GrowV base ts 4 v cs.length (flatC cs)
abbrev GI (base : Nat) (ts : List Nat) (v : V) (xs : List Int) : Prop := GrowV base ts 1 v xs.length (xs.map (V.int .i64))
theorem GC.push {base : Nat} {hp : List AObj} {ts : List Nat} {v : V} {cs : List Col} (g : GC base ts v cs) (hb : base ≤ ts.length) (c : Col) (hc : c.w.isCell = true) (q : RCap) (hl : cs.length ≤ 4000) : ∃ v' ts', appO env false ⟨hp, ts⟩ 23 23 v (.row [.str c.name, .int .i64 c.lo, .int .i64 c.hi, c.w] 1 q) = some (v', ⟨hp, ts'⟩) ∧ GC base ts' v' (cs ++ [c]) ∧ Ext base ts ts' := by
  have hlim : lim = 2 ^ 40 := rfl
  have := GrowV.push (E := env) (hp := hp) (q := q) (new := [.str c.name, .int .i64 c.lo, .int .i64 c.hi, c.w]) eC ⟨46, eC.slice⟩ g hb rfl (by simp only [List.all_cons, List.all_nil, hc]; rfl) ⟨by rw [hlim]; omega, by rw [hlim]; omega⟩
  obtain ⟨v', ts', h1, h2, h3⟩ := this
  refine ⟨v', ts', h1, ?_, h3⟩
  unfold GC
  rw [List.length_append, flatC_app]; exact h2
theorem GI.push {base : Nat} {hp : List AObj} {ts : List Nat} {v : V} {xs : List Int} (g : GI base ts v xs) (hb : base ≤ ts.length) (x : Int) (q : RCap) (hl : xs.length ≤ 4000) : ∃ v' ts', appO env false ⟨hp, ts⟩ 31 31 v (.row [.int .i64 x] 1 q) = some (v', ⟨hp, ts'⟩) ∧ GI base ts' v' (xs ++ [x]) ∧ Ext base ts ts' := by
  have hlim : lim = 2 ^ 40 := rfl
  have := GrowV.push (E := env) (hp := hp) (q := q) (new := [.int .i64 x]) eI ⟨3, eI.slice⟩ g hb rfl (by simp [V.isCell]) ⟨by rw [hlim]; omega, by rw [hlim]; omega⟩
  obtain ⟨v', ts', h1, h2, h3⟩ := this
  refine ⟨v', ts', h1, ?_, h3⟩
  unfold GI
  rw [List.length_append, List.map_append]; exact h2
end Go.Proofs.YtcjapamldllleaaGreatDoor.N
namespace Go.Proofs.YtcjapamldllleaaGreatDoor.N
open Go.Ab
set_option maxHeartbeats 4000000
set_option maxHeartbeats 4000000
set_option maxRecDepth 100000
set_option linter.unusedSimpArgs false
set_option linter.unusedVariables false
set_option linter.unusedSectionVars false
def Kp (L L' : List AObj) (b : Nat) : Prop := L.length ≤ L'.length ∧ ∀ q, q < L.length → q ≠ b → L'[q]? = L[q]?
theorem Kp.rfl' (L : List AObj) (b : Nat) : Kp L L b := ⟨Nat.le_refl _, fun _ _ _ => rfl⟩
theorem Kp.trans {L L2 L3 : List AObj} {b : Nat} (h : Kp L L2 b) (g : Kp L2 L3 b) : Kp L L3 b := ⟨Nat.le_trans h.1 g.1, fun q hq hb => by rw [g.2 q (by have := h.1; omega) hb, h.2 q hq hb]⟩
theorem Kp.app {L : List AObj} (X : List AObj) (b : Nat) : Kp L (L ++ X) b := ⟨by simp, fun q hq _ => List.getElem?_append_left hq⟩
structure Tk (xv : V) (xs : List Int) : Prop where
  hx : IsI xv xs
  hin : ∀ x ∈ xs, In64 x
  hxl : xs.length < 2 ^ 63
def Has (L : List AObj) (b : Nat) (xv : V) (xs : List Int) : Prop := ∃ a : Nat, a ≤ xs.length ∧ L[b]? = some (tk xv a)
theorem Has.lt {L : List AObj} {b : Nat} {xv : V} {xs : List Int} (h : Has L b xv xs) : b < L.length := by
  obtain ⟨a, _, h⟩ := h
  exact (List.getElem?_eq_some_iff.1 h).1
theorem Has.app {L : List AObj} {b : Nat} {xv : V} {xs : List Int} (h : Has L b xv xs) (X : List AObj) : Has (L ++ X) b xv xs := by
  have := h.lt
  obtain ⟨a, h1, h2⟩ := h
  exact ⟨a, h1, by rw [List.getElem?_append_left this]; exact h2⟩
theorem take_at {xv : V} {xs : List Int} (K : Tk xv xs) {L : List AObj} {b : Nat} (h : Has L b xv xs) (n : Int) (hn : In64 n) :
    ∃ (r : Int) (L' : List AObj), (∀ ts, callFn env (ev env) 30 [.ptr b 0, .int .i64 n] ⟨L, ts⟩ = some (.int .i64 r, ⟨L', ts⟩)) ∧ Has L' b xv xs ∧ Kp L L' b ∧ L'.length = L.length ∧ 0 ≤ r ∧ (1 ≤ n → r < n) ∧ (n < 1 → r = 0) := by
  have hb := h.lt
  obtain ⟨a, ha, hg⟩ := h
  obtain ⟨r, a', h1, h2, h3, h4, h5⟩ := take_call L b xv xs K.hx K.hin K.hxl hb a ha n hn
  have e : L.set b (tk xv a) = L := by
    have : L[b] = tk xv a := by rw [List.getElem?_eq_getElem hb] at hg; exact Option.some.inj hg
    rw [← this]; exact List.set_getElem_self hb
  rw [e] at h1
  exact ⟨r, L.set b (tk xv a'), h1, ⟨a', h2, List.getElem?_set_self hb⟩, ⟨by simp, fun q hq hqb => List.getElem?_set_ne (Ne.symm hqb)⟩, by simp, h3, h4, h5⟩
theorem take_ext {xv : V} {xs : List Int} (K : Tk xv xs) {L : List AObj} {b : Nat} (h : Has L b xv xs) (n : Int) (hn : In64 n) :
    ∃ (r : Int) (L' : List AObj), (∀ X ts, callFn env (ev env) 30 [.ptr b 0, .int .i64 n] ⟨L ++ X, ts⟩ = some (.int .i64 r, ⟨L' ++ X, ts⟩)) ∧ Has L' b xv xs ∧ Kp L L' b ∧ L'.length = L.length ∧ 0 ≤ r ∧ (1 ≤ n → r < n) ∧ (n < 1 → r = 0) := by
  have hb := h.lt
  obtain ⟨a, ha, hg⟩ := h
  obtain ⟨r, a', h1, h2, h3, h4, h5⟩ := take_gen xv xs K.hx K.hin K.hxl a ha n hn
  have e : L.set b (tk xv a) = L := by
    have : L[b] = tk xv a := by rw [List.getElem?_eq_getElem hb] at hg; exact Option.some.inj hg
    rw [← this]; exact List.set_getElem_self hb
  refine ⟨r, L.set b (tk xv a'), fun X ts => ?_, ⟨a', h2, List.getElem?_set_self hb⟩, ⟨by simp, fun q hq hqb => List.getElem?_set_ne (Ne.symm hqb)⟩, by simp, h3, h4, h5⟩
  have := h1 (L ++ X) b ts (by simp; omega)
  rw [List.set_append_left _ _ hb, List.set_append_left _ _ hb, e] at this
  exact this
theorem at31 : env.P.funcs[31]? = some Tryz.f31 := by kernel_rfl
def IsFirst (cs : List Col) (i : Nat) : Prop := ∀ k, k < i → (cs.getD k Col.none).name ≠ (cs.getD i Col.none).name
open Classical in
theorem first_call (cs : List Col) (ok : OkC cs) (q : RCap) (i : Nat) (hi : i < cs.length) (hl : cs.length ≤ 1000) (σ : S) : callFn env (ev env) 31 [.row (flatC cs) cs.length q, .int .i64 i] σ = some (.bool (decide (IsFirst cs i)), σ) := by
  have key : ∀ q : RCap, (V.row (flatC cs) cs.length q).closed = true → ∀ σ, callFn env (ev env) 31 [.row (flatC cs) cs.length q, .int .i64 i] σ = some (.bool (decide (IsFirst cs i)), σ) := fun q hc σ => by
    refine callFn_pure rfl rfl (by simp only [List.all_cons, List.all_nil, hc]; rfl) at31 rfl (by simp [Tryz.f31]) (by simp [Tryz.f31]) (G_start ?_) σ
    simp -implicitDefEqProofs only [Tryz.f31,Wa,Wb,Wc,Wd,We,Wf,Wg,Wh,Wi,Wj,Wk,Wl,Wm,Wn,Zo,Zp,evalT,Nat.reduceLT,Nat.reduceEqDiff,if_true,if_false,reduceIte,Ys,ofVal,ofCell,argT,resT,setT,Y0,Int.reduceEq,Int.reduceLT,Int.reduceLE,Int.reduceNeg,mb,Nat.reduceBEq,tys,stb,Va,storeList,Nat.reduceAdd,Nat.reduceLeDiff,empty_mk]
    refine loop_rule (fun m T D σ => D = [] ∧ T 0 = .row (flatC cs) cs.length q ∧ T 1 = .int .i64 i ∧ σ = ⟨[], []⟩ ∧ ∃ k : Nat, T 5 = .int .i64 k ∧ k ≤ i ∧ m = i - k ∧ ∀ j, j < k → (cs.getD j Col.none).name ≠ (cs.getD i Col.none).name) ?_ (i - 0) _ _ _ ⟨rfl, rfl, rfl, rfl, 0, rfl, Nat.zero_le _, rfl, fun j hj => by omega⟩
    rintro m T D σ ⟨rfl, t0, t1, rfl, k, t5, hk, rfl, hall⟩
    refine G_start ?_
    by_cases hlt : k < i
    · have c1 : (k : Int) < (i : Int) := by omega
      have e1 : IntKind.i64.wrap ((k : Int) + 1) = ((k + 1 : Nat) : Int) := by rw [wrap_i64 (by omega) (by omega)]; omega
      obtain ⟨r1, h1⟩ := idx_C' cs q (show k < cs.length by omega)
      obtain ⟨r2, h2⟩ := idx_C' cs q hi
      by_cases he : (cs.getD k Col.none).name = (cs.getD i Col.none).name
      · have g : ((cs.getD k Col.none).name = (cs.getD i Col.none).name) = True := eq_true he
        rw [decide_eq_false (show ¬ IsFirst cs i from fun h => h k hlt he)]
        simp -implicitDefEqProofs only [Wa,Wb,Wc,Wd,We,Wf,Wg,Wh,Wi,Wj,Wk,Wl,Wm,Wn,Zo,Zp,evalT,Nat.reduceLT,Nat.reduceEqDiff,if_true,if_false,reduceIte,Ys,ofVal,ofCell,argT,resT,setT,Y0,Int.reduceEq,Int.reduceLT,Int.reduceLE,Int.reduceNeg,mb,Nat.reduceBEq,tys,stb,Va,storeList,Nat.reduceAdd,Nat.reduceLeDiff,t0,t1,t5,-Ys,c1,e1,h1,h2,load_hd,vBin_seql,g]
        exact ⟨by kernel_rfl, rfl⟩
      · have g : ((cs.getD k Col.none).name = (cs.getD i Col.none).name) = False := eq_false he
        simp -implicitDefEqProofs only [Wa,Wb,Wc,Wd,We,Wf,Wg,Wh,Wi,Wj,Wk,Wl,Wm,Wn,Zo,Zp,evalT,Nat.reduceLT,Nat.reduceEqDiff,if_true,if_false,reduceIte,Ys,ofVal,ofCell,argT,resT,setT,Y0,Int.reduceEq,Int.reduceLT,Int.reduceLE,Int.reduceNeg,mb,Nat.reduceBEq,tys,stb,Va,storeList,Nat.reduceAdd,Nat.reduceLeDiff,t0,t1,t5,-Ys,c1,e1,h1,h2,load_hd,vBin_seql,g]
        exact ⟨by kernel_rfl, i - (k + 1), by omega, k + 1, rfl, by omega, rfl, fun j hj => by
          by_cases hjk : j = k
          · rw [hjk]; exact he
          · exact hall j (by omega)⟩
    · have hki : k = i := by omega
      subst hki
      have c1 : ¬ (k : Int) < (k : Int) := by omega
      rw [decide_eq_true (show IsFirst cs k from hall)]
      simp -implicitDefEqProofs only [Wa,Wb,Wc,Wd,We,Wf,Wg,Wh,Wi,Wj,Wk,Wl,Wm,Wn,Zo,Zp,evalT,Nat.reduceLT,Nat.reduceEqDiff,if_true,if_false,reduceIte,Ys,ofVal,ofCell,argT,resT,setT,Y0,Int.reduceEq,Int.reduceLT,Int.reduceLE,Int.reduceNeg,mb,Nat.reduceBEq,tys,stb,Va,storeList,Nat.reduceAdd,Nat.reduceLeDiff,t0,t1,t5,c1]
      rfl
  have hw := weakL_flatC ok
  refine callW rfl rfl (fun h => key q ?_) ?_ ?_ σ
  · simp only [List.all_cons, List.all_nil, Bool.and_true, Bool.and_eq_true] at h; exact h.1
  · have := closed_C (RC.row ok q).2 ok
    simp only [List.map_cons, List.map_nil, List.all_cons, List.all_nil, this]; rfl
  · have := closed_C (RC.row ok q).2 ok
    cases q with
    | full => simp only [List.map_cons, List.map_nil, V.weak, hw, RCap.weak] at this ⊢; exact key _ this
    | unk => simp only [List.map_cons, List.map_nil, V.weak, hw, RCap.weak] at this ⊢; exact key _ this
    | tok k e w => simp only [List.map_cons, List.map_nil, V.weak, hw, RCap.weak] at this ⊢; exact key _ this
theorem first_col {cs : List Col} {i : Nat} (hi : i < cs.length) (h : IsFirst cs i) : colN cs (cs.getD i Col.none).name = cs.getD i Col.none := by
  rcases seekK_spec cs (cs.getD i Col.none).name with e | ⟨j, e, hj, hn, hf⟩
  · have := firstQ_neg (fun k => decide ((cs.getD k Col.none).name = (cs.getD i Col.none).name)) cs.length 0 e i (Nat.zero_le _) (by omega)
    simp at this
  · have : j = i := by
      rcases Nat.lt_trichotomy j i with h1 | h1 | h1
      · exact absurd hn (h j h1)
      · exact h1
      · exact absurd rfl (hf i h1)
    subst this
    unfold colN
    rw [e, if_pos (by omega), Int.toNat_natCast]
theorem seek_any {cs : List Col} {i : Nat} (hi : i < cs.length) : 0 ≤ seekK cs (cs.getD i Col.none).name := by
  rcases seekK_spec cs (cs.getD i Col.none).name with e | ⟨j, e, _⟩
  · have := firstQ_neg (fun k => decide ((cs.getD k Col.none).name = (cs.getD i Col.none).name)) cs.length 0 e i (Nat.zero_le _) (by omega)
    simp at this
  · omega
end Go.Proofs.YtcjapamldllleaaGreatDoor.N
namespace Go.Proofs.YtcjapamldllleaaGreatDoor.N
open Go.Ab
set_option maxHeartbeats 4000000
set_option maxHeartbeats 4000000
set_option maxRecDepth 100000
set_option linter.unusedSimpArgs false
set_option linter.unusedVariables false
set_option linter.unusedSectionVars false
theorem at63 : env.P.funcs[63]? = some Tryz.f63 := by kernel_rfl
theorem at41 : env.P.funcs[41]? = some Tryz.f41 := by kernel_rfl
theorem at40 : env.P.funcs[40]? = some Tryz.f40 := by kernel_rfl
theorem at39 : env.P.funcs[39]? = some Tryz.f39 := by kernel_rfl
theorem eW : Elt env 44 9 1 16 := ⟨by kernel_rfl, by kernel_rfl, by kernel_rfl, by kernel_rfl, by kernel_rfl⟩
theorem rowW0 : rowO env 44 0 [] = some (.row [] 0 .full) := by kernel_rfl
theorem rowW4 (a b c d : List UInt8) : rowO env 44 4 [(0, .str a), (1, .str b), (2, .str c), (3, .str d)] = some (.row [.str a, .str b, .str c, .str d] 4 .full) := by kernel_rfl
theorem rowW5 (a b c d e : List UInt8) : rowO env 44 5 [(0, .str a), (1, .str b), (2, .str c), (3, .str d), (4, .str e)] = some (.row [.str a, .str b, .str c, .str d, .str e] 5 .full) := by kernel_rfl
def rowW (ws : List (List UInt8)) : V := .row (ws.map V.str) ws.length .unk
theorem rowW_is (ws : List (List UInt8)) : IsW (rowW ws) ws := .inr rfl
theorem strs_cell : ∀ ws : List (List UInt8), (ws.map V.str).all V.isCell = true
  | [] => rfl
  | w :: ws => by simp only [List.map_cons, List.all_cons, V.isCell, strs_cell ws, Bool.and_self]
theorem own_call (w : V) (ws : List (List UInt8)) (h : IsW w ws) (hl : ws.length ≤ 1000) (σ : S) : callFn env (ev env) 63 [w] σ = some (rowW ws, σ) := by
  refine callFn_pure rfl rfl (by simp only [List.all_cons, List.all_nil, closed_W h]; rfl) at63 rfl (by simp [Tryz.f63]) (by simp [Tryz.f63]) (G_start ?_) σ
  have hlim : lim = 2 ^ 40 := rfl
  have g0 : GrowV 0 [] 1 (.row [] 0 .full) 0 [] := .full _ _ rfl
  by_cases hz : ws = []
  · subst hz
    have hA : appO env false ⟨[], []⟩ 44 44 (.row [] 0 .full) w = some (.row [] 0 .full, ⟨[], []⟩) := by rcases h with ⟨rfl, _⟩ | rfl <;> kernel_rfl
    simp -implicitDefEqProofs only [Tryz.f63,Wa,Wb,Wc,Wd,We,Wf,Wg,Wh,Wi,Wj,Wk,Wl,Wm,Wn,Zo,Zp,evalT,Nat.reduceLT,Nat.reduceEqDiff,if_true,if_false,reduceIte,Ys,ofVal,ofCell,argT,resT,setT,Y0,Int.reduceEq,Int.reduceLT,Int.reduceLE,Int.reduceNeg,mb,Nat.reduceBEq,tys,stb,Va,storeList,Nat.reduceAdd,Nat.reduceLeDiff,empty_mk,opT_rowO,rowW0,hA]
    rfl
  have hpos : 0 < ws.length := by
    cases ws with
    | nil => exact absurd rfl hz
    | cons x ws => simp
  have hv : vLen w = some ws.length ∧ vCells [] 1 ws.length w = some (ws.map V.str) := by
    rcases h with ⟨rfl, rfl⟩ | rfl
    · exact ⟨rfl, rfl⟩
    · refine ⟨rfl, ?_⟩
      simp only [vCells, List.length_map, Nat.mul_one]
      rw [if_pos ⟨Nat.le_refl _, Nat.le_refl _⟩, List.take_of_length_le (by simp)]
  obtain ⟨v', ts', hA, hg, _⟩ := GrowV.append (E := env) (hp := []) (y := w) eW ⟨9, eW.slice⟩ g0 (Nat.zero_le _) hv.1 hv.2 (by simp) (strs_cell ws) ⟨by rw [hlim]; omega, by rw [hlim]; omega⟩
  simp -implicitDefEqProofs only [Tryz.f63,Wa,Wb,Wc,Wd,We,Wf,Wg,Wh,Wi,Wj,Wk,Wl,Wm,Wn,Zo,Zp,evalT,Nat.reduceLT,Nat.reduceEqDiff,if_true,if_false,reduceIte,Ys,ofVal,ofCell,argT,resT,setT,Y0,Int.reduceEq,Int.reduceLT,Int.reduceLE,Int.reduceNeg,mb,Nat.reduceBEq,tys,stb,Va,storeList,Nat.reduceAdd,Nat.reduceLeDiff,empty_mk,opT_rowO,rowW0,hA]
  rw [List.nil_append, Nat.zero_add] at hg
  obtain ⟨q, rfl⟩ := hg.isrow hpos
  change sealV [] 12 (V.row (List.map V.str ws) ws.length q) = _
  rw [sealV_row, seal_strs']; rfl
theorem ld4_0 (a b c d : V) (t : TypeId) (X : List AObj) : loadCellsV (.cells [a, b, c, d] t :: X) 4 (.ptr 0 0) = some [a, b, c, d] := rfl
theorem seal46 (h : List AObj) (nm : List UInt8) (lo hi : Int) (ws : List (List UInt8)) : sealV h 12 (.agg [.str nm, .int .i64 lo, .int .i64 hi, .row (ws.map V.str) ws.length .unk]) = some (.agg [.str nm, .int .i64 lo, .int .i64 hi, .row (ws.map V.str) ws.length .unk]) := by
  rw [sealV_agg, mapM_seal_cons, mapM_seal_cons, mapM_seal_cons, mapM_seal_cons, mapM_seal_nil, sealV_str, sealV_int, sealV_int, sealV_row, seal_strs']; rfl
theorem copy_call (c : Col) (h : IsW c.w c.ws) (hl : c.ws.length ≤ 1000) (σ : S) : callFn env (ev env) 41 [aggC c] σ = some (.agg [.str c.name, .int .i64 c.lo, .int .i64 c.hi, rowW c.ws], σ) := by
  obtain ⟨nm, lo, hi, w, ws⟩ := c
  simp only at h hl ⊢
  have hic := isCell_W h
  have hO := own_call w ws h hl
  refine callFn_pure rfl rfl (by simp only [aggC, List.all_cons, List.all_nil, V.closed, V.closed.closedL, closed_W h]; rfl) at41 rfl (by simp [Tryz.f41]) (by simp [Tryz.f41]) (G_start ?_) σ
  unfold rowW at hO ⊢
  simp -implicitDefEqProofs only [Tryz.f41,Wa,Wb,Wc,Wd,We,Wf,Wg,Wh,Wi,Wj,Wk,Wl,Wm,Wn,Zo,Zp,evalT,Nat.reduceLT,Nat.reduceEqDiff,if_true,if_false,reduceIte,Ys,ofVal,ofCell,argT,resT,setT,Y0,Int.reduceEq,Int.reduceLT,Int.reduceLE,Int.reduceNeg,mb,Nat.reduceBEq,tys,stb,Va,storeList,Nat.reduceAdd,Nat.reduceLeDiff,empty_mk,aggC,hO,isCell_int,isCell_str,hic,ld4_0]
  refine V1i rfl ?_
  exact seal46 _ nm lo hi ws
def reds : List (List UInt8) := [[114, 101, 100], [103, 114, 101, 101, 110], [98, 108, 117, 101], [103, 114, 101, 121], [112, 105, 110, 107]]
def ages : List (List UInt8) := [[97, 103, 101], [99, 111, 108, 111, 117, 114], [104, 101, 105, 103, 104, 116], [112, 108, 97, 99, 101], [115, 99, 111, 114, 101]]
def tabs : List (List UInt8) := [[112, 101, 111, 112, 108, 101], [118, 105, 115, 105, 116, 115], [112, 108, 97, 99, 101, 115], [110, 111, 116, 101, 115]]
theorem names0_call (σ : S) : callFn env (ev env) 40 [.int .i64 0] σ = some (rowW tabs, σ) := by
  refine callFn_pure rfl rfl rfl at40 rfl (by simp [Tryz.f40]) (by simp [Tryz.f40]) (G_start ?_) σ
  simp -implicitDefEqProofs only [Tryz.f40,Wa,Wb,Wc,Wd,We,Wf,Wg,Wh,Wi,Wj,Wk,Wl,Wm,Wn,Zo,Zp,evalT,Nat.reduceLT,Nat.reduceEqDiff,if_true,if_false,reduceIte,Ys,ofVal,ofCell,argT,resT,setT,Y0,Int.reduceEq,Int.reduceLT,Int.reduceLE,Int.reduceNeg,mb,Nat.reduceBEq,tys,stb,Va,storeList,Nat.reduceAdd,Nat.reduceLeDiff,empty_mk,opT_rowO,rowW4,rowW5]
  rfl
theorem names1_call (σ : S) : callFn env (ev env) 40 [.int .i64 1] σ = some (rowW ages, σ) := by
  refine callFn_pure rfl rfl rfl at40 rfl (by simp [Tryz.f40]) (by simp [Tryz.f40]) (G_start ?_) σ
  simp -implicitDefEqProofs only [Tryz.f40,Wa,Wb,Wc,Wd,We,Wf,Wg,Wh,Wi,Wj,Wk,Wl,Wm,Wn,Zo,Zp,evalT,Nat.reduceLT,Nat.reduceEqDiff,if_true,if_false,reduceIte,Ys,ofVal,ofCell,argT,resT,setT,Y0,Int.reduceEq,Int.reduceLT,Int.reduceLE,Int.reduceNeg,mb,Nat.reduceBEq,tys,stb,Va,storeList,Nat.reduceAdd,Nat.reduceLeDiff,empty_mk,opT_rowO,rowW4,rowW5]
  rfl
theorem names2_call (σ : S) : callFn env (ev env) 40 [.int .i64 2] σ = some (rowW reds, σ) := by
  refine callFn_pure rfl rfl rfl at40 rfl (by simp [Tryz.f40]) (by simp [Tryz.f40]) (G_start ?_) σ
  simp -implicitDefEqProofs only [Tryz.f40,Wa,Wb,Wc,Wd,We,Wf,Wg,Wh,Wi,Wj,Wk,Wl,Wm,Wn,Zo,Zp,evalT,Nat.reduceLT,Nat.reduceEqDiff,if_true,if_false,reduceIte,Ys,ofVal,ofCell,argT,resT,setT,Y0,Int.reduceEq,Int.reduceLT,Int.reduceLE,Int.reduceNeg,mb,Nat.reduceBEq,tys,stb,Va,storeList,Nat.reduceAdd,Nat.reduceLeDiff,empty_mk,opT_rowO,rowW4,rowW5]
  rfl
def KitC (nm : List UInt8) (c : Col) : Prop := c.name = nm ∧ ((c.w = .nilsl ∧ c.ws = [] ∧ -3 ≤ c.lo ∧ c.lo ≤ c.hi ∧ c.hi ≤ 20) ∨ ∃ k, 1 ≤ k ∧ k ≤ 5 ∧ c.ws = reds.take k ∧ c.w = rowW (reds.take k) ∧ c.lo = 0 ∧ c.hi = (k : Int) - 1)
theorem build46n (s : List UInt8) : buildO env 46 [(0, .str s)] = some (.agg [.str s, .int .i64 0, .int .i64 0, .nilsl]) := by kernel_rfl
theorem slice_red1 : sliceO env 44 (rowW reds) none (some (.int .i64 1)) none = some (rowW (reds.take 1)) := by kernel_rfl
theorem slice_red2 : sliceO env 44 (rowW reds) none (some (.int .i64 2)) none = some (rowW (reds.take 2)) := by kernel_rfl
theorem slice_red3 : sliceO env 44 (rowW reds) none (some (.int .i64 3)) none = some (rowW (reds.take 3)) := by kernel_rfl
theorem slice_red4 : sliceO env 44 (rowW reds) none (some (.int .i64 4)) none = some (rowW (reds.take 4)) := by kernel_rfl
theorem slice_red5 : sliceO env 44 (rowW reds) none (some (.int .i64 5)) none = some (rowW (reds.take 5)) := by kernel_rfl
theorem slice_reds (k : Nat) (h1 : 1 ≤ k) (h2 : k ≤ 5) : sliceO env 44 (rowW reds) none (some (.int .i64 k)) none = some (rowW (reds.take k)) := by
  have h : k = 1 ∨ k = 2 ∨ k = 3 ∨ k = 4 ∨ k = 5 := by omega
  rcases h with rfl | rfl | rfl | rfl | rfl
  · exact slice_red1
  · exact slice_red2
  · exact slice_red3
  · exact slice_red4
  · exact slice_red5
theorem ld4_at {h : List AObj} {n : Nat} {a b c d : V} {t : TypeId} (hh : h[n]? = some (.cells [a, b, c, d] t)) : loadCellsV h 4 (.ptr n 0) = some [a, b, c, d] := by simp [loadCellsV, hh]
theorem column65_call {xv : V} {xs : List Int} (K : Tk xv xs) {L : List AObj} {b : Nat} (hH : Has L b xv xs) (nm : List UInt8) (ts : List Nat) :
    ∃ v σ', callFn env (ev env) 39 [.ptr b 0, .str nm] ⟨L, ts⟩ = some (v, σ') ∧ ∃ (c : Col) (L' : List AObj), v = aggC c ∧ σ' = ⟨L', ts⟩ ∧ Has L' b xv xs ∧ Kp L L' b ∧ KitC nm c := by
  have hbl := hH.lt
  obtain ⟨k1, M1, hT1, hH1, hK1, hl1, p1, p2, _⟩ := take_at K ((hH.app [AObj.cells [V.str [], V.int IntKind.i64 0, V.int IntKind.i64 0, V.nilsl] 46]).app [AObj.cells [V.str nm, V.int IntKind.i64 0, V.int IntKind.i64 0, V.nilsl] 46]) 3 (by simp [In64])
  refine callFn_any rfl rfl at39 rfl (by simp [Tryz.f39]) (by simp [Tryz.f39]) (G_start ?_)
  have b46 := build46n nm
  have hlen : (L ++ [AObj.cells [V.str [], V.int IntKind.i64 0, V.int IntKind.i64 0, V.nilsl] 46]).length = L.length + 1 := by simp
  have hN2 := names2_call
  have hp2 := p2 (by decide)
  have hG1 : M1[(L ++ [AObj.cells [V.str [], V.int IntKind.i64 0, V.int IntKind.i64 0, V.nilsl] 46]).length]? = some (.cells [V.str nm, V.int IntKind.i64 0, V.int IntKind.i64 0, V.nilsl] 46) := by
    rw [hK1.2 _ (by simp) (by omega)]; exact heap_end _ _
  have hZ1 : M1[L.length]? = some (.cells [V.str [], V.int IntKind.i64 0, V.int IntKind.i64 0, V.nilsl] 46) := by
    rw [hK1.2 _ (by simp) (by omega), List.getElem?_append_left (by simp)]; exact heap_end _ _
  have hKL1 : Kp L M1 b := ((Kp.app _ _).trans (Kp.app _ _)).trans hK1
  have hE1 : ∀ c : AObj, (L ++ [AObj.cells [V.str [], V.int IntKind.i64 0, V.int IntKind.i64 0, V.nilsl] 46] ++ [c])[(L ++ [AObj.cells [V.str [], V.int IntKind.i64 0, V.int IntKind.i64 0, V.nilsl] 46]).length]? = some c := fun c => heap_end _ _
  have hE2 : ∀ c d : AObj, (L ++ [AObj.cells [V.str [], V.int IntKind.i64 0, V.int IntKind.i64 0, V.nilsl] 46] ++ [c]).set (L ++ [AObj.cells [V.str [], V.int IntKind.i64 0, V.int IntKind.i64 0, V.nilsl] 46]).length d = L ++ [AObj.cells [V.str [], V.int IntKind.i64 0, V.int IntKind.i64 0, V.nilsl] 46] ++ [d] := fun c d => set_end _ _ _
  generalize hPe : (L ++ [AObj.cells [V.str [], V.int IntKind.i64 0, V.int IntKind.i64 0, V.nilsl] 46]).length = P at *
  have seto : ∀ (M : List AObj) (X Y : AObj), M[P]? = some X → (M.set P Y)[P]? = some Y := fun M X Y h => List.getElem?_set_self (List.getElem?_eq_some_iff.1 h).1
  have setz : ∀ (M : List AObj) (Y : AObj), (M.set P Y)[L.length]? = M[L.length]? := fun M Y => List.getElem?_set_ne (by omega)
  have keep : ∀ (M : List AObj) (Y Z : AObj), Has M b xv xs → Kp L M b → Has ((M.set P Y).set L.length Z) b xv xs ∧ Kp L ((M.set P Y).set L.length Z) b := fun M Y Z h1 h2 => by
    obtain ⟨a, e1, e2⟩ := h1
    refine ⟨⟨a, e1, by rw [List.getElem?_set_ne (by omega), List.getElem?_set_ne (by omega)]; exact e2⟩, by have := h2.1; simp; omega, fun q hq hqb => ?_⟩
    rw [List.getElem?_set_ne (by omega), List.getElem?_set_ne (by omega)]; exact h2.2 q hq hqb
  by_cases h1 : k1 = 1
  · have g1 : (k1 = 1) = True := eq_true h1
    obtain ⟨k2, M2, hT2, hH2, hK2, hl2, p3, p4, _⟩ := take_at K hH1 5 (by simp [In64])
    have hp4 := p4 (by decide)
    obtain ⟨k, hk⟩ : ∃ k : Nat, 1 + k2 = (k : Int) := ⟨(1 + k2).toNat, by omega⟩
    have e1 : IntKind.i64.wrap (1 + k2) = (k : Int) := by rw [wrap_i64 (by omega) (by omega)]; exact hk
    have hsl := slice_reds k (by omega) (by omega)
    have hrl : (reds.take k).length = k := by simp [reds]; omega
    have hO := own_call (rowW (reds.take k)) (reds.take k) (rowW_is _) (by omega)
    have e2 : IntKind.i64.wrap ((k : Int) - 1) = (k : Int) - 1 := wrap_i64 (by omega) (by omega)
    have hG2 : M2[P]? = some (.cells [V.str nm, V.int IntKind.i64 0, V.int IntKind.i64 0, V.nilsl] 46) := by rw [hK2.2 _ (List.getElem?_eq_some_iff.1 hG1).1 (by omega)]; exact hG1
    have hZ2 : M2[L.length]? = some (.cells [V.str [], V.int IntKind.i64 0, V.int IntKind.i64 0, V.nilsl] 46) := by rw [hK2.2 _ (List.getElem?_eq_some_iff.1 hZ1).1 (by omega)]; exact hZ1
    have hs := fun Y => seto M2 _ Y hG2
    have hz := fun Y => (setz M2 Y).trans hZ2
    have hll : ∀ e, vLenT (some (.slice e)) (rowW (reds.take k)) = some (.int .i64 k) := fun e => by unfold rowW; rw [hrl]; rfl
    have hwc : (rowW (reds.take k)).isCell = true := rfl
    have hwc2 : (rowW (reds.take k)).cells = [rowW (reds.take k)] := rfl
    have hkp := keep M2 (.cells [V.str nm, V.int IntKind.i64 0, V.int IntKind.i64 ((k : Int) - 1), rowW (reds.take k)] 46) (.cells [V.str nm, V.int IntKind.i64 0, V.int IntKind.i64 ((k : Int) - 1), rowW (reds.take k)] 46) hH2 (hKL1.trans hK2)
    generalize hw : rowW (reds.take k) = w at *
    have hl4 := ld4_at (hs (.cells [V.str nm, V.int IntKind.i64 0, V.int IntKind.i64 ((k : Int) - 1), w] 46))
    simp -implicitDefEqProofs only [Tryz.f39,Wa,Wb,Wc,Wd,We,Wf,Wg,Wh,Wi,Wj,Wk,Wl,Wm,Wn,Zo,Zp,evalT,Nat.reduceLT,Nat.reduceEqDiff,if_true,if_false,reduceIte,Ys,ofVal,ofCell,argT,resT,setT,Y0,Int.reduceEq,Int.reduceLT,Int.reduceLE,Int.reduceNeg,mb,Nat.reduceBEq,tys,stb,Va,storeList,Nat.reduceAdd,Nat.reduceLeDiff,empty_mk,b46,isCell_int,isCell_str,isCell_nilsl,hT1,g1,heap_end,set_end,hN2,hT2,e1,opT_slice,optO_none,optO_some,hsl,hO,hG2,hwc,hwc2,hs,List.set_set,hll,e2,hl4,hz,hPe,hE1,hE2]
    refine V1i (v := [.agg [V.str nm, V.int IntKind.i64 0, V.int IntKind.i64 ((k : Int) - 1), w]]) (by rw [ld4_at (List.getElem?_set_self (List.getElem?_eq_some_iff.1 (hz _)).1)]; rfl) ?_
    exact ⟨⟨nm, 0, (k : Int) - 1, w, reds.take k⟩, _, rfl, rfl, hkp.1, hkp.2, rfl, .inr ⟨k, by omega, by omega, rfl, hw.symm, rfl, rfl⟩⟩
  · have g1 : (k1 = 1) = False := eq_false h1
    obtain ⟨k2, M2, hT2, hH2, hK2, hl2, p3, p4, _⟩ := take_at K hH1 9 (by simp [In64])
    have hp4 := p4 (by decide)
    have e1 : IntKind.i64.wrap (k2 - 3) = k2 - 3 := wrap_i64 (by omega) (by omega)
    have hG2 : M2[P]? = some (.cells [V.str nm, V.int IntKind.i64 0, V.int IntKind.i64 0, V.nilsl] 46) := by rw [hK2.2 _ (List.getElem?_eq_some_iff.1 hG1).1 (by omega)]; exact hG1
    have hZ2 : M2[L.length]? = some (.cells [V.str [], V.int IntKind.i64 0, V.int IntKind.i64 0, V.nilsl] 46) := by rw [hK2.2 _ (List.getElem?_eq_some_iff.1 hZ1).1 (by omega)]; exact hZ1
    have hs2 := seto M2 _ (.cells [V.str nm, V.int IntKind.i64 (k2 - 3), V.int IntKind.i64 0, V.nilsl] 46) hG2
    have hz2 := (setz M2 (.cells [V.str nm, V.int IntKind.i64 (k2 - 3), V.int IntKind.i64 0, V.nilsl] 46)).trans hZ2
    have hH2' : Has (M2.set P (.cells [V.str nm, V.int IntKind.i64 (k2 - 3), V.int IntKind.i64 0, V.nilsl] 46)) b xv xs := by
      obtain ⟨a, a1, a2⟩ := hH2
      exact ⟨a, a1, by rw [List.getElem?_set_ne (by omega)]; exact a2⟩
    have hKL2 : Kp L (M2.set P (.cells [V.str nm, V.int IntKind.i64 (k2 - 3), V.int IntKind.i64 0, V.nilsl] 46)) b := by
      have h2 := hKL1.trans hK2
      exact ⟨by have := h2.1; simp; omega, fun q hq hqb => by rw [List.getElem?_set_ne (by omega)]; exact h2.2 q hq hqb⟩
    obtain ⟨k3, M3, hT3, hH3, hK3, hl3, p5, p6, _⟩ := take_at K hH2' 8 (by simp [In64])
    have hp6 := p6 (by decide)
    have e3 : IntKind.i64.wrap (k2 - 3 + k3) = k2 - 3 + k3 := wrap_i64 (by omega) (by omega)
    have hG3 : M3[P]? = some (.cells [V.str nm, V.int IntKind.i64 (k2 - 3), V.int IntKind.i64 0, V.nilsl] 46) := by rw [hK3.2 _ (by have := (List.getElem?_eq_some_iff.1 hs2).1; omega) (by omega)]; exact hs2
    have hZ3 : M3[L.length]? = some (.cells [V.str [], V.int IntKind.i64 0, V.int IntKind.i64 0, V.nilsl] 46) := by rw [hK3.2 _ (by have := (List.getElem?_eq_some_iff.1 hz2).1; omega) (by omega)]; exact hz2
    have hs := fun Y => seto M3 _ Y hG3
    have hz := fun Y => (setz M3 Y).trans hZ3
    have hkp := keep M3 (.cells [V.str nm, V.int IntKind.i64 (k2 - 3), V.int IntKind.i64 (k2 - 3 + k3), V.nilsl] 46) (.cells [V.str nm, V.int IntKind.i64 (k2 - 3), V.int IntKind.i64 (k2 - 3 + k3), V.nilsl] 46) hH3 (hKL2.trans hK3)
    have hl4 := ld4_at (hs (.cells [V.str nm, V.int IntKind.i64 (k2 - 3), V.int IntKind.i64 (k2 - 3 + k3), V.nilsl] 46))
    simp -implicitDefEqProofs only [Tryz.f39,Wa,Wb,Wc,Wd,We,Wf,Wg,Wh,Wi,Wj,Wk,Wl,Wm,Wn,Zo,Zp,evalT,Nat.reduceLT,Nat.reduceEqDiff,if_true,if_false,reduceIte,Ys,ofVal,ofCell,argT,resT,setT,Y0,Int.reduceEq,Int.reduceLT,Int.reduceLE,Int.reduceNeg,mb,Nat.reduceBEq,tys,stb,Va,storeList,Nat.reduceAdd,Nat.reduceLeDiff,empty_mk,b46,isCell_int,isCell_str,isCell_nilsl,hT1,g1,heap_end,set_end,hT2,e1,hG2,hPe,hE1,hE2]
    refine G_stab rfl (fun s => cellAt s.heap[P]? 1 = some (V.int IntKind.i64 (k2 - 3))) (by rw [hs2]; rfl) (by kernel_rfl) ?_
    simp -implicitDefEqProofs only [Wa,Wb,Wc,Wd,We,Wf,Wg,Wh,Wi,Wj,Wk,Wl,Wm,Wn,Zo,Zp,evalT,Nat.reduceLT,Nat.reduceEqDiff,if_true,if_false,reduceIte,Ys,ofVal,ofCell,argT,resT,setT,Y0,Int.reduceEq,Int.reduceLT,Int.reduceLE,Int.reduceNeg,mb,Nat.reduceBEq,tys,stb,Va,storeList,Nat.reduceAdd,Nat.reduceLeDiff,isCell_int,isCell_str,isCell_nilsl,hs2,hT3,e3,hG3,hs,List.set_set,hl4,hz,sc_take,sc_load,sc_move,sc_indexAddr,sc_fieldAddr,rd_fieldAddr,sc_build',rd_build',rd_bs,sc_binOp,rd_binOp,sc_assign,rd_assign,sc_store,rd_store,rd_load,rd_move,rd_indexAddr,rd_call,aread_load]
    refine ⟨fun s h => h, V1i (v := [.agg [V.str nm, V.int IntKind.i64 (k2 - 3), V.int IntKind.i64 (k2 - 3 + k3), V.nilsl]]) (by rw [ld4_at (List.getElem?_set_self (List.getElem?_eq_some_iff.1 (hz _)).1)]; rfl) ?_⟩
    exact ⟨⟨nm, k2 - 3, k2 - 3 + k3, .nilsl, []⟩, _, rfl, rfl, hkp.1, hkp.2, rfl, .inl ⟨rfl, rfl, by simp only; omega, by simp only; omega, by simp only; omega⟩⟩
end Go.Proofs.YtcjapamldllleaaGreatDoor.N
namespace Go.Proofs.YtcjapamldllleaaGreatDoor.N
open Go.Ab
set_option maxHeartbeats 4000000
set_option maxHeartbeats 4000000
set_option maxRecDepth 100000
set_option linter.unusedSimpArgs false
set_option linter.unusedVariables false
set_option linter.unusedSectionVars false
theorem at29 : env.P.funcs[29]? = some Tryz.f29 := by kernel_rfl
theorem at12 : env.P.funcs[12]? = some Tryz.f12 := by kernel_rfl
theorem rowI5 (a b c d e : Int) : rowO env 31 5 [(0, .int .i64 a), (1, .int .i64 b), (2, .int .i64 c), (3, .int .i64 d), (4, .int .i64 e)] = some (.row [.int .i64 a, .int .i64 b, .int .i64 c, .int .i64 d, .int .i64 e] 5 .full) := by kernel_rfl
theorem idx_nums {k : Int} (h0 : 0 ≤ k) (h : k < 5) : ∃ (n : Int) (r : List V), 0 ≤ n ∧ n ≤ 1000000000 ∧ vIndexAddr 1 (.row [.int .i64 0, .int .i64 1, .int .i64 2, .int .i64 1000000, .int .i64 1000000000] 5 .full) (.int .i64 k) = some (.rptr (.int .i64 n :: r)) := by
  have : k = 0 ∨ k = 1 ∨ k = 2 ∨ k = 3 ∨ k = 4 := by omega
  rcases this with rfl | rfl | rfl | rfl | rfl
  · exact ⟨0, _, by decide, by decide, rfl⟩
  · exact ⟨1, _, by decide, by decide, rfl⟩
  · exact ⟨2, _, by decide, by decide, rfl⟩
  · exact ⟨1000000, _, by decide, by decide, rfl⟩
  · exact ⟨1000000000, _, by decide, by decide, rfl⟩
def bnd : Nat → Nat
  | 0 => 3
  | d + 1 => 3 * bnd d + 1
theorem bnd_pos : ∀ d, 3 ≤ bnd d
  | 0 => Nat.le_refl _
  | d + 1 => by have := bnd_pos d; simp only [bnd]; omega
def Draws (f : FuncId) (k : Int) (xv : V) (xs : List Int) (cs : List Col) (q : RCap) (d : Nat) : Prop :=
  ∀ (L : List AObj) (b : Nat) (ts : List Nat), Has L b xv xs → ∃ v σ', callFn env (ev env) f [.ptr b 0, .row (flatC cs) cs.length q, .int .i64 d] ⟨L, ts⟩ = some (v, σ') ∧
    ∃ (e : Ex) (L' : List AObj) (ts' : List Nat), σ' = ⟨L', ts'⟩ ∧ Has L' b xv xs ∧ Kp L L' b ∧ GN ts.length ts' v e.post ∧ Ext ts.length ts ts' ∧ WF cs e ∧ e.kind = k ∧ e.post.length ≤ bnd d
theorem bnd_le {d : Nat} (h : d ≤ 2) : bnd d ≤ 31 := by
  have : d = 0 ∨ d = 1 ∨ d = 2 := by omega
  rcases this with rfl | rfl | rfl <;> decide
theorem draw2 {f1 f2 : FuncId} {ka kb : Int} {xv : V} {xs : List Int} {cs : List Col} {q : RCap} {d : Nat} (D1 : Draws f1 ka xv xs cs q d) (D2 : Draws f2 kb xv xs cs q d) (hd : d ≤ 2) {M : List AObj} {b : Nat} (ts : List Nat) (hM : Has M b xv xs) :
    ∃ (v1 : V) (L1 : List AObj) (ts1 : List Nat) (v2 : V) (L2 : List AObj) (ts2 : List Nat) (v3 : V) (ts3 : List Nat) (e1 e2 : Ex),
      callFn env (ev env) f1 [.ptr b 0, .row (flatC cs) cs.length q, .int .i64 d] ⟨M, ts⟩ = some (v1, ⟨L1, ts1⟩) ∧ callFn env (ev env) f2 [.ptr b 0, .row (flatC cs) cs.length q, .int .i64 d] ⟨L1, ts1⟩ = some (v2, ⟨L2, ts2⟩) ∧ appO env false ⟨L2, ts2⟩ 22 22 v1 v2 = some (v3, ⟨L2, ts3⟩) ∧
      Has L2 b xv xs ∧ Kp M L2 b ∧ GN ts.length ts3 v3 (e1.post ++ e2.post) ∧ Ext ts.length ts ts3 ∧ ts.length ≤ ts3.length ∧ WF cs e1 ∧ WF cs e2 ∧ e1.kind = ka ∧ e2.kind = kb ∧ e1.post.length ≤ bnd d ∧ e2.post.length ≤ bnd d := by
  obtain ⟨v1, _, c1, e1, L1, ts1, rfl, a1, a2, a3, a4, a5, a6, a7⟩ := D1 M b ts hM
  obtain ⟨v2, _, c2, e2, L2, ts2, rfl, b1, b2, b3, b4, b5, b6, b7⟩ := D2 L1 b ts1 a1
  have := bnd_le hd
  have g1 := a3.ext b4
  obtain ⟨v3, ts3, c3, g3, x3⟩ := GN.append (hp := L2) g1 (Nat.le_trans a4.1 b4.1) b3.vlen (b3.vcells L2) (by omega) (by omega)
  have x : Ext ts.length ts ts3 := (a4.trans (b4.mono a4.1)).trans x3
  exact ⟨v1, L1, ts1, v2, L2, ts2, v3, ts3, e1, e2, c1, c2, c3, b1, a2.trans b2, g3, x, x.1, a5, b5, a6, b6, a7, b7⟩
section
variable {xv : V} {xs : List Int} (K : Tk xv xs) {cs : List Col} (q : RCap) (ok : OkC cs) (h1 : 1 ≤ cs.length) (h2 : cs.length ≤ 1000) (hws : ∀ i, i < cs.length → (cs.getD i Col.none).ws.length ≤ 1000)
include K ok h1 h2 hws
theorem operand_step (d : Nat) (hd : d ≤ 3) (ihO : ∀ d', d = d' + 1 → Draws 29 0 xv xs cs q d') (ihC : ∀ d', d = d' + 1 → Draws 12 1 xv xs cs q d') : Draws 29 0 xv xs cs q d := by
  intro L b ts hH
  have hbl := hH.lt
  obtain ⟨k0, M0, hT0, hH0, hK0, hl0, p1, p2, _⟩ := take_at K hH (cs.length : Int) (by unfold In64; omega)
  have hp2 := p2 (by omega)
  obtain ⟨i, hi⟩ : ∃ i : Nat, k0 = (i : Int) := ⟨k0.toNat, by omega⟩
  subst hi
  have hi : i < cs.length := by omega
  obtain ⟨rr, hix⟩ := idx_C' cs q hi
  have hwc := isCell_W (ok.at hi)
  generalize hc : cs.getD i Col.none = c at *
  obtain ⟨k1, M1, hT1, hH1, hK1, hl1, p3, p4, _⟩ := take_at K (hH0.app [AObj.cells [V.str c.name, V.int .i64 c.lo, V.int .i64 c.hi, c.w] 46]) 8 (by simp [In64])
  have hp4 := p4 (by decide)
  have hG1 : M1[M0.length]? = some (.cells [V.str c.name, V.int .i64 c.lo, V.int .i64 c.hi, c.w] 46) := by rw [hK1.2 _ (by simp) (by omega)]; exact heap_end _ _
  have hKL1 : Kp L M1 b := (hK0.trans (Kp.app _ _)).trans hK1
  have ld4 := load4_rptr
  refine callFn_any rfl rfl at29 rfl (by simp [Tryz.f29]) (by simp [Tryz.f29]) (G_start ?_)
  by_cases hleaf : d = 0 ∨ k1 < 3
  · -- a number or a column
    have hleafG : ((d : Int) < 1) = True ∨ (((d : Int) < 1) = False ∧ (k1 < 3) = True) := by
      rcases hleaf with h | h
      · exact .inl (eq_true (by omega))
      · by_cases h0 : d = 0
        · exact .inl (eq_true (by omega))
        · exact .inr ⟨eq_false (by omega), eq_true h⟩
    by_cases hk1 : k1 = 1
    · have g1 : (k1 = 1) = True := eq_true hk1
      obtain ⟨k2, M2, hT2, hH2, hK2, hl2, p5, p6, _⟩ := take_at K hH1 12 (by simp [In64])
      have hp6 := p6 (by decide)
      have b52 := build52n 1 k2
      have fin : ∃ (e : Ex) (L' : List AObj) (ts' : List Nat), (⟨M2, ts⟩ : S) = ⟨L', ts'⟩ ∧ Has L' b xv xs ∧ Kp L L' b ∧ GN ts.length ts' (.row [.int .i64 1, .int .i64 k2, .str []] 1 .full) e.post ∧ Ext ts.length ts ts' ∧ WF cs e ∧ e.kind = 0 ∧ e.post.length ≤ bnd d :=
        ⟨.num k2, M2, ts, rfl, hH2, hKL1.trans hK2, GN.full _ _ [⟨1, k2, []⟩], .rfl' _ _, ⟨p5, by omega⟩, rfl, by have := bnd_pos d; simp [Ex.post]; omega⟩
      rcases hleafG with g0 | ⟨g0, g3⟩
      · simp -implicitDefEqProofs only [Tryz.f29,Wa,Wb,Wc,Wd,We,Wf,Wg,Wh,Wi,Wj,Wk,Wl,Wm,Wn,Zo,Zp,evalT,Nat.reduceLT,Nat.reduceEqDiff,if_true,if_false,reduceIte,Ys,ofVal,ofCell,argT,resT,setT,Y0,Int.reduceEq,Int.reduceLT,Int.reduceLE,Int.reduceNeg,mb,Nat.reduceBEq,tys,stb,Va,storeList,Nat.reduceAdd,Nat.reduceLeDiff,-Ys,hT0,hix,ld4,isCell_int,isCell_str,hwc,hT1,heap_end,set_end,g0,g1,hT2,b52,opT_rowO,rowN1]
        exact fin
      · simp -implicitDefEqProofs only [Tryz.f29,Wa,Wb,Wc,Wd,We,Wf,Wg,Wh,Wi,Wj,Wk,Wl,Wm,Wn,Zo,Zp,evalT,Nat.reduceLT,Nat.reduceEqDiff,if_true,if_false,reduceIte,Ys,ofVal,ofCell,argT,resT,setT,Y0,Int.reduceEq,Int.reduceLT,Int.reduceLE,Int.reduceNeg,mb,Nat.reduceBEq,tys,stb,Va,storeList,Nat.reduceAdd,Nat.reduceLeDiff,-Ys,hT0,hix,ld4,isCell_int,isCell_str,hwc,hT1,heap_end,set_end,g0,g3,g1,hT2,b52,opT_rowO,rowN1]
        exact fin
    · have g1 : (k1 = 1) = False := eq_false hk1
      have b52 := build52c c.name
      have fin : ∃ (e : Ex) (L' : List AObj) (ts' : List Nat), (⟨M1, ts⟩ : S) = ⟨L', ts'⟩ ∧ Has L' b xv xs ∧ Kp L L' b ∧ GN ts.length ts' (.row [.int .i64 2, .int .i64 0, .str c.name] 1 .full) e.post ∧ Ext ts.length ts ts' ∧ WF cs e ∧ e.kind = 0 ∧ e.post.length ≤ bnd d :=
        ⟨.col c.name, M1, ts, rfl, hH1, hKL1, GN.full _ _ [⟨2, 0, c.name⟩], .rfl' _ _, by unfold WF; rw [← hc]; exact seek_any hi, rfl, by have := bnd_pos d; simp [Ex.post]; omega⟩
      rcases hleafG with g0 | ⟨g0, g3⟩
      · simp -implicitDefEqProofs only [Tryz.f29,Wa,Wb,Wc,Wd,We,Wf,Wg,Wh,Wi,Wj,Wk,Wl,Wm,Wn,Zo,Zp,evalT,Nat.reduceLT,Nat.reduceEqDiff,if_true,if_false,reduceIte,Ys,ofVal,ofCell,argT,resT,setT,Y0,Int.reduceEq,Int.reduceLT,Int.reduceLE,Int.reduceNeg,mb,Nat.reduceBEq,tys,stb,Va,storeList,Nat.reduceAdd,Nat.reduceLeDiff,-Ys,hT0,hix,ld4,isCell_int,isCell_str,hwc,hT1,heap_end,set_end,g0,g1,hG1,b52,opT_rowO,rowN1]
        exact fin
      · simp -implicitDefEqProofs only [Tryz.f29,Wa,Wb,Wc,Wd,We,Wf,Wg,Wh,Wi,Wj,Wk,Wl,Wm,Wn,Zo,Zp,evalT,Nat.reduceLT,Nat.reduceEqDiff,if_true,if_false,reduceIte,Ys,ofVal,ofCell,argT,resT,setT,Y0,Int.reduceEq,Int.reduceLT,Int.reduceLE,Int.reduceNeg,mb,Nat.reduceBEq,tys,stb,Va,storeList,Nat.reduceAdd,Nat.reduceLeDiff,-Ys,hT0,hix,ld4,isCell_int,isCell_str,hwc,hT1,heap_end,set_end,g0,g3,g1,hG1,b52,opT_rowO,rowN1]
        exact fin
  -- deeper
  have hd0 : d ≠ 0 := fun h => hleaf (.inl h)
  obtain ⟨d', rfl⟩ : ∃ d', d = d' + 1 := ⟨d - 1, by omega⟩
  have g0 : (((d' + 1 : Nat) : Int) < 1) = False := eq_false (by omega)
  have g3 : (k1 < 3) = False := eq_false (fun h => hleaf (.inr h))
  have ed : IntKind.i64.wrap (((d' + 1 : Nat) : Int) - 1) = (d' : Int) := by rw [wrap_i64 (by omega) (by omega)]; omega
  have dO := ihO d' rfl
  have dC := ihC d' rfl
  have hbd := bnd_le (show d' ≤ 2 by omega)
  have hbs : bnd (d' + 1) = 3 * bnd d' + 1 := rfl
  obtain ⟨k3, M2, hT2, hH2, hK2, hl2, p5, p6, _⟩ := take_at K hH1 6 (by simp [In64])
  have hp6 := p6 (by decide)
  have hKL2 : Kp L M2 b := hKL1.trans hK2
  by_cases c012 : k3 = 0 ∨ k3 = 1 ∨ k3 = 2
  · obtain ⟨v1, L1, ts1, v2, L2, ts2, v3, ts3, e1, e2, r1, r2, r3, a1, a2, a3, a4, a5, a6, a7, a8, a9, a10, a11⟩ := draw2 dO dO (by omega) ts hH2
    have e5 : IntKind.i64.wrap (4 + k3) = 4 + k3 := wrap_i64 (by omega) (by omega)
    have b52 := build52o (4 + k3)
    obtain ⟨v4, ts4, r4, a12, a13⟩ := GN.push (hp := L2) a3 a5 (opN (4 + k3)) .full (by rw [List.length_append]; omega)
    simp only at r4
    have ho : 4 + k3 = 4 ∨ 4 + k3 = 5 ∨ 4 + k3 = 6 := by omega
    have fin : ∃ (e : Ex) (L' : List AObj) (ts' : List Nat), (⟨L2, ts4⟩ : S) = ⟨L', ts'⟩ ∧ Has L' b xv xs ∧ Kp L L' b ∧ GN ts.length ts' v4 e.post ∧ Ext ts.length ts ts' ∧ WF cs e ∧ e.kind = 0 ∧ e.post.length ≤ bnd (d' + 1) :=
      ⟨.bin (4 + k3) e1 e2, L2, ts4, rfl, a1, hKL2.trans a2, by simp only [Ex.post]; rw [← List.append_assoc]; exact a12, a4.trans a13, ⟨a6, a7, ⟨by omega, by omega, by omega, by omega⟩, by rw [a8, a9]; rcases ho with h | h | h <;> rw [h] <;> rfl⟩, by unfold Ex.kind; rcases ho with h | h | h <;> rw [h] <;> rfl, by simp only [Ex.post, List.length_append, List.length_cons, List.length_nil]; omega⟩
    rcases c012 with rfl | rfl | rfl
    all_goals
      simp -implicitDefEqProofs only [Tryz.f29,Wa,Wb,Wc,Wd,We,Wf,Wg,Wh,Wi,Wj,Wk,Wl,Wm,Wn,Zo,Zp,evalT,Nat.reduceLT,Nat.reduceEqDiff,if_true,if_false,reduceIte,Ys,ofVal,ofCell,argT,resT,setT,Y0,Int.reduceEq,Int.reduceLT,Int.reduceLE,Int.reduceNeg,mb,Nat.reduceBEq,tys,stb,Va,storeList,Nat.reduceAdd,Nat.reduceLeDiff,-Ys,hT0,hix,ld4,isCell_int,isCell_str,hwc,hT1,heap_end,set_end,g0,g3,hT2,ed,r1,r2,r3,e5,b52,opT_rowO,rowN1,r4]
      exact fin
  have n0 : (k3 = 0) = False := eq_false (by omega)
  have n1 : (k3 = 1) = False := eq_false (by omega)
  have n2 : (k3 = 2) = False := eq_false (by omega)
  by_cases c3 : k3 = 3
  · have n3 : (k3 = 3) = True := eq_true c3
    obtain ⟨v1, _, r1, e1, L1, ts1, rfl, a1, a2, a3, a4, a6, a8, a10⟩ := dO M2 b ts hH2
    have b52 := build52o 7
    obtain ⟨v4, ts4, r4, a12, a13⟩ := GN.push (hp := L1) a3 a4.1 (opN 7) .full (by omega)
    simp only at r4
    simp -implicitDefEqProofs only [Tryz.f29,Wa,Wb,Wc,Wd,We,Wf,Wg,Wh,Wi,Wj,Wk,Wl,Wm,Wn,Zo,Zp,evalT,Nat.reduceLT,Nat.reduceEqDiff,if_true,if_false,reduceIte,Ys,ofVal,ofCell,argT,resT,setT,Y0,Int.reduceEq,Int.reduceLT,Int.reduceLE,Int.reduceNeg,mb,Nat.reduceBEq,tys,stb,Va,storeList,Nat.reduceAdd,Nat.reduceLeDiff,-Ys,hT0,hix,ld4,isCell_int,isCell_str,hwc,hT1,heap_end,set_end,g0,g3,n0,n1,n2,n3,hT2,ed,r1,b52,opT_rowO,rowN1,r4]
    exact ⟨.una 7 e1, L1, ts4, rfl, a1, hKL2.trans a2, a12, a4.trans a13, ⟨a6, .inl rfl, by rw [a8]; rfl⟩, rfl, by simp only [Ex.post, List.length_append, List.length_cons, List.length_nil]; omega⟩
  have n3 : (k3 = 3) = False := eq_false c3
  by_cases c4 : k3 = 4
  · have n4 : (k3 = 4) = True := eq_true c4
    obtain ⟨k4, M3, hT3, hH3, hK3, hl3, p7, p8, _⟩ := take_at K hH2 5 (by simp [In64])
    have hp8 := p8 (by decide)
    obtain ⟨nn, rr2, z1, z2, hin⟩ := idx_nums p7 hp8
    have b52 := build52n 1 nn
    simp -implicitDefEqProofs only [Tryz.f29,Wa,Wb,Wc,Wd,We,Wf,Wg,Wh,Wi,Wj,Wk,Wl,Wm,Wn,Zo,Zp,evalT,Nat.reduceLT,Nat.reduceEqDiff,if_true,if_false,reduceIte,Ys,ofVal,ofCell,argT,resT,setT,Y0,Int.reduceEq,Int.reduceLT,Int.reduceLE,Int.reduceNeg,mb,Nat.reduceBEq,tys,stb,Va,storeList,Nat.reduceAdd,Nat.reduceLeDiff,-Ys,hT0,hix,ld4,isCell_int,isCell_str,hwc,hT1,heap_end,set_end,g0,g3,n0,n1,n2,n3,n4,hT2,hT3,opT_rowO,rowI5,hin,load_hd,b52,rowN1]
    exact ⟨.num nn, M3, ts, rfl, hH3, hKL2.trans hK3, GN.full _ _ [⟨1, nn, []⟩], .rfl' _ _, ⟨z1, z2⟩, rfl, by simp [Ex.post]; omega⟩
  have n4 : (k3 = 4) = False := eq_false c4
  obtain ⟨v1, L1, ts1, v2, L2, ts2, v3, ts3, e1, e2, r1, r2, r3, a1, a2, a3, a4, a5, a6, a7, a8, a9, a10, a11⟩ := draw2 dC dO (by omega) ts hH2
  obtain ⟨w1, _, s1, e3, L3, ts4, rfl, b1, b2, b3, b4, b5, b6, b7⟩ := dO L2 b ts3 a1
  have b52 := build52o 8
  obtain ⟨w2, ts5, s2, b8, b9⟩ := GN.append (hp := L3) (a3.ext b4) (Nat.le_trans a5 b4.1) b3.vlen (b3.vcells L3) (by rw [List.length_append]; omega) (by omega)
  obtain ⟨w3, ts6, s3, b10, b11⟩ := GN.push (hp := L3) b8 (Nat.le_trans (Nat.le_trans a5 b4.1) b9.1) (opN 8) .full (by rw [List.length_append, List.length_append]; omega)
  simp only at s3
  simp -implicitDefEqProofs only [Tryz.f29,Wa,Wb,Wc,Wd,We,Wf,Wg,Wh,Wi,Wj,Wk,Wl,Wm,Wn,Zo,Zp,evalT,Nat.reduceLT,Nat.reduceEqDiff,if_true,if_false,reduceIte,Ys,ofVal,ofCell,argT,resT,setT,Y0,Int.reduceEq,Int.reduceLT,Int.reduceLE,Int.reduceNeg,mb,Nat.reduceBEq,tys,stb,Va,storeList,Nat.reduceAdd,Nat.reduceLeDiff,-Ys,hT0,hix,ld4,isCell_int,isCell_str,hwc,hT1,heap_end,set_end,g0,g3,n0,n1,n2,n3,n4,hT2,ed,r1,r2,r3,s1,s2,b52,opT_rowO,rowN1,s3]
  exact ⟨.ite e1 e2 e3, L3, ts6, rfl, b1, (hKL2.trans a2).trans b2, by simp only [Ex.post]; rw [← List.append_assoc, ← List.append_assoc]; exact b10, ((a4.trans (b4.mono a5)).trans b9).trans b11, ⟨a6, a7, b5, a8, a9, b6⟩, rfl, by simp only [Ex.post, List.length_append, List.length_cons, List.length_nil]; omega⟩
end
end Go.Proofs.YtcjapamldllleaaGreatDoor.N
namespace Go.Proofs.YtcjapamldllleaaGreatDoor.N
open Go.Ab
set_option maxHeartbeats 4000000
set_option maxHeartbeats 4000000
set_option maxRecDepth 100000
set_option linter.unusedSimpArgs false
set_option linter.unusedVariables false
set_option linter.unusedSectionVars false
theorem len_W' {w : V} {ws : List (List UInt8)} (h : IsW w ws) (e : TypeId) : vLenT (some (.slice e)) w = some (.int .i64 ws.length) := by rcases h with ⟨rfl, rfl⟩ | rfl <;> simp [vLenT]
theorem idx_W' {w : V} {ws : List (List UInt8)} (h : IsW w ws) {i : Nat} (hi : i < ws.length) : ∃ r, vIndexAddr 1 w (.int .i64 i) = some (.rptr (.str (ws.getD i []) :: r)) := by
  rcases h with ⟨rfl, rfl⟩ | rfl
  · simp at hi
  · refine ⟨(ws.map V.str).drop (i + 1), ?_⟩
    rw [Ys, if_pos (by omega), Int.toNat_natCast, Nat.mul_one, List.drop_eq_getElem_cons (by simpa using hi)]
    simp [List.getD, hi]
theorem at11 : env.P.funcs[11]? = some Tryz.f11 := by kernel_rfl
theorem takes_cmp {op : Int} (h1 : 9 ≤ op) (h2 : op ≤ 14) : takesN op = ([0, 0], 1) := by
  have : op = 9 ∨ op = 10 ∨ op = 11 ∨ op = 12 ∨ op = 13 ∨ op = 14 := by omega
  rcases this with rfl | rfl | rfl | rfl | rfl | rfl <;> rfl
theorem tmod2' {x : Int} (h : 0 ≤ x) : Int.tmod x 2 = x % 2 := Int.tmod_eq_emod_of_nonneg h
section
variable {xv : V} {xs : List Int} (K : Tk xv xs) {cs : List Col} (q : RCap) (ok : OkC cs) (h1 : 1 ≤ cs.length) (h2 : cs.length ≤ 1000) (hws : ∀ i, i < cs.length → (cs.getD i Col.none).ws.length ≤ 1000)
include K ok h1 h2 hws
open Classical in
theorem condition_step (d : Nat) (hd : d ≤ 3) (ihO : ∀ d', d = d' + 1 → Draws 29 0 xv xs cs q d') (ihC : ∀ d', d = d' + 1 → Draws 12 1 xv xs cs q d') : Draws 12 1 xv xs cs q d := by
  intro L b ts hH
  have hbl := hH.lt
  obtain ⟨k0, M0, hT0, hH0, hK0, hl0, p1, p2, _⟩ := take_at K hH (cs.length : Int) (by unfold In64; omega)
  have hp2 := p2 (by omega)
  obtain ⟨i, hi⟩ : ∃ i : Nat, k0 = (i : Int) := ⟨k0.toNat, by omega⟩
  subst hi
  have hi : i < cs.length := by omega
  obtain ⟨k1, M1, hT1, hH1, hK1, hl1, p3, p4, _⟩ := take_at K hH0 8 (by simp [In64])
  have hp4 := p4 (by decide)
  have hKL1 : Kp L M1 b := hK0.trans hK1
  refine callFn_any rfl rfl at12 rfl (by simp [Tryz.f12]) (by simp [Tryz.f12]) (G_start ?_)
  by_cases hleaf : d = 0 ∨ k1 < 3
  · have hleafG : ((d : Int) < 1) = True ∨ (((d : Int) < 1) = False ∧ (k1 < 3) = True) := by
      rcases hleaf with h | h
      · exact .inl (eq_true (by omega))
      · by_cases h0 : d = 0
        · exact .inl (eq_true (by omega))
        · exact .inr ⟨eq_false (by omega), eq_true h⟩
    obtain ⟨rr, hix⟩ := idx_C' cs q hi
    have hW := ok.at hi
    have hwc := isCell_W hW
    have hll := len_W' hW
    have hF := first_call cs ok q i hi h2
    have hsk := seek_any hi
    have hfc := fun h : IsFirst cs i => first_col hi h
    generalize hc : cs.getD i Col.none = c at *
    obtain ⟨k2, M2, hT2, hH2, hK2, hl2, p5, p6, _⟩ := take_at K (hH1.app [AObj.cells [V.str c.name, V.int .i64 c.lo, V.int .i64 c.hi, c.w] 46]) 6 (by simp [In64])
    have hp6 := p6 (by decide)
    have e5 : IntKind.i64.wrap (9 + k2) = 9 + k2 := wrap_i64 (by omega) (by omega)
    have b52 := build52o (9 + k2)
    have hG2 : M2[M1.length]? = some (.cells [V.str c.name, V.int .i64 c.lo, V.int .i64 c.hi, c.w] 46) := by rw [hK2.2 _ (by simp) (by have := hH1.lt; omega)]; exact heap_end _ _
    have hG3 : ∀ o : AObj, (M2 ++ [o])[M1.length]? = some (.cells [V.str c.name, V.int .i64 c.lo, V.int .i64 c.hi, c.w] 46) := fun o => by rw [List.getElem?_append_left (List.getElem?_eq_some_iff.1 hG2).1]; exact hG2
    have hKL2 : Kp L M2 b := (hKL1.trans (Kp.app _ _)).trans hK2
    have ld4 := load4_rptr
    by_cases hwd : 0 < c.ws.length ∧ IsFirst cs i ∧ k1 ≠ 1
    · obtain ⟨hw1, hw2, hw3⟩ := hwd
      have gw : ((c.ws.length : Int) > 0) = True := eq_true (by omega)
      have gk : (k1 = 1) = False := eq_false hw3
      rw [decide_eq_true hw2] at hF
      have et : Int.tmod (9 + k2) 2 = (9 + k2) % 2 := tmod2' (by omega)
      obtain ⟨op, hop⟩ : ∃ op, op = 9 + (9 + k2) % 2 := ⟨_, rfl⟩
      have e6 : IntKind.i64.wrap (9 + (9 + k2) % 2) = op := by rw [hop]; exact wrap_i64 (by omega) (by omega)
      have hop2 : op = 9 ∨ op = 10 := by omega
      obtain ⟨k3, M3, hT3, hH3, hK3, hl3, p7, p8, _⟩ := take_at K (hH2.app [AObj.cells [V.int .i64 op, V.int .i64 0, V.str []] 42]) (c.ws.length : Int) (by unfold In64; have := hws i hi; rw [hc] at this; omega)
      have hp8 := p8 (by omega)
      obtain ⟨j, hj⟩ : ∃ j : Nat, k3 = (j : Int) := ⟨k3.toNat, by omega⟩
      subst hj
      have hj : j < c.ws.length := by omega
      obtain ⟨rj, hixj⟩ := idx_W' hW hj
      have hG4 : M3[M1.length]? = some (.cells [V.str c.name, V.int .i64 c.lo, V.int .i64 c.hi, c.w] 46) := by rw [hK3.2 _ (by have := (List.getElem?_eq_some_iff.1 hG2).1; simp; omega) (by have := hH1.lt; omega)]; exact hG3 _
      have hG5 : M3[M2.length]? = some (.cells [V.int .i64 op, V.int .i64 0, V.str []] 42) := by rw [hK3.2 _ (by simp) (by have := hH2.lt; omega)]; exact heap_end _ _
      have b52a := build52c c.name
      have b52b : buildO env 42 [(0, .int .i64 3), (2, .str (c.ws.getD j []))] = some (.agg [.int .i64 3, .int .i64 0, .str (c.ws.getD j [])]) := by kernel_rfl
      have hld := load3_ptr hG5
      have hld0 : loadCellsV (M2 ++ [AObj.cells [V.int .i64 op, V.int .i64 0, V.str []] 42]) 3 (.ptr M2.length 0) = some [V.int .i64 op, V.int .i64 0, V.str []] := load3_ptr (heap_end _ _)
      have fin : ∃ (e : Ex) (L' : List AObj) (ts' : List Nat), (⟨M3, ts⟩ : S) = ⟨L', ts'⟩ ∧ Has L' b xv xs ∧ Kp L L' b ∧ GN ts.length ts' (.row [.int .i64 2, .int .i64 0, .str c.name, .int .i64 3, .int .i64 0, .str (c.ws.getD j []), .int .i64 op, .int .i64 0, .str []] 3 .full) e.post ∧ Ext ts.length ts ts' ∧ WF cs e ∧ e.kind = 1 ∧ e.post.length ≤ bnd d :=
        ⟨.wrd c.name (c.ws.getD j []) op, M3, ts, rfl, hH3, (hKL2.trans (Kp.app _ _)).trans hK3, GN.full _ _ [⟨2, 0, c.name⟩, ⟨3, 0, c.ws.getD j []⟩, ⟨op, 0, []⟩], .rfl' _ _, ⟨hsk, by rw [hfc hw2]; simp [List.getD, hj], hop2⟩, rfl, bnd_pos d⟩
      rcases hleafG with g0 | ⟨g0, g3⟩
      · simp -implicitDefEqProofs only [Tryz.f12,Wa,Wb,Wc,Wd,We,Wf,Wg,Wh,Wi,Wj,Wk,Wl,Wm,Wn,Zo,Zp,evalT,Nat.reduceLT,Nat.reduceEqDiff,if_true,if_false,reduceIte,Ys,ofVal,ofCell,argT,resT,setT,Y0,Int.reduceEq,Int.reduceLT,Int.reduceLE,Int.reduceNeg,mb,Nat.reduceBEq,tys,stb,Va,storeList,Nat.reduceAdd,Nat.reduceLeDiff,-Ys,hT0,hix,ld4,isCell_int,isCell_str,hwc,hT1,heap_end,set_end,g0,hT2,e5,b52,hG3,hll,gw,hF,gk,et,e6]
        refine G_stab rfl (fun s => s.heap[M1.length]? = some (.cells [V.str c.name, V.int .i64 c.lo, V.int .i64 c.hi, c.w] 46) ∧ s.heap[M2.length]? = some (.cells [V.int .i64 op, V.int .i64 0, V.str []] 42)) ⟨hG3 _, heap_end _ _⟩ (by kernel_rfl) ?_
        simp -implicitDefEqProofs only [Wa,Wb,Wc,Wd,We,Wf,Wg,Wh,Wi,Wj,Wk,Wl,Wm,Wn,Zo,Zp,evalT,Nat.reduceLT,Nat.reduceEqDiff,if_true,if_false,reduceIte,Ys,ofVal,ofCell,argT,resT,setT,Y0,Int.reduceEq,Int.reduceLT,Int.reduceLE,Int.reduceNeg,mb,Nat.reduceBEq,tys,stb,Va,storeList,Nat.reduceAdd,Nat.reduceLeDiff,-Ys,isCell_int,isCell_str,hwc,heap_end,set_end,hG3,hll,hT3,hixj,load_hd,b52a,b52b,hld,opT_rowO,rowN3,sc_take,sc_load,sc_move,sc_indexAddr,sc_fieldAddr,rd_fieldAddr,sc_build',rd_build',rd_bs,sc_binOp,rd_binOp,sc_assign,rd_assign,sc_store,rd_store,rd_load,rd_move,rd_indexAddr,rd_call,aread_load]
        exact ⟨fun s h => by rw [h.1]; rfl, fun s h => by rw [h.1]; rfl, fun s h => by rw [h.1]; rfl, fun _ => trivial, ⟨hG4, hG5⟩, fun _ _ => trivial, fun s h => by rw [load3_ptr h.2]; rfl, fun _ => ⟨hG4, hG5⟩, fin⟩
      · simp -implicitDefEqProofs only [Tryz.f12,Wa,Wb,Wc,Wd,We,Wf,Wg,Wh,Wi,Wj,Wk,Wl,Wm,Wn,Zo,Zp,evalT,Nat.reduceLT,Nat.reduceEqDiff,if_true,if_false,reduceIte,Ys,ofVal,ofCell,argT,resT,setT,Y0,Int.reduceEq,Int.reduceLT,Int.reduceLE,Int.reduceNeg,mb,Nat.reduceBEq,tys,stb,Va,storeList,Nat.reduceAdd,Nat.reduceLeDiff,-Ys,hT0,hix,ld4,isCell_int,isCell_str,hwc,hT1,heap_end,set_end,g0,g3,hT2,e5,b52,hG3,hll,gw,hF,gk,et,e6]
        refine G_stab rfl (fun s => s.heap[M1.length]? = some (.cells [V.str c.name, V.int .i64 c.lo, V.int .i64 c.hi, c.w] 46) ∧ s.heap[M2.length]? = some (.cells [V.int .i64 op, V.int .i64 0, V.str []] 42)) ⟨hG3 _, heap_end _ _⟩ (by kernel_rfl) ?_
        simp -implicitDefEqProofs only [Wa,Wb,Wc,Wd,We,Wf,Wg,Wh,Wi,Wj,Wk,Wl,Wm,Wn,Zo,Zp,evalT,Nat.reduceLT,Nat.reduceEqDiff,if_true,if_false,reduceIte,Ys,ofVal,ofCell,argT,resT,setT,Y0,Int.reduceEq,Int.reduceLT,Int.reduceLE,Int.reduceNeg,mb,Nat.reduceBEq,tys,stb,Va,storeList,Nat.reduceAdd,Nat.reduceLeDiff,-Ys,isCell_int,isCell_str,hwc,heap_end,set_end,hG3,hll,hT3,hixj,load_hd,b52a,b52b,hld,opT_rowO,rowN3,sc_take,sc_load,sc_move,sc_indexAddr,sc_fieldAddr,rd_fieldAddr,sc_build',rd_build',rd_bs,sc_binOp,rd_binOp,sc_assign,rd_assign,sc_store,rd_store,rd_load,rd_move,rd_indexAddr,rd_call,aread_load]
        exact ⟨fun s h => by rw [h.1]; rfl, fun s h => by rw [h.1]; rfl, fun s h => by rw [h.1]; rfl, fun _ => trivial, ⟨hG4, hG5⟩, fun _ _ => trivial, fun s h => by rw [load3_ptr h.2]; rfl, fun _ => ⟨hG4, hG5⟩, fin⟩
    · obtain ⟨k3, M3, hT3, hH3, hK3, hl3, p7, p8, _⟩ := take_at K (hH2.app [AObj.cells [V.int .i64 (9 + k2), V.int .i64 0, V.str []] 42]) 9 (by simp [In64])
      have hp8 := p8 (by omega)
      have hG4 : M3[M1.length]? = some (.cells [V.str c.name, V.int .i64 c.lo, V.int .i64 c.hi, c.w] 46) := by rw [hK3.2 _ (by have := (List.getElem?_eq_some_iff.1 hG2).1; simp; omega) (by have := hH1.lt; omega)]; exact hG3 _
      have hG5 : M3[M2.length]? = some (.cells [V.int .i64 (9 + k2), V.int .i64 0, V.str []] 42) := by rw [hK3.2 _ (by simp) (by have := hH2.lt; omega)]; exact heap_end _ _
      have b52a := build52c c.name
      have b52b := build52n 1 k3
      have hld := load3_ptr hG5
      have htk := takes_cmp (op := 9 + k2) (by omega) (by omega)
      have fin : ∃ (e : Ex) (L' : List AObj) (ts' : List Nat), (⟨M3, ts⟩ : S) = ⟨L', ts'⟩ ∧ Has L' b xv xs ∧ Kp L L' b ∧ GN ts.length ts' (.row [.int .i64 2, .int .i64 0, .str c.name, .int .i64 1, .int .i64 k3, .str [], .int .i64 (9 + k2), .int .i64 0, .str []] 3 .full) e.post ∧ Ext ts.length ts ts' ∧ WF cs e ∧ e.kind = 1 ∧ e.post.length ≤ bnd d :=
        ⟨.bin (9 + k2) (.col c.name) (.num k3), M3, ts, rfl, hH3, (hKL2.trans (Kp.app _ _)).trans hK3, GN.full _ _ [⟨2, 0, c.name⟩, ⟨1, k3, []⟩, ⟨9 + k2, 0, []⟩], .rfl' _ _, ⟨hsk, ⟨p7, by omega⟩, ⟨by omega, by omega, by omega, by omega⟩, by rw [htk]; rfl⟩, by show (takesN (9 + k2)).2 = 1; rw [htk], bnd_pos d⟩
      by_cases w1 : 0 < c.ws.length
      · have gw : ((c.ws.length : Int) > 0) = True := eq_true (by omega)
        by_cases w2 : IsFirst cs i
        · have gk : (k1 = 1) = True := eq_true (Classical.byContradiction fun h => hwd ⟨w1, w2, h⟩)
          rw [decide_eq_true w2] at hF
          rcases hleafG with g0 | ⟨g0, g3⟩
          · simp -implicitDefEqProofs only [Tryz.f12,Wa,Wb,Wc,Wd,We,Wf,Wg,Wh,Wi,Wj,Wk,Wl,Wm,Wn,Zo,Zp,evalT,Nat.reduceLT,Nat.reduceEqDiff,if_true,if_false,reduceIte,Ys,ofVal,ofCell,argT,resT,setT,Y0,Int.reduceEq,Int.reduceLT,Int.reduceLE,Int.reduceNeg,mb,Nat.reduceBEq,tys,stb,Va,storeList,Nat.reduceAdd,Nat.reduceLeDiff,-Ys,hT0,hix,ld4,isCell_int,isCell_str,hwc,hT1,heap_end,set_end,g0,hT2,e5,b52,hG3,hll,gw,hF,gk]
            refine G_stab rfl (fun s => s.heap[M1.length]? = some (.cells [V.str c.name, V.int .i64 c.lo, V.int .i64 c.hi, c.w] 46) ∧ s.heap[M2.length]? = some (.cells [V.int .i64 (9 + k2), V.int .i64 0, V.str []] 42)) ⟨hG3 _, heap_end _ _⟩ (by kernel_rfl) ?_
            simp -implicitDefEqProofs only [Wa,Wb,Wc,Wd,We,Wf,Wg,Wh,Wi,Wj,Wk,Wl,Wm,Wn,Zo,Zp,evalT,Nat.reduceLT,Nat.reduceEqDiff,if_true,if_false,reduceIte,Ys,ofVal,ofCell,argT,resT,setT,Y0,Int.reduceEq,Int.reduceLT,Int.reduceLE,Int.reduceNeg,mb,Nat.reduceBEq,tys,stb,Va,storeList,Nat.reduceAdd,Nat.reduceLeDiff,-Ys,isCell_int,isCell_str,hwc,heap_end,set_end,hG3,hll,hT3,load_hd,b52a,b52b,hld,opT_rowO,rowN3,sc_take,sc_load,sc_move,sc_indexAddr,sc_fieldAddr,rd_fieldAddr,sc_build',rd_build',rd_bs,sc_binOp,rd_binOp,sc_assign,rd_assign,sc_store,rd_store,rd_load,rd_move,rd_indexAddr,rd_call,aread_load]
            exact ⟨fun s h => by rw [h.1]; rfl, ⟨hG4, hG5⟩, fun s h => by rw [load3_ptr h.2]; rfl, fun _ => ⟨hG4, hG5⟩, fin⟩
          · simp -implicitDefEqProofs only [Tryz.f12,Wa,Wb,Wc,Wd,We,Wf,Wg,Wh,Wi,Wj,Wk,Wl,Wm,Wn,Zo,Zp,evalT,Nat.reduceLT,Nat.reduceEqDiff,if_true,if_false,reduceIte,Ys,ofVal,ofCell,argT,resT,setT,Y0,Int.reduceEq,Int.reduceLT,Int.reduceLE,Int.reduceNeg,mb,Nat.reduceBEq,tys,stb,Va,storeList,Nat.reduceAdd,Nat.reduceLeDiff,-Ys,hT0,hix,ld4,isCell_int,isCell_str,hwc,hT1,heap_end,set_end,g0,g3,hT2,e5,b52,hG3,hll,gw,hF,gk]
            refine G_stab rfl (fun s => s.heap[M1.length]? = some (.cells [V.str c.name, V.int .i64 c.lo, V.int .i64 c.hi, c.w] 46) ∧ s.heap[M2.length]? = some (.cells [V.int .i64 (9 + k2), V.int .i64 0, V.str []] 42)) ⟨hG3 _, heap_end _ _⟩ (by kernel_rfl) ?_
            simp -implicitDefEqProofs only [Wa,Wb,Wc,Wd,We,Wf,Wg,Wh,Wi,Wj,Wk,Wl,Wm,Wn,Zo,Zp,evalT,Nat.reduceLT,Nat.reduceEqDiff,if_true,if_false,reduceIte,Ys,ofVal,ofCell,argT,resT,setT,Y0,Int.reduceEq,Int.reduceLT,Int.reduceLE,Int.reduceNeg,mb,Nat.reduceBEq,tys,stb,Va,storeList,Nat.reduceAdd,Nat.reduceLeDiff,-Ys,isCell_int,isCell_str,hwc,heap_end,set_end,hG3,hll,hT3,load_hd,b52a,b52b,hld,opT_rowO,rowN3,sc_take,sc_load,sc_move,sc_indexAddr,sc_fieldAddr,rd_fieldAddr,sc_build',rd_build',rd_bs,sc_binOp,rd_binOp,sc_assign,rd_assign,sc_store,rd_store,rd_load,rd_move,rd_indexAddr,rd_call,aread_load]
            exact ⟨fun s h => by rw [h.1]; rfl, ⟨hG4, hG5⟩, fun s h => by rw [load3_ptr h.2]; rfl, fun _ => ⟨hG4, hG5⟩, fin⟩
        · rw [decide_eq_false w2] at hF
          rcases hleafG with g0 | ⟨g0, g3⟩
          · simp -implicitDefEqProofs only [Tryz.f12,Wa,Wb,Wc,Wd,We,Wf,Wg,Wh,Wi,Wj,Wk,Wl,Wm,Wn,Zo,Zp,evalT,Nat.reduceLT,Nat.reduceEqDiff,if_true,if_false,reduceIte,Ys,ofVal,ofCell,argT,resT,setT,Y0,Int.reduceEq,Int.reduceLT,Int.reduceLE,Int.reduceNeg,mb,Nat.reduceBEq,tys,stb,Va,storeList,Nat.reduceAdd,Nat.reduceLeDiff,-Ys,hT0,hix,ld4,isCell_int,isCell_str,hwc,hT1,heap_end,set_end,g0,hT2,e5,b52,hG3,hll,gw,hF]
            refine G_stab rfl (fun s => s.heap[M1.length]? = some (.cells [V.str c.name, V.int .i64 c.lo, V.int .i64 c.hi, c.w] 46) ∧ s.heap[M2.length]? = some (.cells [V.int .i64 (9 + k2), V.int .i64 0, V.str []] 42)) ⟨hG3 _, heap_end _ _⟩ (by kernel_rfl) ?_
            simp -implicitDefEqProofs only [Wa,Wb,Wc,Wd,We,Wf,Wg,Wh,Wi,Wj,Wk,Wl,Wm,Wn,Zo,Zp,evalT,Nat.reduceLT,Nat.reduceEqDiff,if_true,if_false,reduceIte,Ys,ofVal,ofCell,argT,resT,setT,Y0,Int.reduceEq,Int.reduceLT,Int.reduceLE,Int.reduceNeg,mb,Nat.reduceBEq,tys,stb,Va,storeList,Nat.reduceAdd,Nat.reduceLeDiff,-Ys,isCell_int,isCell_str,hwc,heap_end,set_end,hG3,hll,hT3,load_hd,b52a,b52b,hld,opT_rowO,rowN3,sc_take,sc_load,sc_move,sc_indexAddr,sc_fieldAddr,rd_fieldAddr,sc_build',rd_build',rd_bs,sc_binOp,rd_binOp,sc_assign,rd_assign,sc_store,rd_store,rd_load,rd_move,rd_indexAddr,rd_call,aread_load]
            exact ⟨fun s h => by rw [h.1]; rfl, ⟨hG4, hG5⟩, fun s h => by rw [load3_ptr h.2]; rfl, fun _ => ⟨hG4, hG5⟩, fin⟩
          · simp -implicitDefEqProofs only [Tryz.f12,Wa,Wb,Wc,Wd,We,Wf,Wg,Wh,Wi,Wj,Wk,Wl,Wm,Wn,Zo,Zp,evalT,Nat.reduceLT,Nat.reduceEqDiff,if_true,if_false,reduceIte,Ys,ofVal,ofCell,argT,resT,setT,Y0,Int.reduceEq,Int.reduceLT,Int.reduceLE,Int.reduceNeg,mb,Nat.reduceBEq,tys,stb,Va,storeList,Nat.reduceAdd,Nat.reduceLeDiff,-Ys,hT0,hix,ld4,isCell_int,isCell_str,hwc,hT1,heap_end,set_end,g0,g3,hT2,e5,b52,hG3,hll,gw,hF]
            refine G_stab rfl (fun s => s.heap[M1.length]? = some (.cells [V.str c.name, V.int .i64 c.lo, V.int .i64 c.hi, c.w] 46) ∧ s.heap[M2.length]? = some (.cells [V.int .i64 (9 + k2), V.int .i64 0, V.str []] 42)) ⟨hG3 _, heap_end _ _⟩ (by kernel_rfl) ?_
            simp -implicitDefEqProofs only [Wa,Wb,Wc,Wd,We,Wf,Wg,Wh,Wi,Wj,Wk,Wl,Wm,Wn,Zo,Zp,evalT,Nat.reduceLT,Nat.reduceEqDiff,if_true,if_false,reduceIte,Ys,ofVal,ofCell,argT,resT,setT,Y0,Int.reduceEq,Int.reduceLT,Int.reduceLE,Int.reduceNeg,mb,Nat.reduceBEq,tys,stb,Va,storeList,Nat.reduceAdd,Nat.reduceLeDiff,-Ys,isCell_int,isCell_str,hwc,heap_end,set_end,hG3,hll,hT3,load_hd,b52a,b52b,hld,opT_rowO,rowN3,sc_take,sc_load,sc_move,sc_indexAddr,sc_fieldAddr,rd_fieldAddr,sc_build',rd_build',rd_bs,sc_binOp,rd_binOp,sc_assign,rd_assign,sc_store,rd_store,rd_load,rd_move,rd_indexAddr,rd_call,aread_load]
            exact ⟨fun s h => by rw [h.1]; rfl, ⟨hG4, hG5⟩, fun s h => by rw [load3_ptr h.2]; rfl, fun _ => ⟨hG4, hG5⟩, fin⟩
      · have gw : ((c.ws.length : Int) > 0) = False := eq_false (by omega)
        rcases hleafG with g0 | ⟨g0, g3⟩
        · simp -implicitDefEqProofs only [Tryz.f12,Wa,Wb,Wc,Wd,We,Wf,Wg,Wh,Wi,Wj,Wk,Wl,Wm,Wn,Zo,Zp,evalT,Nat.reduceLT,Nat.reduceEqDiff,if_true,if_false,reduceIte,Ys,ofVal,ofCell,argT,resT,setT,Y0,Int.reduceEq,Int.reduceLT,Int.reduceLE,Int.reduceNeg,mb,Nat.reduceBEq,tys,stb,Va,storeList,Nat.reduceAdd,Nat.reduceLeDiff,-Ys,hT0,hix,ld4,isCell_int,isCell_str,hwc,hT1,heap_end,set_end,g0,hT2,e5,b52,hG3,hll,gw]
          refine G_stab rfl (fun s => s.heap[M1.length]? = some (.cells [V.str c.name, V.int .i64 c.lo, V.int .i64 c.hi, c.w] 46) ∧ s.heap[M2.length]? = some (.cells [V.int .i64 (9 + k2), V.int .i64 0, V.str []] 42)) ⟨hG3 _, heap_end _ _⟩ (by kernel_rfl) ?_
          simp -implicitDefEqProofs only [Wa,Wb,Wc,Wd,We,Wf,Wg,Wh,Wi,Wj,Wk,Wl,Wm,Wn,Zo,Zp,evalT,Nat.reduceLT,Nat.reduceEqDiff,if_true,if_false,reduceIte,Ys,ofVal,ofCell,argT,resT,setT,Y0,Int.reduceEq,Int.reduceLT,Int.reduceLE,Int.reduceNeg,mb,Nat.reduceBEq,tys,stb,Va,storeList,Nat.reduceAdd,Nat.reduceLeDiff,-Ys,isCell_int,isCell_str,hwc,heap_end,set_end,hG3,hll,hT3,load_hd,b52a,b52b,hld,opT_rowO,rowN3,sc_take,sc_load,sc_move,sc_indexAddr,sc_fieldAddr,rd_fieldAddr,sc_build',rd_build',rd_bs,sc_binOp,rd_binOp,sc_assign,rd_assign,sc_store,rd_store,rd_load,rd_move,rd_indexAddr,rd_call,aread_load]
          exact ⟨fun s h => by rw [h.1]; rfl, ⟨hG4, hG5⟩, fun s h => by rw [load3_ptr h.2]; rfl, fun _ => ⟨hG4, hG5⟩, fin⟩
        · simp -implicitDefEqProofs only [Tryz.f12,Wa,Wb,Wc,Wd,We,Wf,Wg,Wh,Wi,Wj,Wk,Wl,Wm,Wn,Zo,Zp,evalT,Nat.reduceLT,Nat.reduceEqDiff,if_true,if_false,reduceIte,Ys,ofVal,ofCell,argT,resT,setT,Y0,Int.reduceEq,Int.reduceLT,Int.reduceLE,Int.reduceNeg,mb,Nat.reduceBEq,tys,stb,Va,storeList,Nat.reduceAdd,Nat.reduceLeDiff,-Ys,hT0,hix,ld4,isCell_int,isCell_str,hwc,hT1,heap_end,set_end,g0,g3,hT2,e5,b52,hG3,hll,gw]
          refine G_stab rfl (fun s => s.heap[M1.length]? = some (.cells [V.str c.name, V.int .i64 c.lo, V.int .i64 c.hi, c.w] 46) ∧ s.heap[M2.length]? = some (.cells [V.int .i64 (9 + k2), V.int .i64 0, V.str []] 42)) ⟨hG3 _, heap_end _ _⟩ (by kernel_rfl) ?_
          simp -implicitDefEqProofs only [Wa,Wb,Wc,Wd,We,Wf,Wg,Wh,Wi,Wj,Wk,Wl,Wm,Wn,Zo,Zp,evalT,Nat.reduceLT,Nat.reduceEqDiff,if_true,if_false,reduceIte,Ys,ofVal,ofCell,argT,resT,setT,Y0,Int.reduceEq,Int.reduceLT,Int.reduceLE,Int.reduceNeg,mb,Nat.reduceBEq,tys,stb,Va,storeList,Nat.reduceAdd,Nat.reduceLeDiff,-Ys,isCell_int,isCell_str,hwc,heap_end,set_end,hG3,hll,hT3,load_hd,b52a,b52b,hld,opT_rowO,rowN3,sc_take,sc_load,sc_move,sc_indexAddr,sc_fieldAddr,rd_fieldAddr,sc_build',rd_build',rd_bs,sc_binOp,rd_binOp,sc_assign,rd_assign,sc_store,rd_store,rd_load,rd_move,rd_indexAddr,rd_call,aread_load]
          exact ⟨fun s h => by rw [h.1]; rfl, ⟨hG4, hG5⟩, fun s h => by rw [load3_ptr h.2]; rfl, fun _ => ⟨hG4, hG5⟩, fin⟩
  -- deeper
  have hd0 : d ≠ 0 := fun h => hleaf (.inl h)
  obtain ⟨d', rfl⟩ : ∃ d', d = d' + 1 := ⟨d - 1, by omega⟩
  have g0 : (((d' + 1 : Nat) : Int) < 1) = False := eq_false (by omega)
  have g3 : (k1 < 3) = False := eq_false (fun h => hleaf (.inr h))
  have ed : IntKind.i64.wrap (((d' + 1 : Nat) : Int) - 1) = (d' : Int) := by rw [wrap_i64 (by omega) (by omega)]; omega
  have dO := ihO d' rfl
  have dC := ihC d' rfl
  have hbd := bnd_le (show d' ≤ 2 by omega)
  have hbs : bnd (d' + 1) = 3 * bnd d' + 1 := rfl
  obtain ⟨k2, M2, hT2, hH2, hK2, hl2, p5, p6, _⟩ := take_at K hH1 4 (by simp [In64])
  have hp6 := p6 (by decide)
  have hKL2 : Kp L M2 b := hKL1.trans hK2
  by_cases c01 : k2 = 0 ∨ k2 = 1
  · obtain ⟨v1, L1, ts1, v2, L2, ts2, v3, ts3, e1, e2, r1, r2, r3, a1, a2, a3, a4, a5, a6, a7, a8, a9, a10, a11⟩ := draw2 dC dC (by omega) ts hH2
    have e5 : IntKind.i64.wrap (15 + k2) = 15 + k2 := wrap_i64 (by omega) (by omega)
    have b52 := build52o (15 + k2)
    obtain ⟨v4, ts4, r4, a12, a13⟩ := GN.push (hp := L2) a3 a5 (opN (15 + k2)) .full (by rw [List.length_append]; omega)
    simp only at r4
    have ho : 15 + k2 = 15 ∨ 15 + k2 = 16 := by omega
    have fin : ∃ (e : Ex) (L' : List AObj) (ts' : List Nat), (⟨L2, ts4⟩ : S) = ⟨L', ts'⟩ ∧ Has L' b xv xs ∧ Kp L L' b ∧ GN ts.length ts' v4 e.post ∧ Ext ts.length ts ts' ∧ WF cs e ∧ e.kind = 1 ∧ e.post.length ≤ bnd (d' + 1) :=
      ⟨.bin (15 + k2) e1 e2, L2, ts4, rfl, a1, hKL2.trans a2, by simp only [Ex.post]; rw [← List.append_assoc]; exact a12, a4.trans a13, ⟨a6, a7, ⟨by omega, by omega, by omega, by omega⟩, by rw [a8, a9]; rcases ho with h | h <;> rw [h] <;> rfl⟩, by show (takesN (15 + k2)).2 = 1; rcases ho with h | h <;> rw [h] <;> rfl, by simp only [Ex.post, List.length_append, List.length_cons, List.length_nil]; omega⟩
    rcases c01 with rfl | rfl
    all_goals
      simp -implicitDefEqProofs only [Tryz.f12,Wa,Wb,Wc,Wd,We,Wf,Wg,Wh,Wi,Wj,Wk,Wl,Wm,Wn,Zo,Zp,evalT,Nat.reduceLT,Nat.reduceEqDiff,if_true,if_false,reduceIte,Ys,ofVal,ofCell,argT,resT,setT,Y0,Int.reduceEq,Int.reduceLT,Int.reduceLE,Int.reduceNeg,mb,Nat.reduceBEq,tys,stb,Va,storeList,Nat.reduceAdd,Nat.reduceLeDiff,-Ys,hT0,isCell_int,isCell_str,hT1,heap_end,set_end,g0,g3,hT2,ed,r1,r2,r3,e5,b52,opT_rowO,rowN1,r4]
      exact fin
  have n0 : (k2 = 0) = False := eq_false (by omega)
  have n1 : (k2 = 1) = False := eq_false (by omega)
  by_cases c2 : k2 = 2
  · have n2 : (k2 = 2) = True := eq_true c2
    obtain ⟨v1, _, r1, e1, L1, ts1, rfl, a1, a2, a3, a4, a6, a8, a10⟩ := dC M2 b ts hH2
    have b52 := build52o 17
    obtain ⟨v4, ts4, r4, a12, a13⟩ := GN.push (hp := L1) a3 a4.1 (opN 17) .full (by omega)
    simp only at r4
    simp -implicitDefEqProofs only [Tryz.f12,Wa,Wb,Wc,Wd,We,Wf,Wg,Wh,Wi,Wj,Wk,Wl,Wm,Wn,Zo,Zp,evalT,Nat.reduceLT,Nat.reduceEqDiff,if_true,if_false,reduceIte,Ys,ofVal,ofCell,argT,resT,setT,Y0,Int.reduceEq,Int.reduceLT,Int.reduceLE,Int.reduceNeg,mb,Nat.reduceBEq,tys,stb,Va,storeList,Nat.reduceAdd,Nat.reduceLeDiff,-Ys,hT0,isCell_int,isCell_str,hT1,heap_end,set_end,g0,g3,n0,n1,n2,hT2,ed,r1,b52,opT_rowO,rowN1,r4]
    exact ⟨.una 17 e1, L1, ts4, rfl, a1, hKL2.trans a2, a12, a4.trans a13, ⟨a6, .inr rfl, by rw [a8]; rfl⟩, rfl, by simp only [Ex.post, List.length_append, List.length_cons, List.length_nil]; omega⟩
  have n2 : (k2 = 2) = False := eq_false c2
  obtain ⟨v1, L1, ts1, v2, L2, ts2, v3, ts3, e1, e2, r1, r2, r3, a1, a2, a3, a4, a5, a6, a7, a8, a9, a10, a11⟩ := draw2 dO dO (by omega) ts hH2
  obtain ⟨k5, L3, hT5, hH5, hK5, hl5, p7, p8, _⟩ := take_at K a1 6 (by simp [In64])
  have hp8 := p8 (by decide)
  have e5 : IntKind.i64.wrap (9 + k5) = 9 + k5 := wrap_i64 (by omega) (by omega)
  have b52 := build52o (9 + k5)
  have htk := takes_cmp (op := 9 + k5) (by omega) (by omega)
  obtain ⟨w3, ts6, s3, b10, b11⟩ := GN.push (hp := L3) a3 a5 (opN (9 + k5)) .full (by rw [List.length_append]; omega)
  simp only at s3
  simp -implicitDefEqProofs only [Tryz.f12,Wa,Wb,Wc,Wd,We,Wf,Wg,Wh,Wi,Wj,Wk,Wl,Wm,Wn,Zo,Zp,evalT,Nat.reduceLT,Nat.reduceEqDiff,if_true,if_false,reduceIte,Ys,ofVal,ofCell,argT,resT,setT,Y0,Int.reduceEq,Int.reduceLT,Int.reduceLE,Int.reduceNeg,mb,Nat.reduceBEq,tys,stb,Va,storeList,Nat.reduceAdd,Nat.reduceLeDiff,-Ys,hT0,isCell_int,isCell_str,hT1,heap_end,set_end,g0,g3,n0,n1,n2,hT2,ed,r1,r2,r3,hT5,e5,b52,opT_rowO,rowN1,s3]
  exact ⟨.bin (9 + k5) e1 e2, L3, ts6, rfl, hH5, (hKL2.trans a2).trans hK5, by simp only [Ex.post]; rw [← List.append_assoc]; exact b10, a4.trans b11, ⟨a6, a7, ⟨by omega, by omega, by omega, by omega⟩, by rw [htk, a8, a9]⟩, by show (takesN (9 + k5)).2 = 1; rw [htk], by simp only [Ex.post, List.length_append, List.length_cons, List.length_nil]; omega⟩
theorem draws (d : Nat) (hd : d ≤ 3) : Draws 29 0 xv xs cs q d ∧ Draws 12 1 xv xs cs q d := by
  induction d with
  | zero => exact ⟨operand_step K q ok h1 h2 hws 0 hd (fun d' h => by omega) (fun d' h => by omega), condition_step K q ok h1 h2 hws 0 hd (fun d' h => by omega) (fun d' h => by omega)⟩
  | succ d ih =>
    obtain ⟨i1, i2⟩ := ih (by omega)
    have j1 : ∀ d', d + 1 = d' + 1 → Draws 29 0 xv xs cs q d' := fun d' h => by
      obtain rfl : d' = d := by omega
      exact i1
    have j2 : ∀ d', d + 1 = d' + 1 → Draws 12 1 xv xs cs q d' := fun d' h => by
      obtain rfl : d' = d := by omega
      exact i2
    exact ⟨operand_step K q ok h1 h2 hws (d + 1) hd j1 j2, condition_step K q ok h1 h2 hws (d + 1) hd j1 j2⟩
theorem operand_call : Draws 11 0 xv xs cs q 3 := by
  intro L b ts hH
  obtain ⟨v, _, hc, e, L', ts', rfl, r⟩ := (draws K q ok h1 h2 hws 3 (Nat.le_refl _)).1 L b ts hH
  refine callFn_any rfl rfl at11 rfl (by simp [Tryz.f11]) (by simp [Tryz.f11]) (G_start ?_)
  have hc : callFn env (ev env) 29 [V.ptr b 0, V.row (flatC cs) cs.length q, V.int IntKind.i64 3] ⟨L, ts⟩ = some (v, ⟨L', ts'⟩) := hc
  simp -implicitDefEqProofs only [Tryz.f11,Wa,Wb,Wc,Wd,We,Wf,Wg,Wh,Wi,Wj,Wk,Wl,Wm,Wn,Zo,Zp,evalT,Nat.reduceLT,Nat.reduceEqDiff,if_true,if_false,reduceIte,Ys,ofVal,ofCell,argT,resT,setT,Y0,Int.reduceEq,Int.reduceLT,Int.reduceLE,Int.reduceNeg,mb,Nat.reduceBEq,tys,stb,Va,storeList,Nat.reduceAdd,Nat.reduceLeDiff,hc]
  exact ⟨e, L', ts', rfl, r⟩
theorem condition_call : Draws 12 1 xv xs cs q 3 := (draws K q ok h1 h2 hws 3 (Nat.le_refl _)).2
end
end Go.Proofs.YtcjapamldllleaaGreatDoor.N
namespace Go.Proofs.YtcjapamldllleaaGreatDoor.N
open Go.Ab
set_option maxHeartbeats 4000000
set_option maxHeartbeats 4000000
set_option maxRecDepth 100000
set_option linter.unusedSimpArgs false
set_option linter.unusedVariables false
set_option linter.unusedSectionVars false
theorem at28 : env.P.funcs[28]? = some Tryz.f28 := by kernel_rfl
theorem at10 : env.P.funcs[10]? = some Tryz.f10 := by kernel_rfl
theorem tysc : env.P.underlying 32 = some (.slice 26) ∧ sz env 26 = some 4 ∧ fldOff env 26 0 = some 0 ∧ fldOff env 26 1 = some 1 ∧ fldOff env 26 2 = some 2 ∧ fldOff env 26 3 = some 3 ∧ (∀ h p, aload env h 26 p = (loadCellsV h 4 p).map .agg) ∧ zeroV env 26 = some (.agg [.str [], .bool false, .int .i64 0, .nilsl]) := by
  have g36 : aggT env 26 = some true := by kernel_rfl
  have s36 : sz env 26 = some 4 := by kernel_rfl
  exact ⟨by kernel_rfl, s36, by kernel_rfl, by kernel_rfl, by kernel_rfl, by kernel_rfl, fun h p => by unfold aload; rw [g36, s36]; rfl, by kernel_rfl⟩
theorem eS : Elt env 32 26 4 56 := ⟨by kernel_rfl, by kernel_rfl, by kernel_rfl, by kernel_rfl, by kernel_rfl⟩
theorem rowS1 (a b c d : V) : rowO env 32 1 [(0, .agg [a, b, c, d])] = some (.row [a, b, c, d] 1 .full) := by kernel_rfl
theorem build36 (s : List UInt8) (n : Int) : buildO env 26 [(0, .str s), (2, .int .i64 n)] = some (.agg [.str s, .bool false, .int .i64 n, .nilsl]) := by kernel_rfl
theorem idx_ages {j : Nat} (h : j < 5) : ∃ r, vIndexAddr 1 (rowW ages) (.int .i64 j) = some (.rptr (.str (ages.getD j []) :: r)) := by
  match j, h with
  | 0, _ => exact ⟨_, rfl⟩
  | 1, _ => exact ⟨_, rfl⟩
  | 2, _ => exact ⟨_, rfl⟩
  | 3, _ => exact ⟨_, rfl⟩
  | 4, _ => exact ⟨_, rfl⟩
theorem cells_bool (b : Bool) : (V.bool b).cells = [.bool b] := rfl
theorem ia_build (t : TypeId) (ps : Array (Nat × Operand)) : isAlloc (.build t ps) = false := rfl
theorem ia_fcall (f : FuncId) (ag : Array Operand) (ts : Array TypeId) : isAlloc (.call ⟨.value (.func f), ag, ts⟩) = false := rfl
theorem idx_tabs {j : Nat} (h : j < 3) : ∃ r, vIndexAddr 1 (rowW tabs) (.int .i64 j) = some (.rptr (.str (tabs.getD j []) :: r)) := by
  match j, h with
  | 0, _ => exact ⟨_, rfl⟩
  | 1, _ => exact ⟨_, rfl⟩
  | 2, _ => exact ⟨_, rfl⟩
theorem KitC.is {nm : List UInt8} {c : Col} (h : KitC nm c) : IsW c.w c.ws ∧ c.ws.length ≤ 5 := by
  rcases h.2 with ⟨h1, h2, _⟩ | ⟨k, h1, h2, h3, h4, _⟩
  · exact ⟨.inl ⟨h1, h2⟩, by rw [h2]; simp⟩
  · refine ⟨by rw [h3, h4]; exact rowW_is _, by rw [h3]; simp; omega⟩
def AllC (cs : List Col) : Prop := ∀ j, j < cs.length → KitC (ages.getD j []) (cs.getD j Col.none)
theorem AllC.add {cs : List Col} (h : AllC cs) {c : Col} (hc : KitC (ages.getD cs.length []) c) : AllC (cs ++ [c]) := fun j hj => by
  rw [List.length_append, List.length_singleton] at hj
  by_cases e : j < cs.length
  · have : (cs ++ [c]).getD j Col.none = cs.getD j Col.none := by simp only [List.getD]; rw [List.getElem?_append_left e]
    rw [this]; exact h j e
  · have : j = cs.length := by omega
    subst this
    have : (cs ++ [c]).getD cs.length Col.none = c := by simp [List.getD]
    rw [this]; exact hc
def Kit (c : Col) : Prop := (∃ j, j < 5 ∧ c.name = ages.getD j []) ∧ IsW c.w c.ws ∧ ((c.ws = [] ∧ -3 ≤ c.lo ∧ c.lo ≤ c.hi ∧ c.hi ≤ 20) ∨ ∃ k, 1 ≤ k ∧ k ≤ 5 ∧ c.ws = reds.take k ∧ c.lo = 0 ∧ c.hi = (k : Int) - 1)
theorem KitC.copy {j : Nat} (hj : j < 5) {c : Col} (h : KitC (ages.getD j []) c) : Kit ⟨c.name, c.lo, c.hi, rowW c.ws, c.ws⟩ := by
  refine ⟨⟨j, hj, h.1⟩, rowW_is _, ?_⟩
  rcases h.2 with ⟨_, h2, h3⟩ | ⟨k, h1, h2, h3, _, h5⟩
  · exact .inl ⟨h2, h3⟩
  · exact .inr ⟨k, h1, h2, h3, h5⟩
def Kits (ds : List Col) : Prop := ∀ c ∈ ds, Kit c
theorem Kits.add {ds : List Col} (h : Kits ds) {c : Col} (hc : Kit c) : Kits (ds ++ [c]) := fun d hd => by
  rcases List.mem_append.1 hd with hd | hd
  · exact h d hd
  · rw [List.mem_singleton.1 hd]; exact hc
def LastS (cells : List V) (n : Nat) (ds : List Col) : Prop := ∃ a b c q, cells.drop ((n - 1) * 4) = [a, b, c, .row (flatC ds) ds.length q]
theorem row_of_GC {base : Nat} {ts : List Nat} {v : V} {ds : List Col} (g : GC base ts v ds) (h : ds ≠ []) : ∃ q, v = .row (flatC ds) ds.length q := g.isrow (by cases ds with | nil => exact absurd rfl h | cons x r => simp)
def Kp2 (L L' : List AObj) (b P : Nat) : Prop := L.length ≤ L'.length ∧ ∀ q, q < L.length → q ≠ b → q ≠ P → L'[q]? = L[q]?
section
variable {xv : V} {xs : List Int} (K : Tk xv xs)
include K
theorem inner_loop {Q : Post} {ks : List Kt} {T : Tm} {H : List AObj} {ts : List Nat} {b P : Nat} (hPb : P ≠ b) {cs : List Col} {q : RCap} (hA : AllC cs) (hl : cs.length = 5) {s : List UInt8} {pb : Bool} {nn f : Int} (hf0 : 0 ≤ f) (hf : f < 5)
    (t0 : T 0 = .ptr b 0) (t3 : T 3 = .row (flatC cs) cs.length q) (t8 : T 8 = .ptr P 0) (t9 : T 9 = .int .i64 f) (t10 : T 10 = .int .i64 0) (hH : Has H b xv xs) (hP : H[P]? = some (.cells [.str s, .bool pb, .int .i64 nn, .nilsl] 26))
    (h : ∀ (T' : Tm) (H' : List AObj) (ts' : List Nat) (ds : List Col) (qd : RCap), T' 0 = T 0 → T' 3 = T 3 → T' 5 = T 5 → T' 6 = T 6 → T' 7 = T 7 → T' 8 = T 8 → Has H' b xv xs → Kp2 H H' b P → H'[P]? = some (.cells [.str s, .bool pb, .int .i64 nn, .row (flatC ds) ds.length qd] 26) → Kits ds → 1 ≤ ds.length → ds.length ≤ 5 → Ext ts.length ts ts' → G env 28 none 78 Q ks .skip T' [] ⟨H', ts'⟩) :
    wpLoop env 28 none 78 (loopB 4 (bodyOf Tryz.f28)) T [] ⟨H, ts⟩ (Kt.post env 28 none 78 Q (.blk 4 :: ks)) := by
  simp only [bodyOf, Tryz.f28, Option.getD_some, loopB, blkC, Option.or, Nat.reduceEqDiff, if_false, if_true, reduceIte]
  refine loop_rule (fun m T2 D σ => D = [] ∧ T2 0 = T 0 ∧ T2 3 = T 3 ∧ T2 5 = T 5 ∧ T2 6 = T 6 ∧ T2 7 = T 7 ∧ T2 8 = T 8 ∧ T2 9 = T 9 ∧ ∃ (M : List AObj) (ts' : List Nat) (k : Nat) (ds : List Col) (dv : V), σ = ⟨M, ts'⟩ ∧ T2 10 = .int .i64 k ∧ Has M b xv xs ∧ Kp2 H M b P ∧ M[P]? = some (.cells [.str s, .bool pb, .int .i64 nn, dv] 26) ∧ GC ts.length ts' dv ds ∧ Ext ts.length ts ts' ∧ Kits ds ∧ k ≤ 5 ∧ ds.length ≤ k ∧ (f < k → ds ≠ []) ∧ m = 5 - k) ?_ (5 - 0) _ _ _
    ⟨rfl, rfl, rfl, rfl, rfl, rfl, rfl, rfl, H, ts, 0, [], .nilsl, rfl, t10, hH, ⟨Nat.le_refl _, fun _ _ _ _ => rfl⟩, hP, .nil, .rfl' _ _, fun c hc => by simp at hc, by omega, by simp, fun hh => by omega, rfl⟩
  rintro m T2 D σ ⟨rfl, u0, u3, u5, u6, u7, u8, u9, M, ts', k, ds, dv, rfl, u10, hM, hKM, hMP, hg, hE, hKd, hk5, hdk, hfd, rfl⟩
  have v0 := u0.trans t0
  have v3 := u3.trans t3
  have v8 := u8.trans t8
  have v9 := u9.trans t9
  refine G_start ?_
  by_cases hlt : k < 5
  · have c1 : (k : Int) < 5 := by omega
    have e1 : IntKind.i64.wrap ((k : Int) + 1) = ((k + 1 : Nat) : Int) := by rw [wrap_i64 (by omega) (by omega)]; omega
    -- a column is added
    have add : ∀ (M1 : List AObj), Has M1 b xv xs → Kp2 H M1 b P → M1[P]? = some (.cells [.str s, .bool pb, .int .i64 nn, dv] 26) → ∃ (cv : Col) (dv' : V) (ts2 : List Nat) (r : List V), vIndexAddr 4 (.row (flatC cs) cs.length q) (.int .i64 k) = some (.rptr (.str (cs.getD k Col.none).name :: .int .i64 (cs.getD k Col.none).lo :: .int .i64 (cs.getD k Col.none).hi :: (cs.getD k Col.none).w :: r)) ∧
        (∀ σ, callFn env (ev env) 41 [.agg [.str (cs.getD k Col.none).name, .int .i64 (cs.getD k Col.none).lo, .int .i64 (cs.getD k Col.none).hi, (cs.getD k Col.none).w]] σ = some (.agg [.str cv.name, .int .i64 cv.lo, .int .i64 cv.hi, cv.w], σ)) ∧
        appO env false ⟨M1, ts'⟩ 23 23 dv (.row [.str cv.name, .int .i64 cv.lo, .int .i64 cv.hi, cv.w] 1 .full) = some (dv', ⟨M1, ts2⟩) ∧ dv'.cells = [dv'] ∧ dv'.isCell = true ∧ Has (M1.set P (.cells [.str s, .bool pb, .int .i64 nn, dv'] 26)) b xv xs ∧ Kp2 H (M1.set P (.cells [.str s, .bool pb, .int .i64 nn, dv'] 26)) b P ∧
        (M1.set P (.cells [.str s, .bool pb, .int .i64 nn, dv'] 26))[P]? = some (.cells [.str s, .bool pb, .int .i64 nn, dv'] 26) ∧ GC ts.length ts2 dv' (ds ++ [cv]) ∧ Ext ts.length ts ts2 ∧ Kits (ds ++ [cv]) ∧ (ds ++ [cv]).length ≤ k + 1 ∧ ds ++ [cv] ≠ [] := by
      intro M1 h1 h2 h3
      have hkc := hA k (by omega)
      obtain ⟨r, hix⟩ := idx_C' cs q (show k < cs.length by omega)
      have hw := hkc.is
      have hcp := copy_call (cs.getD k Col.none) hw.1 (by omega)
      obtain ⟨dv', ts2, a1, a2, a3⟩ := GC.push (hp := M1) hg hE.1 ⟨(cs.getD k Col.none).name, (cs.getD k Col.none).lo, (cs.getD k Col.none).hi, rowW (cs.getD k Col.none).ws, (cs.getD k Col.none).ws⟩ rfl .full (by omega)
      obtain ⟨z1, z2⟩ := a2.cells
      refine ⟨⟨(cs.getD k Col.none).name, (cs.getD k Col.none).lo, (cs.getD k Col.none).hi, rowW (cs.getD k Col.none).ws, (cs.getD k Col.none).ws⟩, dv', ts2, r, hix, hcp, a1, z1, z2, ?_, ⟨by have := h2.1; simp; omega, fun x hx hxb hxP => by rw [List.getElem?_set_ne (Ne.symm hxP)]; exact h2.2 x hx hxb hxP⟩, List.getElem?_set_self (List.getElem?_eq_some_iff.1 h3).1, a2, hE.trans a3, hKd.add (hkc.copy (by omega)), by simp; omega, by simp⟩
      obtain ⟨a, b1, b2⟩ := h1
      exact ⟨a, b1, by rw [List.getElem?_set_ne hPb]; exact b2⟩
    have nxt : ∀ (M' : List AObj) (ts2 : List Nat) (ds' : List Col) (dv' : V), Has M' b xv xs → Kp2 H M' b P → M'[P]? = some (.cells [.str s, .bool pb, .int .i64 nn, dv'] 26) → GC ts.length ts2 dv' ds' → Ext ts.length ts ts2 → Kits ds' → ds'.length ≤ k + 1 → (f < ((k + 1 : Nat) : Int) → ds' ≠ []) →
        ∃ m', m' < 5 - k ∧ ∃ (M : List AObj) (ts' : List Nat) (k2 : Nat) (ds : List Col) (dv : V), (⟨M', ts2⟩ : S) = ⟨M, ts'⟩ ∧ V.int .i64 ((k + 1 : Nat) : Int) = .int .i64 k2 ∧ Has M b xv xs ∧ Kp2 H M b P ∧ M[P]? = some (.cells [.str s, .bool pb, .int .i64 nn, dv] 26) ∧ GC ts.length ts' dv ds ∧ Ext ts.length ts ts' ∧ Kits ds ∧ k2 ≤ 5 ∧ ds.length ≤ k2 ∧ (f < k2 → ds ≠ []) ∧ m' = 5 - k2 :=
      fun M' ts2 ds' dv' h1 h2 h3 h4 h5 h6 h7 h8 => ⟨5 - (k + 1), by omega, M', ts2, k + 1, ds', dv', rfl, rfl, h1, h2, h3, h4, h5, h6, by omega, h7, h8, rfl⟩
    have ld4 := load4_rptr
    by_cases hkf : (k : Int) = f
    · have g1 : ((k : Int) = f) = True := eq_true hkf
      obtain ⟨cv, dv', ts2, r, x1, x2, x3, x4, x5, x6, x7, x8, x9, x10, x11, x12, x13⟩ := add M hM hKM hMP
      simp -implicitDefEqProofs only [Wa,Wb,Wc,Wd,We,Wf,Wg,Wh,Wi,Wj,Wk,Wl,Wm,Wn,Zo,Zp,evalT,Nat.reduceLT,Nat.reduceEqDiff,if_true,if_false,reduceIte,Ys,ofVal,ofCell,argT,resT,setT,Y0,Int.reduceEq,Int.reduceLT,Int.reduceLE,Int.reduceNeg,mb,Nat.reduceBEq,tys,stb,Va,storeList,Nat.reduceAdd,Nat.reduceLeDiff,tysc,t0,t3,t8,t9,u5,u6,u7,v0,v3,v8,v9,u10,-Ys,c1,e1,g1,hMP,x1,ld4,x2,opT_rowO,rowC1,x3,x4,x5]
      exact ⟨by kernel_rfl, nxt _ _ _ _ x6 x7 x8 x9 x10 x11 x12 (fun _ => x13)⟩
    · have g1 : ((k : Int) = f) = False := eq_false hkf
      obtain ⟨k1, M1, hT1, hH1, hK1, hl1, p1, p2, _⟩ := take_at K hM 2 (by simp [In64])
      have hPl := (List.getElem?_eq_some_iff.1 hMP).1
      have hMP1 : M1[P]? = some (.cells [.str s, .bool pb, .int .i64 nn, dv] 26) := by rw [hK1.2 P hPl hPb]; exact hMP
      have hKM1 : Kp2 H M1 b P := ⟨Nat.le_trans hKM.1 hK1.1, fun x hx hxb hxP => by rw [hK1.2 x (by have := hKM.1; omega) hxb]; exact hKM.2 x hx hxb hxP⟩
      by_cases hk1 : k1 = 1
      · have g2 : (k1 = 1) = True := eq_true hk1
        obtain ⟨cv, dv', ts2, r, x1, x2, x3, x4, x5, x6, x7, x8, x9, x10, x11, x12, x13⟩ := add M1 hH1 hKM1 hMP1
        simp -implicitDefEqProofs only [Wa,Wb,Wc,Wd,We,Wf,Wg,Wh,Wi,Wj,Wk,Wl,Wm,Wn,Zo,Zp,evalT,Nat.reduceLT,Nat.reduceEqDiff,if_true,if_false,reduceIte,Ys,ofVal,ofCell,argT,resT,setT,Y0,Int.reduceEq,Int.reduceLT,Int.reduceLE,Int.reduceNeg,mb,Nat.reduceBEq,tys,stb,Va,storeList,Nat.reduceAdd,Nat.reduceLeDiff,tysc,t0,t3,t8,t9,u5,u6,u7,v0,v3,v8,v9,u10,-Ys,c1,e1,g1,hT1,g2,hMP1,x1,ld4,x2,opT_rowO,rowC1,x3,x4,x5]
        exact ⟨by kernel_rfl, nxt _ _ _ _ x6 x7 x8 x9 x10 x11 x12 (fun _ => x13)⟩
      · have g2 : (k1 = 1) = False := eq_false hk1
        simp -implicitDefEqProofs only [Wa,Wb,Wc,Wd,We,Wf,Wg,Wh,Wi,Wj,Wk,Wl,Wm,Wn,Zo,Zp,evalT,Nat.reduceLT,Nat.reduceEqDiff,if_true,if_false,reduceIte,Ys,ofVal,ofCell,argT,resT,setT,Y0,Int.reduceEq,Int.reduceLT,Int.reduceLE,Int.reduceNeg,mb,Nat.reduceBEq,tys,stb,Va,storeList,Nat.reduceAdd,Nat.reduceLeDiff,tysc,t0,t3,t8,t9,u5,u6,u7,v0,v3,v8,v9,u10,-Ys,c1,e1,g1,hT1,g2]
        exact nxt _ _ _ _ hH1 hKM1 hMP1 hg hE hKd (by omega) (fun hh => hfd (by omega))
  · have hk : k = 5 := by omega
    subst hk
    have c1 : ¬ ((5 : Nat) : Int) < 5 := by omega
    obtain ⟨qd, rfl⟩ := row_of_GC hg (hfd (by omega))
    have hne := hfd (by omega)
    simp -implicitDefEqProofs only [Wa,Wb,Wc,Wd,We,Wf,Wg,Wh,Wi,Wj,Wk,Wl,Wm,Wn,Zo,Zp,evalT,Nat.reduceLT,Nat.reduceEqDiff,if_true,if_false,reduceIte,Ys,ofVal,ofCell,argT,resT,setT,Y0,Int.reduceEq,Int.reduceLT,Int.reduceLE,Int.reduceNeg,mb,Nat.reduceBEq,tys,stb,Va,storeList,Nat.reduceAdd,Nat.reduceLeDiff,v0,v3,v8,v9,u10,c1]
    refine h _ M ts' ds qd ?_ ?_ ?_ ?_ ?_ ?_ hM hKM hMP hKd ?_ hdk hE
    all_goals first
      | assumption
      | (cases ds with
         | nil => exact absurd rfl hne
         | cons x r => simp)
end
section
variable {xv : V} {xs : List Int} (K : Tk xv xs)
include K
theorem region11 {Q : Post} {ks : List Kt} {T : Tm} {M : List AObj} {ts : List Nat} {b i : Nat} (hi : i < 3) (t0 : T 0 = .ptr b 0) (t7 : T 7 = .int .i64 i) (hM : Has M b xv xs)
    (h : ∀ (T' : Tm) (M1 : List AObj) (k2 : Int), T' 0 = T 0 → T' 3 = T 3 → T' 5 = T 5 → T' 6 = T 6 → T' 7 = T 7 → T' 8 = .ptr M.length 0 → Has M1 b xv xs → Kp M M1 b → M1.length = M.length → G env 28 none 78 Q ks .skip T' [] ⟨M1 ++ [.cells [.str (tabs.getD i []), .bool false, .int .i64 (1 + k2), .nilsl] 26], ts⟩) :
    G env 28 none 78 Q ks (regB 11 (bodyOf Tryz.f28)) T [] ⟨M, ts⟩ := by
  simp only [bodyOf, Tryz.f28, Option.getD_some, regB, Option.or, Nat.reduceEqDiff, if_false, if_true, reduceIte]
  have hN0 := names0_call
  obtain ⟨rt, hit⟩ := idx_tabs hi
  obtain ⟨k2, M1, hT2, hH1, hK1, hl1, p3, p4, _⟩ := take_ext K hM 4 (by simp [In64])
  have hp4 := p4 (by decide)
  have e3 : IntKind.i64.wrap (1 + k2) = 1 + k2 := wrap_i64 (by omega) (by omega)
  have b36 := build36 (tabs.getD i []) (1 + k2)
  have hE1 : ∀ o : AObj, (M1 ++ [o])[M.length]? = some o := fun o => by rw [← hl1]; exact heap_end _ _
  have hE2 : ∀ o o' : AObj, (M1 ++ [o]).set M.length o' = M1 ++ [o'] := fun o o' => by rw [← hl1]; exact set_end _ _ _
  obtain ⟨St, hSt⟩ : ∃ St : Nat → S, ∀ c, St c = ⟨(if c.testBit 5 = true then M1 else M) ++ [if c.testBit 9 = true then AObj.cells [.str (tabs.getD i []), .bool false, .int .i64 (1 + k2), .nilsl] 26 else if c.testBit 8 = true then AObj.cells [.str [], .bool false, .int .i64 0, .nilsl] 26 else .resv], ts⟩ := ⟨_, fun c => rfl⟩
  have hI : ∀ j, j ≠ 5 → j ≠ 8 → j ≠ 9 → ∀ c, St (c ||| 2 ^ j) = St c := fun j h1 h2 h3 c => by
    rw [hSt, hSt]
    simp only [tb_or, h1, h2, h3, decide_false, Bool.or_false]
  refine G_set rfl St (L := [.cells [.str [], .bool false, .int .i64 0, .nilsl] 26]) (masks := [0, 0, 3, 7, 0, 17, 49, 127, 0, 511]) (by kernel_rfl) (by kernel_rfl) (by kernel_rfl) (by kernel_rfl) (by kernel_rfl) (by rw [hSt]; simp) ?_
  have i0 := hI 0 (by decide) (by decide) (by decide)
  have i1 := hI 1 (by decide) (by decide) (by decide)
  have i2 := hI 2 (by decide) (by decide) (by decide)
  have i3 := hI 3 (by decide) (by decide) (by decide)
  have i4 := hI 4 (by decide) (by decide) (by decide)
  have i6 := hI 6 (by decide) (by decide) (by decide)
  have i7 := hI 7 (by decide) (by decide) (by decide)
  simp -implicitDefEqProofs only [Wa,Wb,Wc,Wd,We,Wf,Wg,Wh,Wi,Wj,Wk,Wl,Wm,Wn,Zo,Zp,evalT,Nat.reduceLT,Nat.reduceEqDiff,if_true,if_false,reduceIte,Ys,ofVal,ofCell,argT,resT,setT,Y0,Int.reduceEq,Int.reduceLT,Int.reduceLE,Int.reduceNeg,mb,Nat.reduceBEq,tys,stb,Va,storeList,Nat.reduceAdd,Nat.reduceLeDiff,tysc,GZ_nil,GZ_alloc,GZ_op,GZS_some,GZS_none,GZS_ite,GZS_nite,Qv,ia_fcall,ia_build,Qp,Qs,QH,QP,t0,t7,-Ys,hN0,hit,load_hd,hT2,e3,b36,i0,i1,i2,i3,i4,i6,i7,hE1,hE2]
  refine ⟨fun _ _ _ => trivial, fun _ _ _ => trivial, fun _ _ _ => trivial, fun _ _ _ => trivial, fun _ _ _ => trivial, ?_, fun _ _ _ => trivial, fun _ _ _ => trivial, ?_, ?_, ?_, ?_⟩
  · rintro c _ ⟨a1, a2, a3⟩
    have b9 : c.testBit 9 = false := a3 9 (by decide)
    rw [hSt, hSt]
    simp only [tb_or, a1, b9, decide_true, Bool.or_true, Bool.false_eq_true, if_false, if_true, Nat.reduceEqDiff, decide_false, Bool.or_false]
    exact hT2 _ _
  · rintro c _ ⟨a1, a2, a3⟩
    have b9 : c.testBit 9 = false := a3 9 (by decide)
    refine ⟨26, _, rfl, tysc.2.2.2.2.2.2.2, ?_, ?_⟩
    · rw [hSt]
      simp only [a1, b9, Bool.false_eq_true, if_false]
      split
      · rw [← hl1]; exact heap_end _ _
      · exact heap_end _ _
    · rw [hSt, hSt]
      simp only [tb_or, a1, b9, decide_true, Bool.or_true, Bool.false_eq_true, if_false, if_true, Nat.reduceEqDiff, decide_false, Bool.or_false, S.set]
      split
      · rw [← hl1, set_end]; rfl
      · rw [set_end]; rfl
  · rfl
  · rintro c _ ⟨a1, a2, a3⟩
    have b5 := a2 5 (by decide) (by decide)
    have b8 := a2 8 (by decide) (by decide)
    rw [hSt, hSt]
    simp only [tb_or, a1, b5, b8, decide_true, Bool.or_true, Bool.false_eq_true, if_false, if_true, hE1]
    simp -implicitDefEqProofs only [Wa,Wb,Wc,Wd,We,Wf,Wg,Wh,Wi,Wj,Wk,Wl,Wm,Wn,Zo,Zp,evalT,Nat.reduceLT,Nat.reduceEqDiff,if_true,if_false,reduceIte,Ys,ofVal,ofCell,argT,resT,setT,Y0,Int.reduceEq,Int.reduceLT,Int.reduceLE,Int.reduceNeg,mb,Nat.reduceBEq,tys,stb,Va,storeList,Nat.reduceAdd,Nat.reduceLeDiff,hE2]
    rfl
  · exact ⟨fun c hc => by rw [hSt]; simp only [hc 5 (by decide), hc 9 (by decide), if_true], h _ M1 k2 rfl rfl rfl rfl rfl rfl hH1 hK1 hl1⟩
end
section
variable {xv : V} {xs : List Int} (K : Tk xv xs)
include K
theorem schemas_call {L : List AObj} {b : Nat} (hH : Has L b xv xs) (ts : List Nat) :
    ∃ v σ', callFn env (ev env) 28 [.ptr b 0] ⟨L, ts⟩ = some (v, σ') ∧ ∃ (L' : List AObj) (ts' : List Nat) (n : Nat) (cells : List V) (ds : List Col), σ' = ⟨L', ts'⟩ ∧ GrowV ts.length ts' 4 v n cells ∧ 1 ≤ n ∧ n ≤ 4 ∧ LastS cells n ds ∧ Kits ds ∧ 1 ≤ ds.length ∧ ds.length ≤ 5 ∧ Kp L L' b := by
  refine callFn_any rfl rfl at28 rfl (by simp [Tryz.f28]) (by simp [Tryz.f28]) (G_start ?_)
  have hN1 := names1_call
  simp -implicitDefEqProofs only [Tryz.f28,Wa,Wb,Wc,Wd,We,Wf,Wg,Wh,Wi,Wj,Wk,Wl,Wm,Wn,Zo,Zp,evalT,Nat.reduceLT,Nat.reduceEqDiff,if_true,if_false,reduceIte,Ys,ofVal,ofCell,argT,resT,setT,Y0,Int.reduceEq,Int.reduceLT,Int.reduceLE,Int.reduceNeg,mb,Nat.reduceBEq,tys,stb]
  refine loop_rule (fun m T D σ => D = [] ∧ T 0 = .ptr b 0 ∧ ∃ (M : List AObj) (ts' : List Nat) (cs : List Col) (v : V), σ = ⟨M, ts'⟩ ∧ T 3 = v ∧ GC ts.length ts' v cs ∧ Ext ts.length ts ts' ∧ AllC cs ∧ T 4 = .int .i64 cs.length ∧ Has M b xv xs ∧ Kp L M b ∧ cs.length ≤ 5 ∧ m = 5 - cs.length) ?_ (5 - 0) _ _ _
    ⟨rfl, rfl, L, ts, [], .nilsl, rfl, rfl, .nil, .rfl' _ _, fun j hj => by simp at hj, rfl, hH, .rfl' _ _, by simp, rfl⟩
  rintro m T D σ ⟨rfl, t0, M, ts', cs, v, rfl, t3, hg, hE, hA, t4, hM, hKM, hcl, rfl⟩
  refine G_start ?_
  by_cases hlt : cs.length < 5
  · have c1 : (cs.length : Int) < 5 := by omega
    have e1 : IntKind.i64.wrap ((cs.length : Int) + 1) = ((cs.length + 1 : Nat) : Int) := by rw [wrap_i64 (by omega) (by omega)]; omega
    obtain ⟨r, hix⟩ := idx_ages hlt
    obtain ⟨cv, _, hC, c, M', rfl, rfl, hM', hK', hkc⟩ := column65_call K hM (ages.getD cs.length []) ts'
    have hcell := isCell_W hkc.is.1
    obtain ⟨v', ts2, hP, hg', hE'⟩ := GC.push (hp := M') hg hE.1 c hcell .full (by omega)
    unfold aggC at hC
    simp -implicitDefEqProofs only [Wa,Wb,Wc,Wd,We,Wf,Wg,Wh,Wi,Wj,Wk,Wl,Wm,Wn,Zo,Zp,evalT,Nat.reduceLT,Nat.reduceEqDiff,if_true,if_false,reduceIte,Ys,ofVal,ofCell,argT,resT,setT,Y0,Int.reduceEq,Int.reduceLT,Int.reduceLE,Int.reduceNeg,mb,Nat.reduceBEq,tys,stb,Va,storeList,Nat.reduceAdd,Nat.reduceLeDiff,t0,t3,t4,-Ys,c1,e1,hN1,hix,load_hd,hC,opT_rowO,rowC1,hP]
    exact ⟨5 - (cs.length + 1), by omega, M', ts2, cs ++ [c], v', rfl, rfl, hg', hE.trans hE', hA.add hkc, by simp, hM', hKM.trans hK', by simp; omega, by simp⟩
  · have h5 : cs.length = 5 := by omega
    have c1 : ¬ (cs.length : Int) < 5 := by omega
    obtain ⟨k1, M1, hT1, hH1, hK1, hl1, p1, p2, _⟩ := take_at K hM 3 (by simp [In64])
    have hp2 := p2 (by decide)
    obtain ⟨n, hn⟩ : ∃ n : Nat, 1 + k1 = (n : Int) := ⟨(1 + k1).toNat, by omega⟩
    have e1 : IntKind.i64.wrap (1 + k1) = (n : Int) := by rw [wrap_i64 (by omega) (by omega)]; exact hn
    obtain ⟨q, rfl⟩ := hg.isrow (by omega)
    have hKM1 : Kp L M1 b := hKM.trans hK1
    simp -implicitDefEqProofs only [Wa,Wb,Wc,Wd,We,Wf,Wg,Wh,Wi,Wj,Wk,Wl,Wm,Wn,Zo,Zp,evalT,Nat.reduceLT,Nat.reduceEqDiff,if_true,if_false,reduceIte,Ys,ofVal,ofCell,argT,resT,setT,Y0,Int.reduceEq,Int.reduceLT,Int.reduceLE,Int.reduceNeg,mb,Nat.reduceBEq,tys,stb,Va,storeList,Nat.reduceAdd,Nat.reduceLeDiff,t0,t3,t4,c1,hT1,e1]
    refine loop_rule (fun m T D σ => D = [] ∧ T 0 = .ptr b 0 ∧ T 3 = .row (flatC cs) cs.length q ∧ T 5 = .int .i64 n ∧ ∃ (M : List AObj) (ts' : List Nat) (i : Nat) (cells : List V) (v : V), σ = ⟨M, ts'⟩ ∧ T 6 = v ∧ GrowV ts.length ts' 4 v i cells ∧ Ext ts.length ts ts' ∧ T 7 = .int .i64 i ∧ Has M b xv xs ∧ Kp L M b ∧ i ≤ n ∧ (1 ≤ i → ∃ ds, LastS cells i ds ∧ Kits ds ∧ 1 ≤ ds.length ∧ ds.length ≤ 5) ∧ m = n - i) ?_ (n - 0) _ _ _
      ⟨rfl, t0, t3, rfl, M1, ts', 0, [], .nilsl, rfl, rfl, .nil, hE, rfl, hH1, hKM1, Nat.zero_le _, fun h => by omega, rfl⟩
    clear hK1 hKM1 hH1 hT1 hl1 M1 hM hKM M t0 t3 t4 T hE hg ts'
    rintro m T D σ ⟨rfl, t0, t3, t5, M, ts', i, cells, v, rfl, t6, hg, hE, t7, hM, hKM, hin, hlast, rfl⟩
    refine G_start ?_
    by_cases hlt : i < n
    · have c2 : (i : Int) < (n : Int) := by omega
      have e2 : IntKind.i64.wrap ((i : Int) + 1) = ((i + 1 : Nat) : Int) := by rw [wrap_i64 (by omega) (by omega)]; omega
      simp -implicitDefEqProofs only [Wa,Wb,Wc,Wd,We,Wf,Wg,Wh,Wi,Wj,Wk,Wl,Wm,Wn,Zo,Zp,evalT,Nat.reduceLT,Nat.reduceEqDiff,if_true,if_false,reduceIte,Ys,ofVal,ofCell,argT,resT,setT,Y0,Int.reduceEq,Int.reduceLT,Int.reduceLE,Int.reduceNeg,mb,Nat.reduceBEq,tys,stb,Va,storeList,Nat.reduceAdd,Nat.reduceLeDiff,t0,t3,t5,t6,t7,c2]
      refine region11 K (show i < 3 by omega) t0 t7 hM fun T' M1 k2 u0 u3 u5 u6 u7 u8 hH1 hK1 hl1 => ?_
      have v0 : T' 0 = .ptr b 0 := u0.trans t0
      have v3 : T' 3 = .row (flatC cs) cs.length q := u3.trans t3
      have v5 : T' 5 = .int .i64 n := u5.trans t5
      have v6 : T' 6 = v := u6.trans t6
      have v7 : T' 7 = .int .i64 i := u7.trans t7
      have hHn := hH1.app [.cells [.str (tabs.getD i []), .bool false, .int .i64 (1 + k2), .nilsl] 26]
      have hbM : b < M.length := hM.lt
      have hPb : M.length ≠ b := by omega
      have hKn : Kp L (M1 ++ [.cells [.str (tabs.getD i []), .bool false, .int .i64 (1 + k2), .nilsl] 26]) b := (hKM.trans hK1).trans (Kp.app _ _)
      have hPn : (M1 ++ [AObj.cells [.str (tabs.getD i []), .bool false, .int .i64 (1 + k2), .nilsl] 26])[M.length]? = some (.cells [.str (tabs.getD i []), .bool false, .int .i64 (1 + k2), .nilsl] 26) := by rw [← hl1]; exact heap_end _ _
      have hLM := hKM.1
      generalize M1 ++ [AObj.cells [.str (tabs.getD i []), .bool false, .int .i64 (1 + k2), .nilsl] 26] = H at *
      clear hH1 hK1 hl1 t0 t3 t5 t6 t7 u0 u3 u5 u6 u7 M1 T
      -- what follows the loop over the columns
      have fin : ∀ (H2 H' : List AObj) (ts2 : List Nat) (ds : List Col) (qd : RCap) (pb : Bool) (nn : Int), Has H' b xv xs → Kp L H2 b → Kp2 H2 H' b M.length → Kits ds → 1 ≤ ds.length → ds.length ≤ 5 → Ext ts'.length ts' ts2 →
          ∃ v' ts3, appO env false ⟨H', ts2⟩ 32 32 v (.row [.str (tabs.getD i []), .bool pb, .int .i64 nn, .row (flatC ds) ds.length qd] 1 .full) = some (v', ⟨H', ts3⟩) ∧
            ∃ m', m' < n - i ∧ ∃ (M : List AObj) (ts' : List Nat) (i2 : Nat) (cells : List V) (v : V), (⟨H', ts3⟩ : S) = ⟨M, ts'⟩ ∧ v' = v ∧ GrowV ts.length ts' 4 v i2 cells ∧ Ext ts.length ts ts' ∧ V.int .i64 ((i + 1 : Nat) : Int) = .int .i64 i2 ∧ Has M b xv xs ∧ Kp L M b ∧ i2 ≤ n ∧ (1 ≤ i2 → ∃ ds, LastS cells i2 ds ∧ Kits ds ∧ 1 ≤ ds.length ∧ ds.length ≤ 5) ∧ m' = n - i2 := by
        intro H2 H' ts2 ds qd pb nn f1 f2 f3 f4 f5 f6 f7
        have hlim : lim = 2 ^ 40 := rfl
        have hb2 : ts.length ≤ ts2.length := Nat.le_trans hE.1 f7.1
        obtain ⟨v', ts3, a1, a2, a3⟩ := GrowV.push (E := env) (hp := H') (q := .full) (new := [.str (tabs.getD i []), .bool pb, .int .i64 nn, .row (flatC ds) ds.length qd]) eS ⟨26, eS.slice⟩ (hg.ext f7) hb2 rfl rfl ⟨by rw [hlim]; omega, by rw [hlim]; omega⟩
        have hcl2 := hg.lens
        refine ⟨v', ts3, a1, n - (i + 1), by omega, H', ts3, i + 1, _, v', rfl, rfl, a2, (hE.trans (f7.mono hE.1)).trans a3, rfl, f1, ⟨Nat.le_trans f2.1 f3.1, fun x hx hxb => by rw [f3.2 x (by have := f2.1; omega) hxb (by omega)]; exact f2.2 x hx hxb⟩, by omega, fun _ => ⟨ds, ⟨.str (tabs.getD i []), .bool pb, .int .i64 nn, qd, ?_⟩, f4, f5, f6⟩, rfl⟩
        rw [Nat.add_sub_cancel, ← hcl2, List.drop_left]
      by_cases hi0 : i = 0
      · have c3 : ((i : Int) > 0) = False := eq_false (by omega)
        obtain ⟨k4, H4, hT4, hH4, hK4, hl4, p5, p6, _⟩ := take_at K hHn 5 (by simp [In64])
        have hp6 := p6 (by decide)
        have hP4 : H4[M.length]? = _ := (hK4.2 _ (List.getElem?_eq_some_iff.1 hPn).1 hPb).trans hPn
        simp -implicitDefEqProofs only [Wa,Wb,Wc,Wd,We,Wf,Wg,Wh,Wi,Wj,Wk,Wl,Wm,Wn,Zo,Zp,evalT,Nat.reduceLT,Nat.reduceEqDiff,if_true,if_false,reduceIte,Ys,ofVal,ofCell,argT,resT,setT,Y0,Int.reduceEq,Int.reduceLT,Int.reduceLE,Int.reduceNeg,mb,Nat.reduceBEq,tys,stb,Va,storeList,Nat.reduceAdd,Nat.reduceLeDiff,tysc,v0,v3,v5,v6,v7,u8,c3,hT4]
        refine inner_loop K hPb hA h5 p5 hp6 v0 v3 u8 rfl rfl hH4 hP4 fun T2 H' ts2 ds qd w0 w3 w5 w6 w7 w8 f1 f2 f3 f4 f5 f6 f7 => ?_
        have z0 : T2 0 = .ptr b 0 := w0.trans v0
        have z3 : T2 3 = .row (flatC cs) cs.length q := w3.trans v3
        have z5 : T2 5 = .int .i64 n := w5.trans v5
        have z6 : T2 6 = v := w6.trans v6
        have z7 : T2 7 = .int .i64 i := w7.trans v7
        have z8 : T2 8 = .ptr M.length 0 := w8.trans u8
        obtain ⟨v', ts3, a1, a2⟩ := fin H4 H' ts2 ds qd false (1 + k2) f1 (hKn.trans hK4) f2 f4 f5 f6 f7
        have ld := ld4_at f3
        simp -implicitDefEqProofs only [Wa,Wb,Wc,Wd,We,Wf,Wg,Wh,Wi,Wj,Wk,Wl,Wm,Wn,Zo,Zp,evalT,Nat.reduceLT,Nat.reduceEqDiff,if_true,if_false,reduceIte,Ys,ofVal,ofCell,argT,resT,setT,Y0,Int.reduceEq,Int.reduceLT,Int.reduceLE,Int.reduceNeg,mb,Nat.reduceBEq,tys,stb,Va,storeList,Nat.reduceAdd,Nat.reduceLeDiff,tysc,z0,z3,z5,z6,z7,z8,e2,ld,opT_rowO,rowS1,a1]
        exact a2
      · have c3 : ((i : Int) > 0) = True := eq_true (by omega)
        obtain ⟨k3, H3, hT3, hH3, hK3, hl3, p7, p8, _⟩ := take_at K hHn 3 (by simp [In64])
        have hp8 := p8 (by decide)
        have hP3 : H3[M.length]? = _ := (hK3.2 _ (List.getElem?_eq_some_iff.1 hPn).1 hPb).trans hPn
        by_cases hk3 : k3 = 1
        · have g3 : (k3 = 1) = True := eq_true hk3
          have hS1 : ∀ o, (H3.set M.length o)[M.length]? = some o := fun o => List.getElem?_set_self (List.getElem?_eq_some_iff.1 hP3).1
          have hHs : ∀ o, Has (H3.set M.length o) b xv xs := fun o => by
            obtain ⟨a, b1, b2⟩ := hH3
            exact ⟨a, b1, by rw [List.getElem?_set_ne hPb]; exact b2⟩
          obtain ⟨k4, H4, hT4, hH4, hK4, hl4, p5, p6, _⟩ := take_at K (hHs (.cells [.str (tabs.getD i []), .bool true, .int .i64 0, .nilsl] 26)) 5 (by simp [In64])
          have hp6 := p6 (by decide)
          have hP4 : H4[M.length]? = _ := (hK4.2 _ (List.getElem?_eq_some_iff.1 (hS1 _)).1 hPb).trans (hS1 _)
          simp -implicitDefEqProofs only [Wa,Wb,Wc,Wd,We,Wf,Wg,Wh,Wi,Wj,Wk,Wl,Wm,Wn,Zo,Zp,evalT,Nat.reduceLT,Nat.reduceEqDiff,if_true,if_false,reduceIte,Ys,ofVal,ofCell,argT,resT,setT,Y0,Int.reduceEq,Int.reduceLT,Int.reduceLE,Int.reduceNeg,mb,Nat.reduceBEq,tys,stb,Va,storeList,Nat.reduceAdd,Nat.reduceLeDiff,tysc,v0,v3,v5,v6,v7,u8,c3,hT3,g3,hP3,hS1,List.set_set,isCell_bool,isCell_int,cells_bool,List.singleton_append,hT4]
          refine inner_loop K hPb hA h5 p5 hp6 v0 v3 u8 rfl rfl hH4 hP4 fun T2 H' ts2 ds qd w0 w3 w5 w6 w7 w8 f1 f2 f3 f4 f5 f6 f7 => ?_
          have z0 : T2 0 = .ptr b 0 := w0.trans v0
          have z3 : T2 3 = .row (flatC cs) cs.length q := w3.trans v3
          have z5 : T2 5 = .int .i64 n := w5.trans v5
          have z6 : T2 6 = v := w6.trans v6
          have z7 : T2 7 = .int .i64 i := w7.trans v7
          have z8 : T2 8 = .ptr M.length 0 := w8.trans u8
          have hKs : Kp L (H3.set M.length (.cells [.str (tabs.getD i []), .bool true, .int .i64 0, .nilsl] 26)) b := by
            have hk := hKn.trans hK3
            exact ⟨by have := hk.1; simp; omega, fun x hx hxb => by rw [List.getElem?_set_ne (by omega)]; exact hk.2 x hx hxb⟩
          obtain ⟨v', ts3, a1, a2⟩ := fin H4 H' ts2 ds qd true 0 f1 (hKs.trans hK4) f2 f4 f5 f6 f7
          have ld := ld4_at f3
          simp -implicitDefEqProofs only [Wa,Wb,Wc,Wd,We,Wf,Wg,Wh,Wi,Wj,Wk,Wl,Wm,Wn,Zo,Zp,evalT,Nat.reduceLT,Nat.reduceEqDiff,if_true,if_false,reduceIte,Ys,ofVal,ofCell,argT,resT,setT,Y0,Int.reduceEq,Int.reduceLT,Int.reduceLE,Int.reduceNeg,mb,Nat.reduceBEq,tys,stb,Va,storeList,Nat.reduceAdd,Nat.reduceLeDiff,tysc,z0,z3,z5,z6,z7,z8,e2,ld,opT_rowO,rowS1,a1]
          exact a2
        · have g3 : (k3 = 1) = False := eq_false hk3
          obtain ⟨k4, H4, hT4, hH4, hK4, hl4, p5, p6, _⟩ := take_at K hH3 5 (by simp [In64])
          have hp6 := p6 (by decide)
          have hP4 : H4[M.length]? = _ := (hK4.2 _ (List.getElem?_eq_some_iff.1 hP3).1 hPb).trans hP3
          simp -implicitDefEqProofs only [Wa,Wb,Wc,Wd,We,Wf,Wg,Wh,Wi,Wj,Wk,Wl,Wm,Wn,Zo,Zp,evalT,Nat.reduceLT,Nat.reduceEqDiff,if_true,if_false,reduceIte,Ys,ofVal,ofCell,argT,resT,setT,Y0,Int.reduceEq,Int.reduceLT,Int.reduceLE,Int.reduceNeg,mb,Nat.reduceBEq,tys,stb,Va,storeList,Nat.reduceAdd,Nat.reduceLeDiff,tysc,v0,v3,v5,v6,v7,u8,c3,hT3,g3,hT4]
          refine inner_loop K hPb hA h5 p5 hp6 v0 v3 u8 rfl rfl hH4 hP4 fun T2 H' ts2 ds qd w0 w3 w5 w6 w7 w8 f1 f2 f3 f4 f5 f6 f7 => ?_
          have z0 : T2 0 = .ptr b 0 := w0.trans v0
          have z3 : T2 3 = .row (flatC cs) cs.length q := w3.trans v3
          have z5 : T2 5 = .int .i64 n := w5.trans v5
          have z6 : T2 6 = v := w6.trans v6
          have z7 : T2 7 = .int .i64 i := w7.trans v7
          have z8 : T2 8 = .ptr M.length 0 := w8.trans u8
          obtain ⟨v', ts3, a1, a2⟩ := fin H4 H' ts2 ds qd false (1 + k2) f1 ((hKn.trans hK3).trans hK4) f2 f4 f5 f6 f7
          have ld := ld4_at f3
          simp -implicitDefEqProofs only [Wa,Wb,Wc,Wd,We,Wf,Wg,Wh,Wi,Wj,Wk,Wl,Wm,Wn,Zo,Zp,evalT,Nat.reduceLT,Nat.reduceEqDiff,if_true,if_false,reduceIte,Ys,ofVal,ofCell,argT,resT,setT,Y0,Int.reduceEq,Int.reduceLT,Int.reduceLE,Int.reduceNeg,mb,Nat.reduceBEq,tys,stb,Va,storeList,Nat.reduceAdd,Nat.reduceLeDiff,tysc,z0,z3,z5,z6,z7,z8,e2,ld,opT_rowO,rowS1,a1]
          exact a2
    · have hie : i = n := by omega
      subst hie
      have c2 : ¬ (i : Int) < (i : Int) := by omega
      obtain ⟨ds, d1, d2, d3, d4⟩ := hlast (by omega)
      simp -implicitDefEqProofs only [Wa,Wb,Wc,Wd,We,Wf,Wg,Wh,Wi,Wj,Wk,Wl,Wm,Wn,Zo,Zp,evalT,Nat.reduceLT,Nat.reduceEqDiff,if_true,if_false,reduceIte,Ys,ofVal,ofCell,argT,resT,setT,Y0,Int.reduceEq,Int.reduceLT,Int.reduceLE,Int.reduceNeg,mb,Nat.reduceBEq,tys,stb,Va,storeList,Nat.reduceAdd,Nat.reduceLeDiff,t0,t3,t5,t6,t7,c2]
      exact ⟨M, ts', i, cells, ds, rfl, hg, by omega, by omega, d1, d2, d3, d4, hKM⟩
end
end Go.Proofs.YtcjapamldllleaaGreatDoor.N
namespace Go.Proofs.YtcjapamldllleaaGreatDoor.N
open Go.Ab
set_option maxHeartbeats 4000000
set_option maxHeartbeats 4000000
set_option maxRecDepth 100000
set_option linter.unusedSimpArgs false
set_option linter.unusedVariables false
set_option linter.unusedSectionVars false
section
variable {cs : List Col} (h : Kits cs)
include h
theorem Kits.ok : OkC cs := fun c hc => (h c hc).2.1
theorem Kits.ws : ∀ i, i < cs.length → (cs.getD i Col.none).ws.length ≤ 1000 := fun i hi => by
  have hm : cs.getD i Col.none ∈ cs := by rw [List.getD, List.getElem?_eq_getElem hi]; exact List.getElem_mem hi
  rcases (h _ hm).2.2 with ⟨e, _⟩ | ⟨k, h1, h2, e, _⟩
  · rw [e]; simp
  · rw [e, List.length_take]; omega
end
end Go.Proofs.YtcjapamldllleaaGreatDoor.N
