/- Proved here: the law. Conditions: those of each theorem; no statement of the seat is proved in this text. -/
import Derived.Test.YtbikmhpobflfeaaDoorEnvF
import Derived.Test.YtbikmhpobflfeaaDoorSnE
namespace Go.Proofs.YtbikmhpobflfeaaDoor.F
open Go.Ab
set_option maxHeartbeats 4000000
set_option maxHeartbeats 4000000
set_option maxRecDepth 100000
set_option linter.unusedSimpArgs false
set_option linter.unusedVariables false
set_option linter.unusedSectionVars false
theorem mb (f : FuncId) (r : Nat) (h : (f == 62 && r == 3) = false) : env.mutb f r = false := h
theorem stb (f : FuncId) (r : Nat) (h : (f == 80 && r == 11 || f == 110 && r == 7 || f == 10 && r == 8 || f == 10 && r == 11 || f == 10 && r == 12) = false) : env.stab f r = false := h
theorem tys : env.P.underlying 3 = some (.int .i64) ∧ env.P.underlying 4 = some .bool ∧ env.P.underlying 9 = some .string ∧ env.P.underlying 24 = some (.slice 9) ∧ env.P.underlying 27 = some (.slice 44) ∧ env.P.underlying 62 = some (.slice 3) ∧ env.P.underlying 36 = some (.slice 29) ∧ env.P.underlying 32 = some (.int .i64) ∧
    sz env 9 = some 1 ∧ sz env 24 = some 1 ∧ sz env 3 = some 1 ∧ sz env 4 = some 1 ∧ sz env 27 = some 1 ∧ sz env 62 = some 1 ∧ sz env 36 = some 1 ∧ sz env 32 = some 1 ∧ sz env 44 = some 4 ∧ sz env 29 = some 4 ∧ sz env 107 = some 2 ∧
    fldOff env 107 0 = some 0 ∧ fldOff env 107 1 = some 1 ∧ fldOff env 44 0 = some 0 ∧ fldOff env 44 1 = some 1 ∧ fldOff env 44 2 = some 2 ∧ fldOff env 44 3 = some 3 ∧ fldOff env 29 0 = some 0 ∧ fldOff env 29 1 = some 1 ∧ fldOff env 29 2 = some 2 ∧ fldOff env 29 3 = some 3 ∧
    (∀ h p, aload env h 9 p = (loadCellsV h 1 p).bind (·[0]?)) ∧ (∀ h p, aload env h 24 p = (loadCellsV h 1 p).bind (·[0]?)) ∧ (∀ h p, aload env h 3 p = (loadCellsV h 1 p).bind (·[0]?)) ∧ (∀ h p, aload env h 4 p = (loadCellsV h 1 p).bind (·[0]?)) ∧
    (∀ h p, aload env h 62 p = (loadCellsV h 1 p).bind (·[0]?)) ∧ (∀ h p, aload env h 27 p = (loadCellsV h 1 p).bind (·[0]?)) ∧ (∀ h p, aload env h 32 p = (loadCellsV h 1 p).bind (·[0]?)) ∧ (∀ h p, aload env h 44 p = (loadCellsV h 4 p).map .agg) ∧ (∀ h p, aload env h 29 p = (loadCellsV h 4 p).map .agg) ∧
    zeroV env 44 = some (.agg [.str [], .int .i64 0, .int .i64 0, .nilsl]) ∧ zeroV env 29 = some (.agg [.str [], .bool false, .int .i64 0, .nilsl]) := by
  have g9 : aggT env 9 = some false := by kernel_rfl
  have g24 : aggT env 24 = some false := by kernel_rfl
  have g3 : aggT env 3 = some false := by kernel_rfl
  have g4 : aggT env 4 = some false := by kernel_rfl
  have g62 : aggT env 62 = some false := by kernel_rfl
  have g27 : aggT env 27 = some false := by kernel_rfl
  have g32 : aggT env 32 = some false := by kernel_rfl
  have g44 : aggT env 44 = some true := by kernel_rfl
  have g29 : aggT env 29 = some true := by kernel_rfl
  have s44 : sz env 44 = some 4 := by kernel_rfl
  have s29 : sz env 29 = some 4 := by kernel_rfl
  exact ⟨by kernel_rfl, by kernel_rfl, by kernel_rfl, by kernel_rfl, by kernel_rfl, by kernel_rfl, by kernel_rfl, by kernel_rfl, by kernel_rfl, by kernel_rfl, by kernel_rfl, by kernel_rfl, by kernel_rfl, by kernel_rfl, by kernel_rfl, by kernel_rfl, by kernel_rfl, by kernel_rfl, by kernel_rfl, by kernel_rfl, by kernel_rfl, by kernel_rfl, by kernel_rfl, by kernel_rfl, by kernel_rfl, by kernel_rfl, by kernel_rfl, by kernel_rfl, by kernel_rfl,
    fun _ _ => aload_one g9, fun _ _ => aload_one g24, fun _ _ => aload_one g3, fun _ _ => aload_one g4, fun _ _ => aload_one g62, fun _ _ => aload_one g27, fun _ _ => aload_one g32, fun h p => by unfold aload; rw [g44, s44]; rfl, fun h p => by unfold aload; rw [g29, s29]; rfl, by kernel_rfl, by kernel_rfl⟩
def IsI (v : V) (xs : List Int) : Prop := (v = .nilsl ∧ xs = []) ∨ v = .row (xs.map (V.int .i64)) xs.length .unk ∨ v = .row (xs.map (V.int .i64)) xs.length .full
theorem idx_I {v : V} {xs : List Int} (h : IsI v xs) {i : Nat} (hi : i < xs.length) : vIndexAddr 1 v (.int .i64 (i : Int)) = some (.rptr (.int .i64 (xs.getD i 0) :: (xs.map (V.int .i64)).drop (i + 1))) := by
  rcases h with ⟨rfl, rfl⟩ | rfl | rfl
  · simp at hi
  · rw [Ys, if_pos (by omega), Int.toNat_natCast, Nat.mul_one, List.drop_eq_getElem_cons (by simpa using hi)]
    simp [List.getD, hi]
  · rw [Ys, if_pos (by omega), Int.toNat_natCast, Nat.mul_one, List.drop_eq_getElem_cons (by simpa using hi)]
    simp [List.getD, hi]
def In64 (x : Int) : Prop := -9223372036854775808 ≤ x ∧ x ≤ 9223372036854775807
theorem getD_in {xs : List Int} (h : ∀ x ∈ xs, In64 x) (j : Nat) : In64 (xs.getD j 0) := by
  by_cases hj : j < xs.length
  · rw [List.getD, List.getElem?_eq_getElem hj]; exact h _ (List.getElem_mem hj)
  · rw [List.getD, List.getElem?_eq_none (by omega)]; simp [In64]
theorem V1i {α : Type} {o : Option α} {v : α} {k : α → Prop} (h : o = some v) (g : k v) : V1 o k := ⟨v, h, g⟩
theorem at112 : env.P.funcs[112]? = some Tryd.f112 := by kernel_rfl
theorem at46 : env.P.funcs[46]? = some Tryd.f46 := by kernel_rfl
theorem pick_call (x n : Int) (hx : In64 x) (hn : In64 n) (h1 : 1 ≤ n) (σ : S) : callFn env (ev env) 46 [.int .i64 x, .int .i64 n] σ = some (.int .i64 (x % n), σ) := by
  refine callFn_pure rfl rfl rfl at46 rfl (by simp [Tryd.f46]) (by simp [Tryd.f46]) (G_start ?_) σ
  unfold In64 at hx hn
  have hne : (n = 0) = False := eq_false (by omega)
  have hb1 : Int.tmod x n < n := Int.tmod_lt_of_pos x (by omega)
  have hb2 : -n < Int.tmod x n := Int.lt_tmod_of_pos x (by omega)
  have e1 : IntKind.i64.wrap (Int.tmod x n) = Int.tmod x n := wrap_i64 (by omega) (by omega)
  have hem : x % n = if Int.tmod x n < 0 then Int.tmod x n + n else Int.tmod x n := by
    have h2 := Int.tmod_add_mul_tdiv x n
    split
    · rename_i h
      have : (Int.tmod x n + n + n * (Int.tdiv x n - 1)) % n = Int.tmod x n + n := by rw [Int.add_mul_emod_self_left]; exact Int.emod_eq_of_lt (by omega) (by omega)
      rw [← this]; congr 1; rw [Int.mul_sub]; omega
    · have : (Int.tmod x n + n * Int.tdiv x n) % n = Int.tmod x n := by rw [Int.add_mul_emod_self_left]; exact Int.emod_eq_of_lt (by omega) (by omega)
      rw [← this]; congr 1; omega
  by_cases h : Int.tmod x n < 0
  · rw [if_pos h] at hem
    have e2 : IntKind.i64.wrap (Int.tmod x n + n) = Int.tmod x n + n := wrap_i64 (by omega) (by omega)
    have g : (Int.tmod x n < 0) = True := eq_true h
    simp -implicitDefEqProofs only [Tryd.f46,Wa,Wb,Wc,Wd,We,Wf,Wg,Wh,Wi,Wj,Wk,Wl,Wm,Wn,Zo,Zp,evalT,Nat.reduceLT,Nat.reduceEqDiff,if_true,if_false,reduceIte,Ys,ofVal,ofCell,argT,resT,setT,Y0,Int.reduceEq,Int.reduceLT,Int.reduceLE,Int.reduceNeg,mb,Nat.reduceBEq,tys,stb,empty_mk,hne,e1,g,e2]
    rw [hem]; rfl
  · rw [if_neg h] at hem
    have g : (Int.tmod x n < 0) = False := eq_false h
    simp -implicitDefEqProofs only [Tryd.f46,Wa,Wb,Wc,Wd,We,Wf,Wg,Wh,Wi,Wj,Wk,Wl,Wm,Wn,Zo,Zp,evalT,Nat.reduceLT,Nat.reduceEqDiff,if_true,if_false,reduceIte,Ys,ofVal,ofCell,argT,resT,setT,Y0,Int.reduceEq,Int.reduceLT,Int.reduceLE,Int.reduceNeg,mb,Nat.reduceBEq,tys,stb,empty_mk,hne,e1,g]
    rw [hem]; rfl
abbrev tk (xv : V) (a : Nat) : AObj := .cells [xv, .int .i64 a] 107
theorem len_I' {v : V} {xs : List Int} (h : IsI v xs) (e : TypeId) : vLenT (some (.slice e)) v = some (.int .i64 xs.length) := by rcases h with ⟨rfl, rfl⟩ | rfl | rfl <;> simp [vLenT]
theorem take_gen (xv : V) (xs : List Int) (hx : IsI xv xs) (hin : ∀ x ∈ xs, In64 x) (hxl : xs.length < 2 ^ 63) (a : Nat) (ha : a ≤ xs.length) (n : Int) (hn : In64 n) :
    ∃ (r : Int) (a' : Nat), (∀ (L : List AObj) (b : Nat) ts, b < L.length → callFn env (ev env) 112 [.ptr b 0, .int .i64 n] ⟨L.set b (tk xv a), ts⟩ = some (.int .i64 r, ⟨L.set b (tk xv a'), ts⟩)) ∧ a' ≤ xs.length ∧ 0 ≤ r ∧ (1 ≤ n → r < n) ∧ (n < 1 → r = 0) := by
  have hln := len_I' hx 3
  unfold In64 at hn
  by_cases h1 : xs.length ≤ a
  · have g1 : ((a : Int) ≥ (xs.length : Int)) = True := eq_true (by omega)
    refine ⟨0, a, fun L b ts hb => ?_, ha, Int.le_refl _, fun h => by omega, fun _ => rfl⟩
    have hg : (L.set b (tk xv a))[b]? = some (tk xv a) := List.getElem?_set_self hb
    refine callFn_eq rfl rfl at112 rfl (by simp [Tryd.f112]) (by simp [Tryd.f112]) (G_start ?_)
    simp -implicitDefEqProofs only [Tryd.f112,Wa,Wb,Wc,Wd,We,Wf,Wg,Wh,Wi,Wj,Wk,Wl,Wm,Wn,Zo,Zp,evalT,Nat.reduceLT,Nat.reduceEqDiff,if_true,if_false,reduceIte,Ys,ofVal,ofCell,argT,resT,setT,Y0,Int.reduceEq,Int.reduceLT,Int.reduceLE,Int.reduceNeg,mb,Nat.reduceBEq,tys,stb,Va,storeList,Nat.reduceAdd,Nat.reduceLeDiff,opT_nilCheck,nilO_ptr,hg,hln,g1,vBin_sneq]
    exact ⟨by kernel_rfl, rfl, trivial⟩
  have g1 : ((a : Int) ≥ (xs.length : Int)) = False := eq_false (by omega)
  by_cases h2 : n < 1
  · have g2 : (n < 1) = True := eq_true h2
    refine ⟨0, a, fun L b ts hb => ?_, ha, Int.le_refl _, fun h => by omega, fun _ => rfl⟩
    have hg : (L.set b (tk xv a))[b]? = some (tk xv a) := List.getElem?_set_self hb
    refine callFn_eq rfl rfl at112 rfl (by simp [Tryd.f112]) (by simp [Tryd.f112]) (G_start ?_)
    simp -implicitDefEqProofs only [Tryd.f112,Wa,Wb,Wc,Wd,We,Wf,Wg,Wh,Wi,Wj,Wk,Wl,Wm,Wn,Zo,Zp,evalT,Nat.reduceLT,Nat.reduceEqDiff,if_true,if_false,reduceIte,Ys,ofVal,ofCell,argT,resT,setT,Y0,Int.reduceEq,Int.reduceLT,Int.reduceLE,Int.reduceNeg,mb,Nat.reduceBEq,tys,stb,Va,storeList,Nat.reduceAdd,Nat.reduceLeDiff,opT_nilCheck,nilO_ptr,hg,hln,g1,g2,vBin_sneq]
    exact ⟨by kernel_rfl, rfl, trivial⟩
  have g2 : (n < 1) = False := eq_false h2
  have hx64 := getD_in hin a
  have hP := pick_call (xs.getD a 0) n hx64 hn (by omega)
  have e1 : IntKind.i64.wrap ((a : Int) + 1) = ((a + 1 : Nat) : Int) := by rw [wrap_i64 (by omega) (by omega)]; omega
  have e2 : IntKind.i64.wrap (((a + 1 : Nat) : Int) - 1) = (a : Int) := by rw [wrap_i64 (by omega) (by omega)]; omega
  have hxv := idx_I hx (show a < xs.length by omega)
  refine ⟨xs.getD a 0 % n, a + 1, fun L b ts hb => ?_, by omega, Int.emod_nonneg _ (by omega), fun _ => Int.emod_lt_of_pos _ (by omega), fun h => absurd h h2⟩
  have hg : (L.set b (tk xv a))[b]? = some (tk xv a) := List.getElem?_set_self hb
  have hg2 : ((L.set b (tk xv a)).set b (tk xv (a + 1)))[b]? = some (tk xv (a + 1)) := by rw [List.set_set]; exact List.getElem?_set_self hb
  refine callFn_eq rfl rfl at112 rfl (by simp [Tryd.f112]) (by simp [Tryd.f112]) (G_start ?_)
  simp -implicitDefEqProofs only [Tryd.f112,Wa,Wb,Wc,Wd,We,Wf,Wg,Wh,Wi,Wj,Wk,Wl,Wm,Wn,Zo,Zp,evalT,Nat.reduceLT,Nat.reduceEqDiff,if_true,if_false,reduceIte,Ys,ofVal,ofCell,argT,resT,setT,Y0,Int.reduceEq,Int.reduceLT,Int.reduceLE,Int.reduceNeg,mb,Nat.reduceBEq,tys,stb,Va,storeList,Nat.reduceAdd,Nat.reduceLeDiff,opT_nilCheck,nilO_ptr,hg,hln,g1,g2,vBin_sneq,e1,hg2,e2,hxv,hP,load_hd]
  exact ⟨by kernel_rfl, rfl, by kernel_rfl, rfl, by rw [List.set_set]⟩
theorem take_call (L : List AObj) (b : Nat) (xv : V) (xs : List Int) (hx : IsI xv xs) (hin : ∀ x ∈ xs, In64 x) (hxl : xs.length < 2 ^ 63) (hb : b < L.length) (a : Nat) (ha : a ≤ xs.length) (n : Int) (hn : In64 n) :
    ∃ (r : Int) (a' : Nat), (∀ ts, callFn env (ev env) 112 [.ptr b 0, .int .i64 n] ⟨L.set b (tk xv a), ts⟩ = some (.int .i64 r, ⟨L.set b (tk xv a'), ts⟩)) ∧ a' ≤ xs.length ∧ 0 ≤ r ∧ (1 ≤ n → r < n) ∧ (n < 1 → r = 0) := by
  obtain ⟨r, a', h1, h2⟩ := take_gen xv xs hx hin hxl a ha n hn
  exact ⟨r, a', fun ts => h1 L b ts hb, h2⟩
abbrev aggC (c : Col) : V := .agg [.str c.name, .int .i64 c.lo, .int .i64 c.hi, c.w]
theorem eC : Elt env 27 44 4 56 := ⟨by kernel_rfl, by kernel_rfl, by kernel_rfl, by kernel_rfl, by kernel_rfl⟩
theorem rowC1 (a b c d : V) : rowO env 27 1 [(0, .agg [a, b, c, d])] = some (.row [a, b, c, d] 1 .full) := by kernel_rfl
theorem load4_rptr (h : List AObj) (a b c d : V) (r : List V) : loadCellsV h 4 (.rptr (a :: b :: c :: d :: r)) = some [a, b, c, d] := by simp [loadCellsV]
theorem sc_build' (E : Env) (t : TypeId) (ps : Array (Nat × Operand)) : scOp E (.build t ps) = false := rfl
theorem rd_build' (t : TypeId) (ps : Array (Nat × Operand)) : readsOp (.build t ps) = false := rfl
theorem rd_bs (t : TypeId) (n : Nat) (ps : Array (Nat × Operand)) : readsOp (.buildSlice t n ps) = false := rfl
theorem idx_C' (cs : List Col) (q : RCap) {i : Nat} (h : i < cs.length) : ∃ r, vIndexAddr 4 (.row (flatC cs) cs.length q) (.int .i64 i) = some (.rptr (.str (cs.getD i Col.none).name :: .int .i64 (cs.getD i Col.none).lo :: .int .i64 (cs.getD i Col.none).hi :: (cs.getD i Col.none).w :: r)) :=
  ⟨_, by rw [Ys, if_pos (by omega), Int.toNat_natCast, flatC_drop, flatC_at h]⟩
theorem isCell_nilsl : V.nilsl.isCell = true := rfl
end Go.Proofs.YtbikmhpobflfeaaDoor.F
namespace Go.Proofs.YtbikmhpobflfeaaDoor.F
open Go.Ab
set_option maxHeartbeats 4000000
set_option maxHeartbeats 4000000
set_option maxRecDepth 100000
set_option linter.unusedSimpArgs false
set_option linter.unusedVariables false
set_option linter.unusedSectionVars false
theorem build39 {v : V} {xs : List Int} (h : IsI v xs) : buildO env 107 [(0, v)] = some (.agg [v, .int .i64 0]) := by
  rcases h with ⟨rfl, rfl⟩ | rfl | rfl <;> kernel_rfl
theorem sc_take (ag : Array Operand) (ts : Array TypeId) : scOp env (.call ⟨.value (.func 112), ag, ts⟩) = true := rfl
theorem flatC_app (a b : List Col) : flatC (a ++ b) = flatC a ++ flatC b := by simp [flatC]
abbrev GC (base : Nat) (ts : List Nat) (v : V) (cs : List Col) : Prop := GrowV base ts 4 v cs.length (flatC cs)
theorem GC.push {base : Nat} {hp : List AObj} {ts : List Nat} {v : V} {cs : List Col} (g : GC base ts v cs) (hb : base ≤ ts.length) (c : Col) (hc : c.w.isCell = true) (q : RCap) (hl : cs.length ≤ 4000) : ∃ v' ts', appO env false ⟨hp, ts⟩ 27 27 v (.row [.str c.name, .int .i64 c.lo, .int .i64 c.hi, c.w] 1 q) = some (v', ⟨hp, ts'⟩) ∧ GC base ts' v' (cs ++ [c]) ∧ Ext base ts ts' := by
  have hlim : lim = 2 ^ 40 := rfl
  have := GrowV.push (E := env) (hp := hp) (q := q) (new := [.str c.name, .int .i64 c.lo, .int .i64 c.hi, c.w]) eC ⟨44, eC.slice⟩ g hb rfl (by simp only [List.all_cons, List.all_nil, hc]; rfl) ⟨by rw [hlim]; omega, by rw [hlim]; omega⟩
  obtain ⟨v', ts', h1, h2, h3⟩ := this
  refine ⟨v', ts', h1, ?_, h3⟩
  unfold GC
  rw [List.length_append, flatC_app]; exact h2
def Kp (L L' : List AObj) (b : Nat) : Prop := L.length ≤ L'.length ∧ ∀ q, q < L.length → q ≠ b → L'[q]? = L[q]?
theorem Kp.rfl' (L : List AObj) (b : Nat) : Kp L L b := ⟨Nat.le_refl _, fun _ _ _ => rfl⟩
theorem Kp.trans {L L2 L3 : List AObj} {b : Nat} (h : Kp L L2 b) (g : Kp L2 L3 b) : Kp L L3 b := ⟨Nat.le_trans h.1 g.1, fun q hq hb => by rw [g.2 q (by have := h.1; omega) hb, h.2 q hq hb]⟩
theorem Kp.app {L : List AObj} (X : List AObj) (b : Nat) : Kp L (L ++ X) b := ⟨by simp, fun q hq _ => List.getElem?_append_left hq⟩
structure Tk (xv : V) (xs : List Int) : Prop where
  hx : IsI xv xs
  hin : ∀ x ∈ xs, In64 x
  hxl : xs.length < 2 ^ 63
def Has (L : List AObj) (b : Nat) (xv : V) (xs : List Int) : Prop := ∃ a : Nat, a ≤ xs.length ∧ L[b]? = some (tk xv a)
theorem Has.lt {L : List AObj} {b : Nat} {xv : V} {xs : List Int} (h : Has L b xv xs) : b < L.length := by
  obtain ⟨a, _, h⟩ := h
  exact (List.getElem?_eq_some_iff.1 h).1
theorem Has.app {L : List AObj} {b : Nat} {xv : V} {xs : List Int} (h : Has L b xv xs) (X : List AObj) : Has (L ++ X) b xv xs := by
  have := h.lt
  obtain ⟨a, h1, h2⟩ := h
  exact ⟨a, h1, by rw [List.getElem?_append_left this]; exact h2⟩
theorem take_at {xv : V} {xs : List Int} (K : Tk xv xs) {L : List AObj} {b : Nat} (h : Has L b xv xs) (n : Int) (hn : In64 n) :
    ∃ (r : Int) (L' : List AObj), (∀ ts, callFn env (ev env) 112 [.ptr b 0, .int .i64 n] ⟨L, ts⟩ = some (.int .i64 r, ⟨L', ts⟩)) ∧ Has L' b xv xs ∧ Kp L L' b ∧ L'.length = L.length ∧ 0 ≤ r ∧ (1 ≤ n → r < n) ∧ (n < 1 → r = 0) := by
  have hb := h.lt
  obtain ⟨a, ha, hg⟩ := h
  obtain ⟨r, a', h1, h2, h3, h4, h5⟩ := take_call L b xv xs K.hx K.hin K.hxl hb a ha n hn
  have e : L.set b (tk xv a) = L := by
    have : L[b] = tk xv a := by rw [List.getElem?_eq_getElem hb] at hg; exact Option.some.inj hg
    rw [← this]; exact List.set_getElem_self hb
  rw [e] at h1
  exact ⟨r, L.set b (tk xv a'), h1, ⟨a', h2, List.getElem?_set_self hb⟩, ⟨by simp, fun q hq hqb => List.getElem?_set_ne (Ne.symm hqb)⟩, by simp, h3, h4, h5⟩
theorem take_ext {xv : V} {xs : List Int} (K : Tk xv xs) {L : List AObj} {b : Nat} (h : Has L b xv xs) (n : Int) (hn : In64 n) :
    ∃ (r : Int) (L' : List AObj), (∀ X ts, callFn env (ev env) 112 [.ptr b 0, .int .i64 n] ⟨L ++ X, ts⟩ = some (.int .i64 r, ⟨L' ++ X, ts⟩)) ∧ Has L' b xv xs ∧ Kp L L' b ∧ L'.length = L.length ∧ 0 ≤ r ∧ (1 ≤ n → r < n) ∧ (n < 1 → r = 0) := by
  have hb := h.lt
  obtain ⟨a, ha, hg⟩ := h
  obtain ⟨r, a', h1, h2, h3, h4, h5⟩ := take_gen xv xs K.hx K.hin K.hxl a ha n hn
  have e : L.set b (tk xv a) = L := by
    have : L[b] = tk xv a := by rw [List.getElem?_eq_getElem hb] at hg; exact Option.some.inj hg
    rw [← this]; exact List.set_getElem_self hb
  refine ⟨r, L.set b (tk xv a'), fun X ts => ?_, ⟨a', h2, List.getElem?_set_self hb⟩, ⟨by simp, fun q hq hqb => List.getElem?_set_ne (Ne.symm hqb)⟩, by simp, h3, h4, h5⟩
  have := h1 (L ++ X) b ts (by simp; omega)
  rw [List.set_append_left _ _ hb, List.set_append_left _ _ hb, e] at this
  exact this
theorem at129 : env.P.funcs[129]? = some Tryd.f129 := by kernel_rfl
theorem at113 : env.P.funcs[113]? = some Tryd.f113 := by kernel_rfl
theorem at111 : env.P.funcs[111]? = some Tryd.f111 := by kernel_rfl
theorem at110 : env.P.funcs[110]? = some Tryd.f110 := by kernel_rfl
theorem eW : Elt env 24 9 1 16 := ⟨by kernel_rfl, by kernel_rfl, by kernel_rfl, by kernel_rfl, by kernel_rfl⟩
theorem rowW0 : rowO env 24 0 [] = some (.row [] 0 .full) := by kernel_rfl
theorem rowW4 (a b c d : List UInt8) : rowO env 24 4 [(0, .str a), (1, .str b), (2, .str c), (3, .str d)] = some (.row [.str a, .str b, .str c, .str d] 4 .full) := by kernel_rfl
theorem rowW5 (a b c d e : List UInt8) : rowO env 24 5 [(0, .str a), (1, .str b), (2, .str c), (3, .str d), (4, .str e)] = some (.row [.str a, .str b, .str c, .str d, .str e] 5 .full) := by kernel_rfl
def rowW (ws : List (List UInt8)) : V := .row (ws.map V.str) ws.length .unk
theorem rowW_is (ws : List (List UInt8)) : IsW (rowW ws) ws := .inr rfl
theorem strs_cell : ∀ ws : List (List UInt8), (ws.map V.str).all V.isCell = true
  | [] => rfl
  | w :: ws => by simp only [List.map_cons, List.all_cons, V.isCell, strs_cell ws, Bool.and_self]
theorem own_call (w : V) (ws : List (List UInt8)) (h : IsW w ws) (hl : ws.length ≤ 1000) (σ : S) : callFn env (ev env) 129 [w] σ = some (rowW ws, σ) := by
  refine callFn_pure rfl rfl (by simp only [List.all_cons, List.all_nil, closed_W h]; rfl) at129 rfl (by simp [Tryd.f129]) (by simp [Tryd.f129]) (G_start ?_) σ
  have hlim : lim = 2 ^ 40 := rfl
  have g0 : GrowV 0 [] 1 (.row [] 0 .full) 0 [] := .full _ _ rfl
  by_cases hz : ws = []
  · subst hz
    have hA : appO env false ⟨[], []⟩ 24 24 (.row [] 0 .full) w = some (.row [] 0 .full, ⟨[], []⟩) := by rcases h with ⟨rfl, _⟩ | rfl <;> kernel_rfl
    simp -implicitDefEqProofs only [Tryd.f129,Wa,Wb,Wc,Wd,We,Wf,Wg,Wh,Wi,Wj,Wk,Wl,Wm,Wn,Zo,Zp,evalT,Nat.reduceLT,Nat.reduceEqDiff,if_true,if_false,reduceIte,Ys,ofVal,ofCell,argT,resT,setT,Y0,Int.reduceEq,Int.reduceLT,Int.reduceLE,Int.reduceNeg,mb,Nat.reduceBEq,tys,stb,Va,storeList,Nat.reduceAdd,Nat.reduceLeDiff,empty_mk,opT_rowO,rowW0,hA]
    rfl
  have hpos : 0 < ws.length := by
    cases ws with
    | nil => exact absurd rfl hz
    | cons x ws => simp
  have hv : vLen w = some ws.length ∧ vCells [] 1 ws.length w = some (ws.map V.str) := by
    rcases h with ⟨rfl, rfl⟩ | rfl
    · exact ⟨rfl, rfl⟩
    · refine ⟨rfl, ?_⟩
      simp only [vCells, List.length_map, Nat.mul_one]
      rw [if_pos ⟨Nat.le_refl _, Nat.le_refl _⟩, List.take_of_length_le (by simp)]
  obtain ⟨v', ts', hA, hg, _⟩ := GrowV.append (E := env) (hp := []) (y := w) eW ⟨9, eW.slice⟩ g0 (Nat.zero_le _) hv.1 hv.2 (by simp) (strs_cell ws) ⟨by rw [hlim]; omega, by rw [hlim]; omega⟩
  simp -implicitDefEqProofs only [Tryd.f129,Wa,Wb,Wc,Wd,We,Wf,Wg,Wh,Wi,Wj,Wk,Wl,Wm,Wn,Zo,Zp,evalT,Nat.reduceLT,Nat.reduceEqDiff,if_true,if_false,reduceIte,Ys,ofVal,ofCell,argT,resT,setT,Y0,Int.reduceEq,Int.reduceLT,Int.reduceLE,Int.reduceNeg,mb,Nat.reduceBEq,tys,stb,Va,storeList,Nat.reduceAdd,Nat.reduceLeDiff,empty_mk,opT_rowO,rowW0,hA]
  rw [List.nil_append, Nat.zero_add] at hg
  obtain ⟨q, rfl⟩ := hg.isrow hpos
  change sealV [] 12 (V.row (List.map V.str ws) ws.length q) = _
  rw [sealV_row, seal_strs]; rfl
theorem ld4_0 (a b c d : V) (t : TypeId) (X : List AObj) : loadCellsV (.cells [a, b, c, d] t :: X) 4 (.ptr 0 0) = some [a, b, c, d] := rfl
theorem seal46 (h : List AObj) (nm : List UInt8) (lo hi : Int) (ws : List (List UInt8)) : sealV h 12 (.agg [.str nm, .int .i64 lo, .int .i64 hi, .row (ws.map V.str) ws.length .unk]) = some (.agg [.str nm, .int .i64 lo, .int .i64 hi, .row (ws.map V.str) ws.length .unk]) := by
  rw [sealV_agg, mapM_seal_cons, mapM_seal_cons, mapM_seal_cons, mapM_seal_cons, mapM_seal_nil, sealV_str, sealV_int, sealV_int, sealV_row, seal_strs]; rfl
theorem copy_call (c : Col) (h : IsW c.w c.ws) (hl : c.ws.length ≤ 1000) (σ : S) : callFn env (ev env) 113 [aggC c] σ = some (.agg [.str c.name, .int .i64 c.lo, .int .i64 c.hi, rowW c.ws], σ) := by
  obtain ⟨nm, lo, hi, w, ws⟩ := c
  simp only at h hl ⊢
  have hic := isCell_W h
  have hO := own_call w ws h hl
  refine callFn_pure rfl rfl (by simp only [aggC, List.all_cons, List.all_nil, V.closed, V.closed.closedL, closed_W h]; rfl) at113 rfl (by simp [Tryd.f113]) (by simp [Tryd.f113]) (G_start ?_) σ
  unfold rowW at hO ⊢
  simp -implicitDefEqProofs only [Tryd.f113,Wa,Wb,Wc,Wd,We,Wf,Wg,Wh,Wi,Wj,Wk,Wl,Wm,Wn,Zo,Zp,evalT,Nat.reduceLT,Nat.reduceEqDiff,if_true,if_false,reduceIte,Ys,ofVal,ofCell,argT,resT,setT,Y0,Int.reduceEq,Int.reduceLT,Int.reduceLE,Int.reduceNeg,mb,Nat.reduceBEq,tys,stb,Va,storeList,Nat.reduceAdd,Nat.reduceLeDiff,empty_mk,aggC,hO,isCell_int,isCell_str,hic,ld4_0]
  refine V1i rfl ?_
  exact seal46 _ nm lo hi ws
def reds : List (List UInt8) := [[114, 101, 100], [103, 114, 101, 101, 110], [98, 108, 117, 101], [103, 114, 101, 121], [112, 105, 110, 107]]
def ages : List (List UInt8) := [[97, 103, 101], [99, 111, 108, 111, 117, 114], [104, 101, 105, 103, 104, 116], [112, 108, 97, 99, 101], [115, 99, 111, 114, 101]]
def tabs : List (List UInt8) := [[112, 101, 111, 112, 108, 101], [118, 105, 115, 105, 116, 115], [112, 108, 97, 99, 101, 115], [110, 111, 116, 101, 115]]
theorem names0_call (σ : S) : callFn env (ev env) 111 [.int .i64 0] σ = some (rowW tabs, σ) := by
  refine callFn_pure rfl rfl rfl at111 rfl (by simp [Tryd.f111]) (by simp [Tryd.f111]) (G_start ?_) σ
  simp -implicitDefEqProofs only [Tryd.f111,Wa,Wb,Wc,Wd,We,Wf,Wg,Wh,Wi,Wj,Wk,Wl,Wm,Wn,Zo,Zp,evalT,Nat.reduceLT,Nat.reduceEqDiff,if_true,if_false,reduceIte,Ys,ofVal,ofCell,argT,resT,setT,Y0,Int.reduceEq,Int.reduceLT,Int.reduceLE,Int.reduceNeg,mb,Nat.reduceBEq,tys,stb,Va,storeList,Nat.reduceAdd,Nat.reduceLeDiff,empty_mk,opT_rowO,rowW4,rowW5]
  rfl
theorem names1_call (σ : S) : callFn env (ev env) 111 [.int .i64 1] σ = some (rowW ages, σ) := by
  refine callFn_pure rfl rfl rfl at111 rfl (by simp [Tryd.f111]) (by simp [Tryd.f111]) (G_start ?_) σ
  simp -implicitDefEqProofs only [Tryd.f111,Wa,Wb,Wc,Wd,We,Wf,Wg,Wh,Wi,Wj,Wk,Wl,Wm,Wn,Zo,Zp,evalT,Nat.reduceLT,Nat.reduceEqDiff,if_true,if_false,reduceIte,Ys,ofVal,ofCell,argT,resT,setT,Y0,Int.reduceEq,Int.reduceLT,Int.reduceLE,Int.reduceNeg,mb,Nat.reduceBEq,tys,stb,Va,storeList,Nat.reduceAdd,Nat.reduceLeDiff,empty_mk,opT_rowO,rowW4,rowW5]
  rfl
theorem names2_call (σ : S) : callFn env (ev env) 111 [.int .i64 2] σ = some (rowW reds, σ) := by
  refine callFn_pure rfl rfl rfl at111 rfl (by simp [Tryd.f111]) (by simp [Tryd.f111]) (G_start ?_) σ
  simp -implicitDefEqProofs only [Tryd.f111,Wa,Wb,Wc,Wd,We,Wf,Wg,Wh,Wi,Wj,Wk,Wl,Wm,Wn,Zo,Zp,evalT,Nat.reduceLT,Nat.reduceEqDiff,if_true,if_false,reduceIte,Ys,ofVal,ofCell,argT,resT,setT,Y0,Int.reduceEq,Int.reduceLT,Int.reduceLE,Int.reduceNeg,mb,Nat.reduceBEq,tys,stb,Va,storeList,Nat.reduceAdd,Nat.reduceLeDiff,empty_mk,opT_rowO,rowW4,rowW5]
  rfl
def KitC (nm : List UInt8) (c : Col) : Prop := c.name = nm ∧ ((c.w = .nilsl ∧ c.ws = [] ∧ -3 ≤ c.lo ∧ c.lo ≤ c.hi ∧ c.hi ≤ 20) ∨ ∃ k, 1 ≤ k ∧ k ≤ 5 ∧ c.ws = reds.take k ∧ c.w = rowW (reds.take k) ∧ c.lo = 0 ∧ c.hi = (k : Int) - 1)
theorem build46n (s : List UInt8) : buildO env 44 [(0, .str s)] = some (.agg [.str s, .int .i64 0, .int .i64 0, .nilsl]) := by kernel_rfl
theorem slice_red1 : sliceO env 24 (rowW reds) none (some (.int .i64 1)) none = some (rowW (reds.take 1)) := by kernel_rfl
theorem slice_red2 : sliceO env 24 (rowW reds) none (some (.int .i64 2)) none = some (rowW (reds.take 2)) := by kernel_rfl
theorem slice_red3 : sliceO env 24 (rowW reds) none (some (.int .i64 3)) none = some (rowW (reds.take 3)) := by kernel_rfl
theorem slice_red4 : sliceO env 24 (rowW reds) none (some (.int .i64 4)) none = some (rowW (reds.take 4)) := by kernel_rfl
theorem slice_red5 : sliceO env 24 (rowW reds) none (some (.int .i64 5)) none = some (rowW (reds.take 5)) := by kernel_rfl
theorem slice_reds (k : Nat) (h1 : 1 ≤ k) (h2 : k ≤ 5) : sliceO env 24 (rowW reds) none (some (.int .i64 k)) none = some (rowW (reds.take k)) := by
  have h : k = 1 ∨ k = 2 ∨ k = 3 ∨ k = 4 ∨ k = 5 := by omega
  rcases h with rfl | rfl | rfl | rfl | rfl
  · exact slice_red1
  · exact slice_red2
  · exact slice_red3
  · exact slice_red4
  · exact slice_red5
theorem ld4_at {h : List AObj} {n : Nat} {a b c d : V} {t : TypeId} (hh : h[n]? = some (.cells [a, b, c, d] t)) : loadCellsV h 4 (.ptr n 0) = some [a, b, c, d] := by simp [loadCellsV, hh]
theorem column65_call {xv : V} {xs : List Int} (K : Tk xv xs) {L : List AObj} {b : Nat} (hH : Has L b xv xs) (nm : List UInt8) (ts : List Nat) :
    ∃ v σ', callFn env (ev env) 110 [.ptr b 0, .str nm] ⟨L, ts⟩ = some (v, σ') ∧ ∃ (c : Col) (L' : List AObj), v = aggC c ∧ σ' = ⟨L', ts⟩ ∧ Has L' b xv xs ∧ Kp L L' b ∧ KitC nm c := by
  have hbl := hH.lt
  obtain ⟨k1, M1, hT1, hH1, hK1, hl1, p1, p2, _⟩ := take_at K ((hH.app [AObj.cells [V.str [], V.int IntKind.i64 0, V.int IntKind.i64 0, V.nilsl] 44]).app [AObj.cells [V.str nm, V.int IntKind.i64 0, V.int IntKind.i64 0, V.nilsl] 44]) 3 (by simp [In64])
  refine callFn_any rfl rfl at110 rfl (by simp [Tryd.f110]) (by simp [Tryd.f110]) (G_start ?_)
  have b46 := build46n nm
  have hlen : (L ++ [AObj.cells [V.str [], V.int IntKind.i64 0, V.int IntKind.i64 0, V.nilsl] 44]).length = L.length + 1 := by simp
  have hN2 := names2_call
  have hp2 := p2 (by decide)
  have hG1 : M1[(L ++ [AObj.cells [V.str [], V.int IntKind.i64 0, V.int IntKind.i64 0, V.nilsl] 44]).length]? = some (.cells [V.str nm, V.int IntKind.i64 0, V.int IntKind.i64 0, V.nilsl] 44) := by
    rw [hK1.2 _ (by simp) (by omega)]; exact heap_end _ _
  have hZ1 : M1[L.length]? = some (.cells [V.str [], V.int IntKind.i64 0, V.int IntKind.i64 0, V.nilsl] 44) := by
    rw [hK1.2 _ (by simp) (by omega), List.getElem?_append_left (by simp)]; exact heap_end _ _
  have hKL1 : Kp L M1 b := ((Kp.app _ _).trans (Kp.app _ _)).trans hK1
  have hE1 : ∀ c : AObj, (L ++ [AObj.cells [V.str [], V.int IntKind.i64 0, V.int IntKind.i64 0, V.nilsl] 44] ++ [c])[(L ++ [AObj.cells [V.str [], V.int IntKind.i64 0, V.int IntKind.i64 0, V.nilsl] 44]).length]? = some c := fun c => heap_end _ _
  have hE2 : ∀ c d : AObj, (L ++ [AObj.cells [V.str [], V.int IntKind.i64 0, V.int IntKind.i64 0, V.nilsl] 44] ++ [c]).set (L ++ [AObj.cells [V.str [], V.int IntKind.i64 0, V.int IntKind.i64 0, V.nilsl] 44]).length d = L ++ [AObj.cells [V.str [], V.int IntKind.i64 0, V.int IntKind.i64 0, V.nilsl] 44] ++ [d] := fun c d => set_end _ _ _
  generalize hPe : (L ++ [AObj.cells [V.str [], V.int IntKind.i64 0, V.int IntKind.i64 0, V.nilsl] 44]).length = P at *
  have seto : ∀ (M : List AObj) (X Y : AObj), M[P]? = some X → (M.set P Y)[P]? = some Y := fun M X Y h => List.getElem?_set_self (List.getElem?_eq_some_iff.1 h).1
  have setz : ∀ (M : List AObj) (Y : AObj), (M.set P Y)[L.length]? = M[L.length]? := fun M Y => List.getElem?_set_ne (by omega)
  have keep : ∀ (M : List AObj) (Y Z : AObj), Has M b xv xs → Kp L M b → Has ((M.set P Y).set L.length Z) b xv xs ∧ Kp L ((M.set P Y).set L.length Z) b := fun M Y Z h1 h2 => by
    obtain ⟨a, e1, e2⟩ := h1
    refine ⟨⟨a, e1, by rw [List.getElem?_set_ne (by omega), List.getElem?_set_ne (by omega)]; exact e2⟩, by have := h2.1; simp; omega, fun q hq hqb => ?_⟩
    rw [List.getElem?_set_ne (by omega), List.getElem?_set_ne (by omega)]; exact h2.2 q hq hqb
  by_cases h1 : k1 = 1
  · have g1 : (k1 = 1) = True := eq_true h1
    obtain ⟨k2, M2, hT2, hH2, hK2, hl2, p3, p4, _⟩ := take_at K hH1 5 (by simp [In64])
    have hp4 := p4 (by decide)
    obtain ⟨k, hk⟩ : ∃ k : Nat, 1 + k2 = (k : Int) := ⟨(1 + k2).toNat, by omega⟩
    have e1 : IntKind.i64.wrap (1 + k2) = (k : Int) := by rw [wrap_i64 (by omega) (by omega)]; exact hk
    have hsl := slice_reds k (by omega) (by omega)
    have hrl : (reds.take k).length = k := by simp [reds]; omega
    have hO := own_call (rowW (reds.take k)) (reds.take k) (rowW_is _) (by omega)
    have e2 : IntKind.i64.wrap ((k : Int) - 1) = (k : Int) - 1 := wrap_i64 (by omega) (by omega)
    have hG2 : M2[P]? = some (.cells [V.str nm, V.int IntKind.i64 0, V.int IntKind.i64 0, V.nilsl] 44) := by rw [hK2.2 _ (List.getElem?_eq_some_iff.1 hG1).1 (by omega)]; exact hG1
    have hZ2 : M2[L.length]? = some (.cells [V.str [], V.int IntKind.i64 0, V.int IntKind.i64 0, V.nilsl] 44) := by rw [hK2.2 _ (List.getElem?_eq_some_iff.1 hZ1).1 (by omega)]; exact hZ1
    have hs := fun Y => seto M2 _ Y hG2
    have hz := fun Y => (setz M2 Y).trans hZ2
    have hll : ∀ e, vLenT (some (.slice e)) (rowW (reds.take k)) = some (.int .i64 k) := fun e => by unfold rowW; rw [hrl]; rfl
    have hwc : (rowW (reds.take k)).isCell = true := rfl
    have hwc2 : (rowW (reds.take k)).cells = [rowW (reds.take k)] := rfl
    have hkp := keep M2 (.cells [V.str nm, V.int IntKind.i64 0, V.int IntKind.i64 ((k : Int) - 1), rowW (reds.take k)] 44) (.cells [V.str nm, V.int IntKind.i64 0, V.int IntKind.i64 ((k : Int) - 1), rowW (reds.take k)] 44) hH2 (hKL1.trans hK2)
    generalize hw : rowW (reds.take k) = w at *
    have hl4 := ld4_at (hs (.cells [V.str nm, V.int IntKind.i64 0, V.int IntKind.i64 ((k : Int) - 1), w] 44))
    simp -implicitDefEqProofs only [Tryd.f110,Wa,Wb,Wc,Wd,We,Wf,Wg,Wh,Wi,Wj,Wk,Wl,Wm,Wn,Zo,Zp,evalT,Nat.reduceLT,Nat.reduceEqDiff,if_true,if_false,reduceIte,Ys,ofVal,ofCell,argT,resT,setT,Y0,Int.reduceEq,Int.reduceLT,Int.reduceLE,Int.reduceNeg,mb,Nat.reduceBEq,tys,stb,Va,storeList,Nat.reduceAdd,Nat.reduceLeDiff,empty_mk,b46,isCell_int,isCell_str,isCell_nilsl,hT1,g1,heap_end,set_end,hN2,hT2,e1,opT_slice,optO_none,optO_some,hsl,hO,hG2,hwc,hwc2,hs,List.set_set,hll,e2,hl4,hz,hPe,hE1,hE2]
    refine V1i (v := [.agg [V.str nm, V.int IntKind.i64 0, V.int IntKind.i64 ((k : Int) - 1), w]]) (by rw [ld4_at (List.getElem?_set_self (List.getElem?_eq_some_iff.1 (hz _)).1)]; rfl) ?_
    exact ⟨⟨nm, 0, (k : Int) - 1, w, reds.take k⟩, _, rfl, rfl, hkp.1, hkp.2, rfl, .inr ⟨k, by omega, by omega, rfl, hw.symm, rfl, rfl⟩⟩
  · have g1 : (k1 = 1) = False := eq_false h1
    obtain ⟨k2, M2, hT2, hH2, hK2, hl2, p3, p4, _⟩ := take_at K hH1 9 (by simp [In64])
    have hp4 := p4 (by decide)
    have e1 : IntKind.i64.wrap (k2 - 3) = k2 - 3 := wrap_i64 (by omega) (by omega)
    have hG2 : M2[P]? = some (.cells [V.str nm, V.int IntKind.i64 0, V.int IntKind.i64 0, V.nilsl] 44) := by rw [hK2.2 _ (List.getElem?_eq_some_iff.1 hG1).1 (by omega)]; exact hG1
    have hZ2 : M2[L.length]? = some (.cells [V.str [], V.int IntKind.i64 0, V.int IntKind.i64 0, V.nilsl] 44) := by rw [hK2.2 _ (List.getElem?_eq_some_iff.1 hZ1).1 (by omega)]; exact hZ1
    have hs2 := seto M2 _ (.cells [V.str nm, V.int IntKind.i64 (k2 - 3), V.int IntKind.i64 0, V.nilsl] 44) hG2
    have hz2 := (setz M2 (.cells [V.str nm, V.int IntKind.i64 (k2 - 3), V.int IntKind.i64 0, V.nilsl] 44)).trans hZ2
    have hH2' : Has (M2.set P (.cells [V.str nm, V.int IntKind.i64 (k2 - 3), V.int IntKind.i64 0, V.nilsl] 44)) b xv xs := by
      obtain ⟨a, a1, a2⟩ := hH2
      exact ⟨a, a1, by rw [List.getElem?_set_ne (by omega)]; exact a2⟩
    have hKL2 : Kp L (M2.set P (.cells [V.str nm, V.int IntKind.i64 (k2 - 3), V.int IntKind.i64 0, V.nilsl] 44)) b := by
      have h2 := hKL1.trans hK2
      exact ⟨by have := h2.1; simp; omega, fun q hq hqb => by rw [List.getElem?_set_ne (by omega)]; exact h2.2 q hq hqb⟩
    obtain ⟨k3, M3, hT3, hH3, hK3, hl3, p5, p6, _⟩ := take_at K hH2' 8 (by simp [In64])
    have hp6 := p6 (by decide)
    have e3 : IntKind.i64.wrap (k2 - 3 + k3) = k2 - 3 + k3 := wrap_i64 (by omega) (by omega)
    have hG3 : M3[P]? = some (.cells [V.str nm, V.int IntKind.i64 (k2 - 3), V.int IntKind.i64 0, V.nilsl] 44) := by rw [hK3.2 _ (by have := (List.getElem?_eq_some_iff.1 hs2).1; omega) (by omega)]; exact hs2
    have hZ3 : M3[L.length]? = some (.cells [V.str [], V.int IntKind.i64 0, V.int IntKind.i64 0, V.nilsl] 44) := by rw [hK3.2 _ (by have := (List.getElem?_eq_some_iff.1 hz2).1; omega) (by omega)]; exact hz2
    have hs := fun Y => seto M3 _ Y hG3
    have hz := fun Y => (setz M3 Y).trans hZ3
    have hkp := keep M3 (.cells [V.str nm, V.int IntKind.i64 (k2 - 3), V.int IntKind.i64 (k2 - 3 + k3), V.nilsl] 44) (.cells [V.str nm, V.int IntKind.i64 (k2 - 3), V.int IntKind.i64 (k2 - 3 + k3), V.nilsl] 44) hH3 (hKL2.trans hK3)
    have hl4 := ld4_at (hs (.cells [V.str nm, V.int IntKind.i64 (k2 - 3), V.int IntKind.i64 (k2 - 3 + k3), V.nilsl] 44))
    simp -implicitDefEqProofs only [Tryd.f110,Wa,Wb,Wc,Wd,We,Wf,Wg,Wh,Wi,Wj,Wk,Wl,Wm,Wn,Zo,Zp,evalT,Nat.reduceLT,Nat.reduceEqDiff,if_true,if_false,reduceIte,Ys,ofVal,ofCell,argT,resT,setT,Y0,Int.reduceEq,Int.reduceLT,Int.reduceLE,Int.reduceNeg,mb,Nat.reduceBEq,tys,stb,Va,storeList,Nat.reduceAdd,Nat.reduceLeDiff,empty_mk,b46,isCell_int,isCell_str,isCell_nilsl,hT1,g1,heap_end,set_end,hT2,e1,hG2,hPe,hE1,hE2]
    refine G_stab rfl (fun s => cellAt s.heap[P]? 1 = some (V.int IntKind.i64 (k2 - 3))) (by rw [hs2]; rfl) (by kernel_rfl) ?_
    simp -implicitDefEqProofs only [Wa,Wb,Wc,Wd,We,Wf,Wg,Wh,Wi,Wj,Wk,Wl,Wm,Wn,Zo,Zp,evalT,Nat.reduceLT,Nat.reduceEqDiff,if_true,if_false,reduceIte,Ys,ofVal,ofCell,argT,resT,setT,Y0,Int.reduceEq,Int.reduceLT,Int.reduceLE,Int.reduceNeg,mb,Nat.reduceBEq,tys,stb,Va,storeList,Nat.reduceAdd,Nat.reduceLeDiff,isCell_int,isCell_str,isCell_nilsl,hs2,hT3,e3,hG3,hs,List.set_set,hl4,hz,sc_take,sc_load,sc_move,sc_indexAddr,sc_fieldAddr,rd_fieldAddr,sc_build',rd_build',rd_bs,sc_binOp,rd_binOp,sc_assign,rd_assign,sc_store,rd_store,rd_load,rd_move,rd_indexAddr,rd_call,aread_load]
    refine ⟨fun s h => h, V1i (v := [.agg [V.str nm, V.int IntKind.i64 (k2 - 3), V.int IntKind.i64 (k2 - 3 + k3), V.nilsl]]) (by rw [ld4_at (List.getElem?_set_self (List.getElem?_eq_some_iff.1 (hz _)).1)]; rfl) ?_⟩
    exact ⟨⟨nm, k2 - 3, k2 - 3 + k3, .nilsl, []⟩, _, rfl, rfl, hkp.1, hkp.2, rfl, .inl ⟨rfl, rfl, by simp only; omega, by simp only; omega, by simp only; omega⟩⟩
end Go.Proofs.YtbikmhpobflfeaaDoor.F
namespace Go.Proofs.YtbikmhpobflfeaaDoor.F
open Go.Ab
set_option maxHeartbeats 4000000
set_option maxHeartbeats 4000000
set_option maxRecDepth 100000
set_option linter.unusedSimpArgs false
set_option linter.unusedVariables false
set_option linter.unusedSectionVars false
theorem at80 : env.P.funcs[80]? = some Tryd.f80 := by kernel_rfl
theorem at47 : env.P.funcs[47]? = some Tryd.f47 := by kernel_rfl
theorem tysc : env.P.underlying 36 = some (.slice 29) ∧ sz env 29 = some 4 ∧ fldOff env 29 0 = some 0 ∧ fldOff env 29 1 = some 1 ∧ fldOff env 29 2 = some 2 ∧ fldOff env 29 3 = some 3 ∧ (∀ h p, aload env h 29 p = (loadCellsV h 4 p).map .agg) ∧ zeroV env 29 = some (.agg [.str [], .bool false, .int .i64 0, .nilsl]) := by
  have g36 : aggT env 29 = some true := by kernel_rfl
  have s36 : sz env 29 = some 4 := by kernel_rfl
  exact ⟨by kernel_rfl, s36, by kernel_rfl, by kernel_rfl, by kernel_rfl, by kernel_rfl, fun h p => by unfold aload; rw [g36, s36]; rfl, by kernel_rfl⟩
theorem eS : Elt env 36 29 4 56 := ⟨by kernel_rfl, by kernel_rfl, by kernel_rfl, by kernel_rfl, by kernel_rfl⟩
theorem rowS1 (a b c d : V) : rowO env 36 1 [(0, .agg [a, b, c, d])] = some (.row [a, b, c, d] 1 .full) := by kernel_rfl
theorem build36 (s : List UInt8) (n : Int) : buildO env 29 [(0, .str s), (2, .int .i64 n)] = some (.agg [.str s, .bool false, .int .i64 n, .nilsl]) := by kernel_rfl
theorem idx_ages {j : Nat} (h : j < 5) : ∃ r, vIndexAddr 1 (rowW ages) (.int .i64 j) = some (.rptr (.str (ages.getD j []) :: r)) := by
  match j, h with
  | 0, _ => exact ⟨_, rfl⟩
  | 1, _ => exact ⟨_, rfl⟩
  | 2, _ => exact ⟨_, rfl⟩
  | 3, _ => exact ⟨_, rfl⟩
  | 4, _ => exact ⟨_, rfl⟩
theorem cells_bool (b : Bool) : (V.bool b).cells = [.bool b] := rfl
theorem ia_build (t : TypeId) (ps : Array (Nat × Operand)) : isAlloc (.build t ps) = false := rfl
theorem ia_fcall (f : FuncId) (ag : Array Operand) (ts : Array TypeId) : isAlloc (.call ⟨.value (.func f), ag, ts⟩) = false := rfl
theorem idx_tabs {j : Nat} (h : j < 3) : ∃ r, vIndexAddr 1 (rowW tabs) (.int .i64 j) = some (.rptr (.str (tabs.getD j []) :: r)) := by
  match j, h with
  | 0, _ => exact ⟨_, rfl⟩
  | 1, _ => exact ⟨_, rfl⟩
  | 2, _ => exact ⟨_, rfl⟩
theorem KitC.is {nm : List UInt8} {c : Col} (h : KitC nm c) : IsW c.w c.ws ∧ c.ws.length ≤ 5 := by
  rcases h.2 with ⟨h1, h2, _⟩ | ⟨k, h1, h2, h3, h4, _⟩
  · exact ⟨.inl ⟨h1, h2⟩, by rw [h2]; simp⟩
  · refine ⟨by rw [h3, h4]; exact rowW_is _, by rw [h3]; simp; omega⟩
def AllC (cs : List Col) : Prop := ∀ j, j < cs.length → KitC (ages.getD j []) (cs.getD j Col.none)
theorem AllC.add {cs : List Col} (h : AllC cs) {c : Col} (hc : KitC (ages.getD cs.length []) c) : AllC (cs ++ [c]) := fun j hj => by
  rw [List.length_append, List.length_singleton] at hj
  by_cases e : j < cs.length
  · have : (cs ++ [c]).getD j Col.none = cs.getD j Col.none := by simp only [List.getD]; rw [List.getElem?_append_left e]
    rw [this]; exact h j e
  · have : j = cs.length := by omega
    subst this
    have : (cs ++ [c]).getD cs.length Col.none = c := by simp [List.getD]
    rw [this]; exact hc
theorem KitC.copy {j : Nat} (hj : j < 5) {c : Col} (h : KitC (ages.getD j []) c) : Kit ⟨c.name, c.lo, c.hi, rowW c.ws, c.ws⟩ := by
  refine ⟨⟨j, hj, h.1⟩, rfl, ?_⟩
  rcases h.2 with ⟨_, h2, h3⟩ | ⟨k, h1, h2, h3, _, h5⟩
  · exact .inl ⟨h2, h3⟩
  · exact .inr ⟨k, h1, h2, h3, h5⟩
def Up (ds : List Col) (k : Nat) : Prop := (∀ c ∈ ds, Kit c) ∧ ∃ js : List Nat, ds.map Col.name = js.map (fun j => ages.getD j []) ∧ js.Pairwise (· < ·) ∧ ∀ j ∈ js, j < k
theorem Up.nil (k : Nat) : Up [] k := ⟨fun c h => by simp at h, [], rfl, .nil, fun j h => by simp at h⟩
theorem Up.mono {ds : List Col} {k : Nat} (h : Up ds k) : Up ds (k + 1) := by
  obtain ⟨h1, js, h2, h3, h4⟩ := h
  exact ⟨h1, js, h2, h3, fun j hj => by have := h4 j hj; omega⟩
theorem Up.add {ds : List Col} {k : Nat} (h : Up ds k) {c : Col} (hc : Kit c) (hn : c.name = ages.getD k []) : Up (ds ++ [c]) (k + 1) := by
  obtain ⟨h1, js, h2, h3, h4⟩ := h
  refine ⟨fun d hd => ?_, js ++ [k], by simp [h2, hn], ?_, fun j hj => ?_⟩
  · rcases List.mem_append.1 hd with hd | hd
    · exact h1 d hd
    · rw [List.mem_singleton.1 hd]; exact hc
  · rw [List.pairwise_append]
    exact ⟨h3, by simp, fun a ha b hb => by rw [List.mem_singleton.1 hb]; exact h4 a ha⟩
  · rcases List.mem_append.1 hj with hj | hj
    · have := h4 j hj; omega
    · rw [List.mem_singleton.1 hj]; omega
theorem Up.fine {ds : List Col} (h : Up ds 5) : Fine ds := by
  obtain ⟨h1, js, h2, h3, h4⟩ := h
  have hlen : ds.length = js.length := by have := congrArg List.length h2; simpa using this
  have hnm : ∀ i (hi : i < ds.length) (hj : i < js.length), (ds.getD i Col.none).name = ages.getD js[i] [] := fun i hi hj => by
    have := congrArg (fun l => l[i]?) h2
    simp only [List.getElem?_map, List.getElem?_eq_getElem hi, List.getElem?_eq_getElem hj, Option.map_some, Option.some.injEq] at this
    rw [List.getD, List.getElem?_eq_getElem hi]; exact this
  refine ⟨fun i hi => by rw [List.getD, List.getElem?_eq_getElem hi]; exact h1 _ (List.getElem_mem hi), fun k i hk hi hne e => ?_⟩
  rw [hnm k hk (by omega), hnm i hi (by omega)] at e
  have e2 := ages_inj _ (h4 _ (List.getElem_mem _)) _ (h4 _ (List.getElem_mem _)) e
  rw [List.pairwise_iff_getElem] at h3
  rcases Nat.lt_or_ge k i with hlt | hge
  · have := h3 k i (by omega) (by omega) hlt; omega
  · have := h3 i k (by omega) (by omega) (by omega); omega
def GS (j : Nat) (s : Sch) : Prop := FineS j s ∧ ∃ q, s.cv = .row (flatC s.cs) s.cs.length q
def AllS (cells : List V) (i : Nat) (l : List Sch) : Prop := cells = flatS l ∧ l.length = i ∧ ∀ j, j < i → GS j (l.getD j Sch.none)
theorem flatS_app (a b : List Sch) : flatS (a ++ b) = flatS a ++ flatS b := by simp [flatS]
theorem AllS.add {cells : List V} {i : Nat} {l : List Sch} (h : AllS cells i l) {s : Sch} (hs : GS i s) : AllS (cells ++ s.cells) (i + 1) (l ++ [s]) := by
  obtain ⟨h1, h2, h3⟩ := h
  refine ⟨by rw [flatS_app, h1]; simp [flatS], by simp [h2], fun j hj => ?_⟩
  by_cases e : j < l.length
  · have : (l ++ [s]).getD j Sch.none = l.getD j Sch.none := by simp only [List.getD]; rw [List.getElem?_append_left e]
    rw [this]; exact h3 j (by omega)
  · have : j = l.length := by omega
    subst this
    have e2 : (l ++ [s]).getD l.length Sch.none = s := by simp [List.getD]
    rw [e2, h2]; exact hs
theorem row_of_GC {base : Nat} {ts : List Nat} {v : V} {ds : List Col} (g : GC base ts v ds) (h : ds ≠ []) : ∃ q, v = .row (flatC ds) ds.length q := g.isrow (by cases ds with | nil => exact absurd rfl h | cons x r => simp)
def Kp2 (L L' : List AObj) (b P : Nat) : Prop := L.length ≤ L'.length ∧ ∀ q, q < L.length → q ≠ b → q ≠ P → L'[q]? = L[q]?
section
variable {xv : V} {xs : List Int} (K : Tk xv xs)
include K
theorem inner_loop {Q : Post} {ks : List Kt} {T : Tm} {H : List AObj} {ts : List Nat} {b P : Nat} (hPb : P ≠ b) {cs : List Col} {q : RCap} (hA : AllC cs) (hl : cs.length = 5) {s : List UInt8} {pb : Bool} {nn f : Int} (hf0 : 0 ≤ f) (hf : f < 5)
    (t0 : T 0 = .ptr b 0) (t3 : T 3 = .row (flatC cs) cs.length q) (t8 : T 8 = .ptr P 0) (t9 : T 9 = .int .i64 f) (t10 : T 10 = .int .i64 0) (hH : Has H b xv xs) (hP : H[P]? = some (.cells [.str s, .bool pb, .int .i64 nn, .nilsl] 29))
    (h : ∀ (T' : Tm) (H' : List AObj) (ts' : List Nat) (ds : List Col) (qd : RCap), T' 0 = T 0 → T' 3 = T 3 → T' 5 = T 5 → T' 6 = T 6 → T' 7 = T 7 → T' 8 = T 8 → Has H' b xv xs → Kp2 H H' b P → H'[P]? = some (.cells [.str s, .bool pb, .int .i64 nn, .row (flatC ds) ds.length qd] 29) → Fine ds → 1 ≤ ds.length → ds.length ≤ 5 → Ext ts.length ts ts' → G env 80 none 78 Q ks .skip T' [] ⟨H', ts'⟩) :
    wpLoop env 80 none 78 (loopB 4 (bodyOf Tryd.f80)) T [] ⟨H, ts⟩ (Kt.post env 80 none 78 Q (.blk 4 :: ks)) := by
  simp only [bodyOf, Tryd.f80, Option.getD_some, loopB, blkC, Option.or, Nat.reduceEqDiff, if_false, if_true, reduceIte]
  refine loop_rule (fun m T2 D σ => D = [] ∧ T2 0 = T 0 ∧ T2 3 = T 3 ∧ T2 5 = T 5 ∧ T2 6 = T 6 ∧ T2 7 = T 7 ∧ T2 8 = T 8 ∧ T2 9 = T 9 ∧ ∃ (M : List AObj) (ts' : List Nat) (k : Nat) (ds : List Col) (dv : V), σ = ⟨M, ts'⟩ ∧ T2 10 = .int .i64 k ∧ Has M b xv xs ∧ Kp2 H M b P ∧ M[P]? = some (.cells [.str s, .bool pb, .int .i64 nn, dv] 29) ∧ GC ts.length ts' dv ds ∧ Ext ts.length ts ts' ∧ Up ds k ∧ k ≤ 5 ∧ ds.length ≤ k ∧ (f < k → ds ≠ []) ∧ m = 5 - k) ?_ (5 - 0) _ _ _
    ⟨rfl, rfl, rfl, rfl, rfl, rfl, rfl, rfl, H, ts, 0, [], .nilsl, rfl, t10, hH, ⟨Nat.le_refl _, fun _ _ _ _ => rfl⟩, hP, .nil, .rfl' _ _, Up.nil _, by omega, by simp, fun hh => by omega, rfl⟩
  rintro m T2 D σ ⟨rfl, u0, u3, u5, u6, u7, u8, u9, M, ts', k, ds, dv, rfl, u10, hM, hKM, hMP, hg, hE, hKd, hk5, hdk, hfd, rfl⟩
  have v0 := u0.trans t0
  have v3 := u3.trans t3
  have v8 := u8.trans t8
  have v9 := u9.trans t9
  refine G_start ?_
  by_cases hlt : k < 5
  · have c1 : (k : Int) < 5 := by omega
    have e1 : IntKind.i64.wrap ((k : Int) + 1) = ((k + 1 : Nat) : Int) := by rw [wrap_i64 (by omega) (by omega)]; omega
    -- a column is added
    have add : ∀ (M1 : List AObj), Has M1 b xv xs → Kp2 H M1 b P → M1[P]? = some (.cells [.str s, .bool pb, .int .i64 nn, dv] 29) → ∃ (cv : Col) (dv' : V) (ts2 : List Nat) (r : List V), vIndexAddr 4 (.row (flatC cs) cs.length q) (.int .i64 k) = some (.rptr (.str (cs.getD k Col.none).name :: .int .i64 (cs.getD k Col.none).lo :: .int .i64 (cs.getD k Col.none).hi :: (cs.getD k Col.none).w :: r)) ∧
        (∀ σ, callFn env (ev env) 113 [.agg [.str (cs.getD k Col.none).name, .int .i64 (cs.getD k Col.none).lo, .int .i64 (cs.getD k Col.none).hi, (cs.getD k Col.none).w]] σ = some (.agg [.str cv.name, .int .i64 cv.lo, .int .i64 cv.hi, cv.w], σ)) ∧
        appO env false ⟨M1, ts'⟩ 27 27 dv (.row [.str cv.name, .int .i64 cv.lo, .int .i64 cv.hi, cv.w] 1 .full) = some (dv', ⟨M1, ts2⟩) ∧ dv'.cells = [dv'] ∧ dv'.isCell = true ∧ Has (M1.set P (.cells [.str s, .bool pb, .int .i64 nn, dv'] 29)) b xv xs ∧ Kp2 H (M1.set P (.cells [.str s, .bool pb, .int .i64 nn, dv'] 29)) b P ∧
        (M1.set P (.cells [.str s, .bool pb, .int .i64 nn, dv'] 29))[P]? = some (.cells [.str s, .bool pb, .int .i64 nn, dv'] 29) ∧ GC ts.length ts2 dv' (ds ++ [cv]) ∧ Ext ts.length ts ts2 ∧ Up (ds ++ [cv]) (k + 1) ∧ (ds ++ [cv]).length ≤ k + 1 ∧ ds ++ [cv] ≠ [] := by
      intro M1 h1 h2 h3
      have hkc := hA k (by omega)
      obtain ⟨r, hix⟩ := idx_C' cs q (show k < cs.length by omega)
      have hw := hkc.is
      have hcp := copy_call (cs.getD k Col.none) hw.1 (by omega)
      obtain ⟨dv', ts2, a1, a2, a3⟩ := GC.push (hp := M1) hg hE.1 ⟨(cs.getD k Col.none).name, (cs.getD k Col.none).lo, (cs.getD k Col.none).hi, rowW (cs.getD k Col.none).ws, (cs.getD k Col.none).ws⟩ rfl .full (by omega)
      obtain ⟨z1, z2⟩ := a2.cells
      refine ⟨⟨(cs.getD k Col.none).name, (cs.getD k Col.none).lo, (cs.getD k Col.none).hi, rowW (cs.getD k Col.none).ws, (cs.getD k Col.none).ws⟩, dv', ts2, r, hix, hcp, a1, z1, z2, ?_, ⟨by have := h2.1; simp; omega, fun x hx hxb hxP => by rw [List.getElem?_set_ne (Ne.symm hxP)]; exact h2.2 x hx hxb hxP⟩, List.getElem?_set_self (List.getElem?_eq_some_iff.1 h3).1, a2, hE.trans a3, hKd.add (hkc.copy (by omega)) hkc.1, by simp; omega, by simp⟩
      obtain ⟨a, b1, b2⟩ := h1
      exact ⟨a, b1, by rw [List.getElem?_set_ne hPb]; exact b2⟩
    have nxt : ∀ (M' : List AObj) (ts2 : List Nat) (ds' : List Col) (dv' : V), Has M' b xv xs → Kp2 H M' b P → M'[P]? = some (.cells [.str s, .bool pb, .int .i64 nn, dv'] 29) → GC ts.length ts2 dv' ds' → Ext ts.length ts ts2 → Up ds' (k + 1) → ds'.length ≤ k + 1 → (f < ((k + 1 : Nat) : Int) → ds' ≠ []) →
        ∃ m', m' < 5 - k ∧ ∃ (M : List AObj) (ts' : List Nat) (k2 : Nat) (ds : List Col) (dv : V), (⟨M', ts2⟩ : S) = ⟨M, ts'⟩ ∧ V.int .i64 ((k + 1 : Nat) : Int) = .int .i64 k2 ∧ Has M b xv xs ∧ Kp2 H M b P ∧ M[P]? = some (.cells [.str s, .bool pb, .int .i64 nn, dv] 29) ∧ GC ts.length ts' dv ds ∧ Ext ts.length ts ts' ∧ Up ds k2 ∧ k2 ≤ 5 ∧ ds.length ≤ k2 ∧ (f < k2 → ds ≠ []) ∧ m' = 5 - k2 :=
      fun M' ts2 ds' dv' h1 h2 h3 h4 h5 h6 h7 h8 => ⟨5 - (k + 1), by omega, M', ts2, k + 1, ds', dv', rfl, rfl, h1, h2, h3, h4, h5, h6, by omega, h7, h8, rfl⟩
    have ld4 := load4_rptr
    by_cases hkf : (k : Int) = f
    · have g1 : ((k : Int) = f) = True := eq_true hkf
      obtain ⟨cv, dv', ts2, r, x1, x2, x3, x4, x5, x6, x7, x8, x9, x10, x11, x12, x13⟩ := add M hM hKM hMP
      simp -implicitDefEqProofs only [Wa,Wb,Wc,Wd,We,Wf,Wg,Wh,Wi,Wj,Wk,Wl,Wm,Wn,Zo,Zp,evalT,Nat.reduceLT,Nat.reduceEqDiff,if_true,if_false,reduceIte,Ys,ofVal,ofCell,argT,resT,setT,Y0,Int.reduceEq,Int.reduceLT,Int.reduceLE,Int.reduceNeg,mb,Nat.reduceBEq,tys,stb,Va,storeList,Nat.reduceAdd,Nat.reduceLeDiff,tysc,t0,t3,t8,t9,u5,u6,u7,v0,v3,v8,v9,u10,-Ys,c1,e1,g1,hMP,x1,ld4,x2,opT_rowO,rowC1,x3,x4,x5]
      exact ⟨by kernel_rfl, nxt _ _ _ _ x6 x7 x8 x9 x10 x11 x12 (fun _ => x13)⟩
    · have g1 : ((k : Int) = f) = False := eq_false hkf
      obtain ⟨k1, M1, hT1, hH1, hK1, hl1, p1, p2, _⟩ := take_at K hM 2 (by simp [In64])
      have hPl := (List.getElem?_eq_some_iff.1 hMP).1
      have hMP1 : M1[P]? = some (.cells [.str s, .bool pb, .int .i64 nn, dv] 29) := by rw [hK1.2 P hPl hPb]; exact hMP
      have hKM1 : Kp2 H M1 b P := ⟨Nat.le_trans hKM.1 hK1.1, fun x hx hxb hxP => by rw [hK1.2 x (by have := hKM.1; omega) hxb]; exact hKM.2 x hx hxb hxP⟩
      by_cases hk1 : k1 = 1
      · have g2 : (k1 = 1) = True := eq_true hk1
        obtain ⟨cv, dv', ts2, r, x1, x2, x3, x4, x5, x6, x7, x8, x9, x10, x11, x12, x13⟩ := add M1 hH1 hKM1 hMP1
        simp -implicitDefEqProofs only [Wa,Wb,Wc,Wd,We,Wf,Wg,Wh,Wi,Wj,Wk,Wl,Wm,Wn,Zo,Zp,evalT,Nat.reduceLT,Nat.reduceEqDiff,if_true,if_false,reduceIte,Ys,ofVal,ofCell,argT,resT,setT,Y0,Int.reduceEq,Int.reduceLT,Int.reduceLE,Int.reduceNeg,mb,Nat.reduceBEq,tys,stb,Va,storeList,Nat.reduceAdd,Nat.reduceLeDiff,tysc,t0,t3,t8,t9,u5,u6,u7,v0,v3,v8,v9,u10,-Ys,c1,e1,g1,hT1,g2,hMP1,x1,ld4,x2,opT_rowO,rowC1,x3,x4,x5]
        exact ⟨by kernel_rfl, nxt _ _ _ _ x6 x7 x8 x9 x10 x11 x12 (fun _ => x13)⟩
      · have g2 : (k1 = 1) = False := eq_false hk1
        simp -implicitDefEqProofs only [Wa,Wb,Wc,Wd,We,Wf,Wg,Wh,Wi,Wj,Wk,Wl,Wm,Wn,Zo,Zp,evalT,Nat.reduceLT,Nat.reduceEqDiff,if_true,if_false,reduceIte,Ys,ofVal,ofCell,argT,resT,setT,Y0,Int.reduceEq,Int.reduceLT,Int.reduceLE,Int.reduceNeg,mb,Nat.reduceBEq,tys,stb,Va,storeList,Nat.reduceAdd,Nat.reduceLeDiff,tysc,t0,t3,t8,t9,u5,u6,u7,v0,v3,v8,v9,u10,-Ys,c1,e1,g1,hT1,g2]
        exact nxt _ _ _ _ hH1 hKM1 hMP1 hg hE hKd.mono (by omega) (fun hh => hfd (by omega))
  · have hk : k = 5 := by omega
    subst hk
    have c1 : ¬ ((5 : Nat) : Int) < 5 := by omega
    obtain ⟨qd, rfl⟩ := row_of_GC hg (hfd (by omega))
    have hne := hfd (by omega)
    simp -implicitDefEqProofs only [Wa,Wb,Wc,Wd,We,Wf,Wg,Wh,Wi,Wj,Wk,Wl,Wm,Wn,Zo,Zp,evalT,Nat.reduceLT,Nat.reduceEqDiff,if_true,if_false,reduceIte,Ys,ofVal,ofCell,argT,resT,setT,Y0,Int.reduceEq,Int.reduceLT,Int.reduceLE,Int.reduceNeg,mb,Nat.reduceBEq,tys,stb,Va,storeList,Nat.reduceAdd,Nat.reduceLeDiff,v0,v3,v8,v9,u10,c1]
    refine h _ M ts' ds qd ?_ ?_ ?_ ?_ ?_ ?_ hM hKM hMP hKd.fine ?_ hdk hE
    all_goals first
      | assumption
      | (cases ds with
         | nil => exact absurd rfl hne
         | cons x r => simp)
end
section
variable {xv : V} {xs : List Int} (K : Tk xv xs)
include K
theorem region11 {Q : Post} {ks : List Kt} {T : Tm} {M : List AObj} {ts : List Nat} {b i : Nat} (hi : i < 3) (t0 : T 0 = .ptr b 0) (t7 : T 7 = .int .i64 i) (hM : Has M b xv xs)
    (h : ∀ (T' : Tm) (M1 : List AObj) (k2 : Int), T' 0 = T 0 → T' 3 = T 3 → T' 5 = T 5 → T' 6 = T 6 → T' 7 = T 7 → T' 8 = .ptr M.length 0 → 0 ≤ k2 → k2 < 4 → Has M1 b xv xs → Kp M M1 b → M1.length = M.length → G env 80 none 78 Q ks .skip T' [] ⟨M1 ++ [.cells [.str (tabs.getD i []), .bool false, .int .i64 (1 + k2), .nilsl] 29], ts⟩) :
    G env 80 none 78 Q ks (regB 11 (bodyOf Tryd.f80)) T [] ⟨M, ts⟩ := by
  simp only [bodyOf, Tryd.f80, Option.getD_some, regB, Option.or, Nat.reduceEqDiff, if_false, if_true, reduceIte]
  have hN0 := names0_call
  obtain ⟨rt, hit⟩ := idx_tabs hi
  obtain ⟨k2, M1, hT2, hH1, hK1, hl1, p3, p4, _⟩ := take_ext K hM 4 (by simp [In64])
  have hp4 := p4 (by decide)
  have e3 : IntKind.i64.wrap (1 + k2) = 1 + k2 := wrap_i64 (by omega) (by omega)
  have b36 := build36 (tabs.getD i []) (1 + k2)
  have hE1 : ∀ o : AObj, (M1 ++ [o])[M.length]? = some o := fun o => by rw [← hl1]; exact heap_end _ _
  have hE2 : ∀ o o' : AObj, (M1 ++ [o]).set M.length o' = M1 ++ [o'] := fun o o' => by rw [← hl1]; exact set_end _ _ _
  obtain ⟨St, hSt⟩ : ∃ St : Nat → S, ∀ c, St c = ⟨(if c.testBit 5 = true then M1 else M) ++ [if c.testBit 9 = true then AObj.cells [.str (tabs.getD i []), .bool false, .int .i64 (1 + k2), .nilsl] 29 else if c.testBit 8 = true then AObj.cells [.str [], .bool false, .int .i64 0, .nilsl] 29 else .resv], ts⟩ := ⟨_, fun c => rfl⟩
  have hI : ∀ j, j ≠ 5 → j ≠ 8 → j ≠ 9 → ∀ c, St (c ||| 2 ^ j) = St c := fun j h1 h2 h3 c => by
    rw [hSt, hSt]
    simp only [tb_or, h1, h2, h3, decide_false, Bool.or_false]
  refine G_set rfl St (L := [.cells [.str [], .bool false, .int .i64 0, .nilsl] 29]) (masks := [0, 0, 3, 7, 0, 17, 49, 127, 0, 511]) (by kernel_rfl) (by kernel_rfl) (by kernel_rfl) (by kernel_rfl) (by kernel_rfl) (by rw [hSt]; simp) ?_
  have i0 := hI 0 (by decide) (by decide) (by decide)
  have i1 := hI 1 (by decide) (by decide) (by decide)
  have i2 := hI 2 (by decide) (by decide) (by decide)
  have i3 := hI 3 (by decide) (by decide) (by decide)
  have i4 := hI 4 (by decide) (by decide) (by decide)
  have i6 := hI 6 (by decide) (by decide) (by decide)
  have i7 := hI 7 (by decide) (by decide) (by decide)
  simp -implicitDefEqProofs only [Wa,Wb,Wc,Wd,We,Wf,Wg,Wh,Wi,Wj,Wk,Wl,Wm,Wn,Zo,Zp,evalT,Nat.reduceLT,Nat.reduceEqDiff,if_true,if_false,reduceIte,Ys,ofVal,ofCell,argT,resT,setT,Y0,Int.reduceEq,Int.reduceLT,Int.reduceLE,Int.reduceNeg,mb,Nat.reduceBEq,tys,stb,Va,storeList,Nat.reduceAdd,Nat.reduceLeDiff,tysc,GZ_nil,GZ_alloc,GZ_op,GZS_some,GZS_none,GZS_ite,GZS_nite,Qv,ia_fcall,ia_build,Qp,Qs,QH,QP,t0,t7,-Ys,hN0,hit,load_hd,hT2,e3,b36,i0,i1,i2,i3,i4,i6,i7,hE1,hE2]
  refine ⟨fun _ _ _ => trivial, fun _ _ _ => trivial, fun _ _ _ => trivial, fun _ _ _ => trivial, fun _ _ _ => trivial, ?_, fun _ _ _ => trivial, fun _ _ _ => trivial, ?_, ?_, ?_, ?_⟩
  · rintro c _ ⟨a1, a2, a3⟩
    have b9 : c.testBit 9 = false := a3 9 (by decide)
    rw [hSt, hSt]
    simp only [tb_or, a1, b9, decide_true, Bool.or_true, Bool.false_eq_true, if_false, if_true, Nat.reduceEqDiff, decide_false, Bool.or_false]
    exact hT2 _ _
  · rintro c _ ⟨a1, a2, a3⟩
    have b9 : c.testBit 9 = false := a3 9 (by decide)
    refine ⟨29, _, rfl, tysc.2.2.2.2.2.2.2, ?_, ?_⟩
    · rw [hSt]
      simp only [a1, b9, Bool.false_eq_true, if_false]
      split
      · rw [← hl1]; exact heap_end _ _
      · exact heap_end _ _
    · rw [hSt, hSt]
      simp only [tb_or, a1, b9, decide_true, Bool.or_true, Bool.false_eq_true, if_false, if_true, Nat.reduceEqDiff, decide_false, Bool.or_false, S.set]
      split
      · rw [← hl1, set_end]; rfl
      · rw [set_end]; rfl
  · rfl
  · rintro c _ ⟨a1, a2, a3⟩
    have b5 := a2 5 (by decide) (by decide)
    have b8 := a2 8 (by decide) (by decide)
    rw [hSt, hSt]
    simp only [tb_or, a1, b5, b8, decide_true, Bool.or_true, Bool.false_eq_true, if_false, if_true, hE1]
    simp -implicitDefEqProofs only [Wa,Wb,Wc,Wd,We,Wf,Wg,Wh,Wi,Wj,Wk,Wl,Wm,Wn,Zo,Zp,evalT,Nat.reduceLT,Nat.reduceEqDiff,if_true,if_false,reduceIte,Ys,ofVal,ofCell,argT,resT,setT,Y0,Int.reduceEq,Int.reduceLT,Int.reduceLE,Int.reduceNeg,mb,Nat.reduceBEq,tys,stb,Va,storeList,Nat.reduceAdd,Nat.reduceLeDiff,hE2]
    rfl
  · exact ⟨fun c hc => by rw [hSt]; simp only [hc 5 (by decide), hc 9 (by decide), if_true], h _ M1 k2 rfl rfl rfl rfl rfl rfl p3 hp4 hH1 hK1 hl1⟩
end
section
variable {xv : V} {xs : List Int} (K : Tk xv xs)
include K
theorem schemas_call {L : List AObj} {b : Nat} (hH : Has L b xv xs) (ts : List Nat) :
    ∃ v σ', callFn env (ev env) 80 [.ptr b 0] ⟨L, ts⟩ = some (v, σ') ∧ ∃ (L' : List AObj) (ts' : List Nat) (n : Nat) (l : List Sch), σ' = ⟨L', ts'⟩ ∧ GrowV ts.length ts' 4 v n (flatS l) ∧ 1 ≤ n ∧ n ≤ 3 ∧ AllS (flatS l) n l ∧ Kp L L' b := by
  refine callFn_any rfl rfl at80 rfl (by simp [Tryd.f80]) (by simp [Tryd.f80]) (G_start ?_)
  have hN1 := names1_call
  simp -implicitDefEqProofs only [Tryd.f80,Wa,Wb,Wc,Wd,We,Wf,Wg,Wh,Wi,Wj,Wk,Wl,Wm,Wn,Zo,Zp,evalT,Nat.reduceLT,Nat.reduceEqDiff,if_true,if_false,reduceIte,Ys,ofVal,ofCell,argT,resT,setT,Y0,Int.reduceEq,Int.reduceLT,Int.reduceLE,Int.reduceNeg,mb,Nat.reduceBEq,tys,stb]
  refine loop_rule (fun m T D σ => D = [] ∧ T 0 = .ptr b 0 ∧ ∃ (M : List AObj) (ts' : List Nat) (cs : List Col) (v : V), σ = ⟨M, ts'⟩ ∧ T 3 = v ∧ GC ts.length ts' v cs ∧ Ext ts.length ts ts' ∧ AllC cs ∧ T 4 = .int .i64 cs.length ∧ Has M b xv xs ∧ Kp L M b ∧ cs.length ≤ 5 ∧ m = 5 - cs.length) ?_ (5 - 0) _ _ _
    ⟨rfl, rfl, L, ts, [], .nilsl, rfl, rfl, .nil, .rfl' _ _, fun j hj => by simp at hj, rfl, hH, .rfl' _ _, by simp, rfl⟩
  rintro m T D σ ⟨rfl, t0, M, ts', cs, v, rfl, t3, hg, hE, hA, t4, hM, hKM, hcl, rfl⟩
  refine G_start ?_
  by_cases hlt : cs.length < 5
  · have c1 : (cs.length : Int) < 5 := by omega
    have e1 : IntKind.i64.wrap ((cs.length : Int) + 1) = ((cs.length + 1 : Nat) : Int) := by rw [wrap_i64 (by omega) (by omega)]; omega
    obtain ⟨r, hix⟩ := idx_ages hlt
    obtain ⟨cv, _, hC, c, M', rfl, rfl, hM', hK', hkc⟩ := column65_call K hM (ages.getD cs.length []) ts'
    have hcell := isCell_W hkc.is.1
    obtain ⟨v', ts2, hP, hg', hE'⟩ := GC.push (hp := M') hg hE.1 c hcell .full (by omega)
    unfold aggC at hC
    simp -implicitDefEqProofs only [Wa,Wb,Wc,Wd,We,Wf,Wg,Wh,Wi,Wj,Wk,Wl,Wm,Wn,Zo,Zp,evalT,Nat.reduceLT,Nat.reduceEqDiff,if_true,if_false,reduceIte,Ys,ofVal,ofCell,argT,resT,setT,Y0,Int.reduceEq,Int.reduceLT,Int.reduceLE,Int.reduceNeg,mb,Nat.reduceBEq,tys,stb,Va,storeList,Nat.reduceAdd,Nat.reduceLeDiff,t0,t3,t4,-Ys,c1,e1,hN1,hix,load_hd,hC,opT_rowO,rowC1,hP]
    exact ⟨5 - (cs.length + 1), by omega, M', ts2, cs ++ [c], v', rfl, rfl, hg', hE.trans hE', hA.add hkc, by simp, hM', hKM.trans hK', by simp; omega, by simp⟩
  · have h5 : cs.length = 5 := by omega
    have c1 : ¬ (cs.length : Int) < 5 := by omega
    obtain ⟨k1, M1, hT1, hH1, hK1, hl1, p1, p2, _⟩ := take_at K hM 3 (by simp [In64])
    have hp2 := p2 (by decide)
    obtain ⟨n, hn⟩ : ∃ n : Nat, 1 + k1 = (n : Int) := ⟨(1 + k1).toNat, by omega⟩
    have e1 : IntKind.i64.wrap (1 + k1) = (n : Int) := by rw [wrap_i64 (by omega) (by omega)]; exact hn
    obtain ⟨q, rfl⟩ := hg.isrow (by omega)
    have hKM1 : Kp L M1 b := hKM.trans hK1
    simp -implicitDefEqProofs only [Wa,Wb,Wc,Wd,We,Wf,Wg,Wh,Wi,Wj,Wk,Wl,Wm,Wn,Zo,Zp,evalT,Nat.reduceLT,Nat.reduceEqDiff,if_true,if_false,reduceIte,Ys,ofVal,ofCell,argT,resT,setT,Y0,Int.reduceEq,Int.reduceLT,Int.reduceLE,Int.reduceNeg,mb,Nat.reduceBEq,tys,stb,Va,storeList,Nat.reduceAdd,Nat.reduceLeDiff,t0,t3,t4,c1,hT1,e1]
    refine loop_rule (fun m T D σ => D = [] ∧ T 0 = .ptr b 0 ∧ T 3 = .row (flatC cs) cs.length q ∧ T 5 = .int .i64 n ∧ ∃ (M : List AObj) (ts' : List Nat) (i : Nat) (cells : List V) (v : V), σ = ⟨M, ts'⟩ ∧ T 6 = v ∧ GrowV ts.length ts' 4 v i cells ∧ Ext ts.length ts ts' ∧ T 7 = .int .i64 i ∧ Has M b xv xs ∧ Kp L M b ∧ i ≤ n ∧ (∃ l, AllS cells i l) ∧ m = n - i) ?_ (n - 0) _ _ _
      ⟨rfl, t0, t3, rfl, M1, ts', 0, [], .nilsl, rfl, rfl, .nil, hE, rfl, hH1, hKM1, Nat.zero_le _, ⟨[], rfl, rfl, fun j hj => by omega⟩, rfl⟩
    clear hK1 hKM1 hH1 hT1 hl1 M1 hM hKM M t0 t3 t4 T hE hg ts'
    rintro m T D σ ⟨rfl, t0, t3, t5, M, ts', i, cells, v, rfl, t6, hg, hE, t7, hM, hKM, hin, hlast, rfl⟩
    refine G_start ?_
    by_cases hlt : i < n
    · have c2 : (i : Int) < (n : Int) := by omega
      have e2 : IntKind.i64.wrap ((i : Int) + 1) = ((i + 1 : Nat) : Int) := by rw [wrap_i64 (by omega) (by omega)]; omega
      simp -implicitDefEqProofs only [Wa,Wb,Wc,Wd,We,Wf,Wg,Wh,Wi,Wj,Wk,Wl,Wm,Wn,Zo,Zp,evalT,Nat.reduceLT,Nat.reduceEqDiff,if_true,if_false,reduceIte,Ys,ofVal,ofCell,argT,resT,setT,Y0,Int.reduceEq,Int.reduceLT,Int.reduceLE,Int.reduceNeg,mb,Nat.reduceBEq,tys,stb,Va,storeList,Nat.reduceAdd,Nat.reduceLeDiff,t0,t3,t5,t6,t7,c2]
      refine region11 K (show i < 3 by omega) t0 t7 hM fun T' M1 k2 u0 u3 u5 u6 u7 u8 hk0 hk4 hH1 hK1 hl1 => ?_
      have v0 : T' 0 = .ptr b 0 := u0.trans t0
      have v3 : T' 3 = .row (flatC cs) cs.length q := u3.trans t3
      have v5 : T' 5 = .int .i64 n := u5.trans t5
      have v6 : T' 6 = v := u6.trans t6
      have v7 : T' 7 = .int .i64 i := u7.trans t7
      have hHn := hH1.app [.cells [.str (tabs.getD i []), .bool false, .int .i64 (1 + k2), .nilsl] 29]
      have hbM : b < M.length := hM.lt
      have hPb : M.length ≠ b := by omega
      have hKn : Kp L (M1 ++ [.cells [.str (tabs.getD i []), .bool false, .int .i64 (1 + k2), .nilsl] 29]) b := (hKM.trans hK1).trans (Kp.app _ _)
      have hPn : (M1 ++ [AObj.cells [.str (tabs.getD i []), .bool false, .int .i64 (1 + k2), .nilsl] 29])[M.length]? = some (.cells [.str (tabs.getD i []), .bool false, .int .i64 (1 + k2), .nilsl] 29) := by rw [← hl1]; exact heap_end _ _
      have hLM := hKM.1
      generalize M1 ++ [AObj.cells [.str (tabs.getD i []), .bool false, .int .i64 (1 + k2), .nilsl] 29] = H at *
      clear hH1 hK1 hl1 t0 t3 t5 t6 t7 u0 u3 u5 u6 u7 M1 T
      -- what follows the loop over the columns
      have fin : ∀ (H2 H' : List AObj) (ts2 : List Nat) (ds : List Col) (qd : RCap) (pb : Bool) (nn : Int), Has H' b xv xs → Kp L H2 b → Kp2 H2 H' b M.length → Fine ds → 1 ≤ ds.length → ds.length ≤ 5 → Ext ts'.length ts' ts2 → ((pb = true ∧ nn = 0) ∨ (pb = false ∧ 1 ≤ nn ∧ nn ≤ 50)) →
          ∃ v' ts3, appO env false ⟨H', ts2⟩ 36 36 v (.row [.str (tabs.getD i []), .bool pb, .int .i64 nn, .row (flatC ds) ds.length qd] 1 .full) = some (v', ⟨H', ts3⟩) ∧
            ∃ m', m' < n - i ∧ ∃ (M : List AObj) (ts' : List Nat) (i2 : Nat) (cells : List V) (v : V), (⟨H', ts3⟩ : S) = ⟨M, ts'⟩ ∧ v' = v ∧ GrowV ts.length ts' 4 v i2 cells ∧ Ext ts.length ts ts' ∧ V.int .i64 ((i + 1 : Nat) : Int) = .int .i64 i2 ∧ Has M b xv xs ∧ Kp L M b ∧ i2 ≤ n ∧ (∃ l, AllS cells i2 l) ∧ m' = n - i2 := by
        intro H2 H' ts2 ds qd pb nn f1 f2 f3 f4 f5 f6 f7 f8
        have hlim : lim = 2 ^ 40 := rfl
        have hb2 : ts.length ≤ ts2.length := Nat.le_trans hE.1 f7.1
        obtain ⟨v', ts3, a1, a2, a3⟩ := GrowV.push (E := env) (hp := H') (q := .full) (new := [.str (tabs.getD i []), .bool pb, .int .i64 nn, .row (flatC ds) ds.length qd]) eS ⟨29, eS.slice⟩ (hg.ext f7) hb2 rfl rfl ⟨by rw [hlim]; omega, by rw [hlim]; omega⟩
        have hcl2 := hg.lens
        refine ⟨v', ts3, a1, n - (i + 1), by omega, H', ts3, i + 1, _, v', rfl, rfl, a2, (hE.trans (f7.mono hE.1)).trans a3, rfl, f1, ⟨Nat.le_trans f2.1 f3.1, fun x hx hxb => by rw [f3.2 x (by have := f2.1; omega) hxb (by omega)]; exact f2.2 x hx hxb⟩, by omega, ?_, rfl⟩
        obtain ⟨l, hl⟩ := hlast
        exact ⟨_, hl.add (s := ⟨tabs.getD i [], pb, nn, .row (flatC ds) ds.length qd, ds⟩) ⟨⟨rfl, f8, f5, f6, f4⟩, qd, rfl⟩⟩
      by_cases hi0 : i = 0
      · have c3 : ((i : Int) > 0) = False := eq_false (by omega)
        obtain ⟨k4, H4, hT4, hH4, hK4, hl4, p5, p6, _⟩ := take_at K hHn 5 (by simp [In64])
        have hp6 := p6 (by decide)
        have hP4 : H4[M.length]? = _ := (hK4.2 _ (List.getElem?_eq_some_iff.1 hPn).1 hPb).trans hPn
        simp -implicitDefEqProofs only [Wa,Wb,Wc,Wd,We,Wf,Wg,Wh,Wi,Wj,Wk,Wl,Wm,Wn,Zo,Zp,evalT,Nat.reduceLT,Nat.reduceEqDiff,if_true,if_false,reduceIte,Ys,ofVal,ofCell,argT,resT,setT,Y0,Int.reduceEq,Int.reduceLT,Int.reduceLE,Int.reduceNeg,mb,Nat.reduceBEq,tys,stb,Va,storeList,Nat.reduceAdd,Nat.reduceLeDiff,tysc,v0,v3,v5,v6,v7,u8,c3,hT4]
        refine inner_loop K hPb hA h5 p5 hp6 v0 v3 u8 rfl rfl hH4 hP4 fun T2 H' ts2 ds qd w0 w3 w5 w6 w7 w8 f1 f2 f3 f4 f5 f6 f7 => ?_
        have z0 : T2 0 = .ptr b 0 := w0.trans v0
        have z3 : T2 3 = .row (flatC cs) cs.length q := w3.trans v3
        have z5 : T2 5 = .int .i64 n := w5.trans v5
        have z6 : T2 6 = v := w6.trans v6
        have z7 : T2 7 = .int .i64 i := w7.trans v7
        have z8 : T2 8 = .ptr M.length 0 := w8.trans u8
        obtain ⟨v', ts3, a1, a2⟩ := fin H4 H' ts2 ds qd false (1 + k2) f1 (hKn.trans hK4) f2 f4 f5 f6 f7 (.inr ⟨rfl, by omega, by omega⟩)
        have ld := ld4_at f3
        simp -implicitDefEqProofs only [Wa,Wb,Wc,Wd,We,Wf,Wg,Wh,Wi,Wj,Wk,Wl,Wm,Wn,Zo,Zp,evalT,Nat.reduceLT,Nat.reduceEqDiff,if_true,if_false,reduceIte,Ys,ofVal,ofCell,argT,resT,setT,Y0,Int.reduceEq,Int.reduceLT,Int.reduceLE,Int.reduceNeg,mb,Nat.reduceBEq,tys,stb,Va,storeList,Nat.reduceAdd,Nat.reduceLeDiff,tysc,z0,z3,z5,z6,z7,z8,e2,ld,opT_rowO,rowS1,a1]
        exact a2
      · have c3 : ((i : Int) > 0) = True := eq_true (by omega)
        obtain ⟨k3, H3, hT3, hH3, hK3, hl3, p7, p8, _⟩ := take_at K hHn 3 (by simp [In64])
        have hp8 := p8 (by decide)
        have hP3 : H3[M.length]? = _ := (hK3.2 _ (List.getElem?_eq_some_iff.1 hPn).1 hPb).trans hPn
        by_cases hk3 : k3 = 1
        · have g3 : (k3 = 1) = True := eq_true hk3
          have hS1 : ∀ o, (H3.set M.length o)[M.length]? = some o := fun o => List.getElem?_set_self (List.getElem?_eq_some_iff.1 hP3).1
          have hHs : ∀ o, Has (H3.set M.length o) b xv xs := fun o => by
            obtain ⟨a, b1, b2⟩ := hH3
            exact ⟨a, b1, by rw [List.getElem?_set_ne hPb]; exact b2⟩
          obtain ⟨k4, H4, hT4, hH4, hK4, hl4, p5, p6, _⟩ := take_at K (hHs (.cells [.str (tabs.getD i []), .bool true, .int .i64 0, .nilsl] 29)) 5 (by simp [In64])
          have hp6 := p6 (by decide)
          have hP4 : H4[M.length]? = _ := (hK4.2 _ (List.getElem?_eq_some_iff.1 (hS1 _)).1 hPb).trans (hS1 _)
          simp -implicitDefEqProofs only [Wa,Wb,Wc,Wd,We,Wf,Wg,Wh,Wi,Wj,Wk,Wl,Wm,Wn,Zo,Zp,evalT,Nat.reduceLT,Nat.reduceEqDiff,if_true,if_false,reduceIte,Ys,ofVal,ofCell,argT,resT,setT,Y0,Int.reduceEq,Int.reduceLT,Int.reduceLE,Int.reduceNeg,mb,Nat.reduceBEq,tys,stb,Va,storeList,Nat.reduceAdd,Nat.reduceLeDiff,tysc,v0,v3,v5,v6,v7,u8,c3,hT3,g3,hP3,hS1,List.set_set,isCell_bool,isCell_int,cells_bool,List.singleton_append,hT4]
          refine inner_loop K hPb hA h5 p5 hp6 v0 v3 u8 rfl rfl hH4 hP4 fun T2 H' ts2 ds qd w0 w3 w5 w6 w7 w8 f1 f2 f3 f4 f5 f6 f7 => ?_
          have z0 : T2 0 = .ptr b 0 := w0.trans v0
          have z3 : T2 3 = .row (flatC cs) cs.length q := w3.trans v3
          have z5 : T2 5 = .int .i64 n := w5.trans v5
          have z6 : T2 6 = v := w6.trans v6
          have z7 : T2 7 = .int .i64 i := w7.trans v7
          have z8 : T2 8 = .ptr M.length 0 := w8.trans u8
          have hKs : Kp L (H3.set M.length (.cells [.str (tabs.getD i []), .bool true, .int .i64 0, .nilsl] 29)) b := by
            have hk := hKn.trans hK3
            exact ⟨by have := hk.1; simp; omega, fun x hx hxb => by rw [List.getElem?_set_ne (by omega)]; exact hk.2 x hx hxb⟩
          obtain ⟨v', ts3, a1, a2⟩ := fin H4 H' ts2 ds qd true 0 f1 (hKs.trans hK4) f2 f4 f5 f6 f7 (.inl ⟨rfl, rfl⟩)
          have ld := ld4_at f3
          simp -implicitDefEqProofs only [Wa,Wb,Wc,Wd,We,Wf,Wg,Wh,Wi,Wj,Wk,Wl,Wm,Wn,Zo,Zp,evalT,Nat.reduceLT,Nat.reduceEqDiff,if_true,if_false,reduceIte,Ys,ofVal,ofCell,argT,resT,setT,Y0,Int.reduceEq,Int.reduceLT,Int.reduceLE,Int.reduceNeg,mb,Nat.reduceBEq,tys,stb,Va,storeList,Nat.reduceAdd,Nat.reduceLeDiff,tysc,z0,z3,z5,z6,z7,z8,e2,ld,opT_rowO,rowS1,a1]
          exact a2
        · have g3 : (k3 = 1) = False := eq_false hk3
          obtain ⟨k4, H4, hT4, hH4, hK4, hl4, p5, p6, _⟩ := take_at K hH3 5 (by simp [In64])
          have hp6 := p6 (by decide)
          have hP4 : H4[M.length]? = _ := (hK4.2 _ (List.getElem?_eq_some_iff.1 hP3).1 hPb).trans hP3
          simp -implicitDefEqProofs only [Wa,Wb,Wc,Wd,We,Wf,Wg,Wh,Wi,Wj,Wk,Wl,Wm,Wn,Zo,Zp,evalT,Nat.reduceLT,Nat.reduceEqDiff,if_true,if_false,reduceIte,Ys,ofVal,ofCell,argT,resT,setT,Y0,Int.reduceEq,Int.reduceLT,Int.reduceLE,Int.reduceNeg,mb,Nat.reduceBEq,tys,stb,Va,storeList,Nat.reduceAdd,Nat.reduceLeDiff,tysc,v0,v3,v5,v6,v7,u8,c3,hT3,g3,hT4]
          refine inner_loop K hPb hA h5 p5 hp6 v0 v3 u8 rfl rfl hH4 hP4 fun T2 H' ts2 ds qd w0 w3 w5 w6 w7 w8 f1 f2 f3 f4 f5 f6 f7 => ?_
          have z0 : T2 0 = .ptr b 0 := w0.trans v0
          have z3 : T2 3 = .row (flatC cs) cs.length q := w3.trans v3
          have z5 : T2 5 = .int .i64 n := w5.trans v5
          have z6 : T2 6 = v := w6.trans v6
          have z7 : T2 7 = .int .i64 i := w7.trans v7
          have z8 : T2 8 = .ptr M.length 0 := w8.trans u8
          obtain ⟨v', ts3, a1, a2⟩ := fin H4 H' ts2 ds qd false (1 + k2) f1 ((hKn.trans hK3).trans hK4) f2 f4 f5 f6 f7 (.inr ⟨rfl, by omega, by omega⟩)
          have ld := ld4_at f3
          simp -implicitDefEqProofs only [Wa,Wb,Wc,Wd,We,Wf,Wg,Wh,Wi,Wj,Wk,Wl,Wm,Wn,Zo,Zp,evalT,Nat.reduceLT,Nat.reduceEqDiff,if_true,if_false,reduceIte,Ys,ofVal,ofCell,argT,resT,setT,Y0,Int.reduceEq,Int.reduceLT,Int.reduceLE,Int.reduceNeg,mb,Nat.reduceBEq,tys,stb,Va,storeList,Nat.reduceAdd,Nat.reduceLeDiff,tysc,z0,z3,z5,z6,z7,z8,e2,ld,opT_rowO,rowS1,a1]
          exact a2
    · have hie : i = n := by omega
      subst hie
      have c2 : ¬ (i : Int) < (i : Int) := by omega
      obtain ⟨l, hl⟩ := hlast
      obtain ⟨rfl, d2, d3⟩ := hl
      simp -implicitDefEqProofs only [Wa,Wb,Wc,Wd,We,Wf,Wg,Wh,Wi,Wj,Wk,Wl,Wm,Wn,Zo,Zp,evalT,Nat.reduceLT,Nat.reduceEqDiff,if_true,if_false,reduceIte,Ys,ofVal,ofCell,argT,resT,setT,Y0,Int.reduceEq,Int.reduceLT,Int.reduceLE,Int.reduceNeg,mb,Nat.reduceBEq,tys,stb,Va,storeList,Nat.reduceAdd,Nat.reduceLeDiff,t0,t3,t5,t6,t7,c2]
      exact ⟨M, ts', i, l, rfl, hg, by omega, by omega, ⟨rfl, d2, d3⟩, hKM⟩
end
end Go.Proofs.YtbikmhpobflfeaaDoor.F
namespace Go.Proofs.YtbikmhpobflfeaaDoor.F
open Go.Ab
set_option maxHeartbeats 4000000
set_option maxHeartbeats 4000000
set_option maxRecDepth 100000
set_option linter.unusedSimpArgs false
set_option linter.unusedVariables false
set_option linter.unusedSectionVars false
theorem at59 : env.P.funcs[59]? = some Tryd.f59 := by kernel_rfl
theorem at62 : env.P.funcs[62]? = some Tryd.f62 := by kernel_rfl
theorem at26 : env.P.funcs[26]? = some Tryd.f26 := by kernel_rfl
theorem u24 : env.P.underlying 24 = some (.slice 9) := tys.2.2.2.1
theorem u27 : env.P.underlying 27 = some (.slice 44) := tys.2.2.2.2.1
theorem agg29 (h : List AObj) (p : V) : aload env h 29 p = (loadCellsV h 4 p).map .agg := by unfold aload; rw [show aggT env 29 = some true by kernel_rfl, show sz env 29 = some 4 by kernel_rfl]; rfl
theorem agg44 (h : List AObj) (p : V) : aload env h 44 p = (loadCellsV h 4 p).map .agg := by unfold aload; rw [show aggT env 44 = some true by kernel_rfl, show sz env 44 = some 4 by kernel_rfl]; rfl
theorem clone_call (ws : List (List UInt8)) (hl : ws.length ≤ 1000) (σ : S) : callFn env (ev env) 59 [rowW ws] σ = some (rowW ws, σ) := by
  have h := rowW_is ws
  refine callFn_pure rfl rfl (by simp only [List.all_cons, List.all_nil, closed_W h]; rfl) at59 rfl (by simp [Tryd.f59]) (by simp [Tryd.f59]) (G_start ?_) σ
  have hlim : lim = 2 ^ 40 := rfl
  have g0 : GrowV 0 [] 1 (.row [] 0 .full) 0 [] := .full _ _ rfl
  by_cases hz : ws = []
  · subst hz
    have hA : appO env false ⟨[], []⟩ 24 24 (.row [] 0 .full) (.row [] 0 .unk) = some (.row [] 0 .full, ⟨[], []⟩) := by kernel_rfl
    unfold rowW
    simp -implicitDefEqProofs only [Tryd.f59,Wa,Wb,Wc,Wd,We,Wf,Wg,Wh,Wi,Wj,Wk,Wl,Wm,Wn,Zo,Zp,evalT,Nat.reduceLT,Nat.reduceEqDiff,if_true,if_false,reduceIte,Ys,ofVal,ofCell,argT,resT,setT,Y0,Int.reduceEq,Int.reduceLT,Int.reduceLE,Int.reduceNeg,mb,Nat.reduceBEq,tys,stb,Va,storeList,Nat.reduceAdd,Nat.reduceLeDiff,empty_mk,binO_row_nil u24,opT_rowO,rowW0,hA,List.map_nil]
    rfl
  have hpos : 0 < ws.length := by
    cases ws with
    | nil => exact absurd rfl hz
    | cons x ws => simp
  have hv : vLen (rowW ws) = some ws.length ∧ vCells [] 1 ws.length (rowW ws) = some (ws.map V.str) := by
    refine ⟨rfl, ?_⟩
    simp only [rowW, vCells, List.length_map, Nat.mul_one]
    rw [if_pos ⟨Nat.le_refl _, Nat.le_refl _⟩, List.take_of_length_le (by simp)]
  obtain ⟨v', ts', hA, hg, _⟩ := GrowV.append (E := env) (hp := []) (y := rowW ws) eW ⟨9, eW.slice⟩ g0 (Nat.zero_le _) hv.1 hv.2 (by simp) (strs_cell ws) ⟨by rw [hlim]; omega, by rw [hlim]; omega⟩
  rw [List.nil_append, Nat.zero_add] at hg
  obtain ⟨q, rfl⟩ := hg.isrow hpos
  unfold rowW at hA ⊢
  simp -implicitDefEqProofs only [Tryd.f59,Wa,Wb,Wc,Wd,We,Wf,Wg,Wh,Wi,Wj,Wk,Wl,Wm,Wn,Zo,Zp,evalT,Nat.reduceLT,Nat.reduceEqDiff,if_true,if_false,reduceIte,Ys,ofVal,ofCell,argT,resT,setT,Y0,Int.reduceEq,Int.reduceLT,Int.reduceLE,Int.reduceNeg,mb,Nat.reduceBEq,tys,stb,Va,storeList,Nat.reduceAdd,Nat.reduceLeDiff,empty_mk,binO_row_nil u24,opT_rowO,rowW0,hA]
  change sealV [] 12 (V.row (List.map V.str ws) ws.length q) = _
  rw [sealV_row, seal_strs]; rfl
theorem mb62 : env.mutb 62 3 = true := rfl
theorem el27 : elemS env 27 = some 44 := by kernel_rfl
theorem by44 : bys env 44 = some 56 := by kernel_rfl
theorem zn44 : zeroN env 44 = some 4 := by kernel_rfl
theorem sz44 : sz env 44 = some 4 := by kernel_rfl
theorem build_m {T : Tm} (L : List AObj) (ts : List Nat) : opT env true T ⟨L, ts⟩ (.buildSlice 27 0 #[]) = some (.row [] 0 .full, ⟨L, ts⟩) := by
  unfold opT
  simp only [apure, aread, astate, partsO, el27, sz44, Option.bind_some]
  simp [vFill, V.cells, S.push, env]
theorem flat_cells {cs : List Col} (ok : OkC cs) : (flatC cs).all V.isCell = true := by
  induction cs with
  | nil => rfl
  | cons c cs ih =>
    rw [flatC_cons]
    have h1 := isCell_W (ok c (by simp))
    simp only [List.all_cons, isCell_str, isCell_int, h1, ih fun x hx => ok x (by simp [hx]), Bool.and_self]
theorem app_m (L : List AObj) (ts : List Nat) (cs : List Col) (ok : OkC cs) (hl : cs.length ≤ 1000) (hn : cs.length ≠ 0) (c : RCap) : appO env true ⟨L, ts⟩ 27 27 (.row [] 0 .full) (.row (flatC cs) cs.length c) =
    some (.hsl L.length 0 cs.length cs.length (.grow 4), ⟨L ++ [.cells (flatC cs) 44], ts⟩) := by
  have hnew : ∀ h, vCells h 4 cs.length (.row (flatC cs) cs.length c) = some (flatC cs) := fun h => by simp [vCells, flatC_len, List.take_of_length_le (Nat.le_of_eq (flatC_len cs))]
  have hl2 : (0 + cs.length) * 56 ≤ lim ∧ 0 + cs.length ≤ lim ∧ ([] : List V).length = 0 * 4 ∧ (flatC cs).all V.isCell = true := by have h : lim = 2 ^ 40 := rfl; rw [h]; exact ⟨by omega, by omega, rfl, flat_cells ok⟩
  unfold appO
  simp only [el27, sz44, by44, zn44, u27, vLen, hnew, Option.bind_some, if_true]
  simp only [aappend]
  rw [if_neg hn, if_pos hl2]
  simp [S.push]
theorem cloneC_call (L : List AObj) (ts : List Nat) (cs : List Col) (ok : OkC cs) (hl : cs.length ≤ 1000) (hn : cs.length ≠ 0) (c : RCap) : callFn env (ev env) 62 [.row (flatC cs) cs.length c] ⟨L, ts⟩ = some (.hsl L.length 0 cs.length cs.length (.grow 4), ⟨L ++ [.cells (flatC cs) 44], ts⟩) := by
  refine callFn_eq rfl rfl at62 rfl (by simp [Tryd.f62]) (by simp [Tryd.f62]) (G_start ?_)
  simp -implicitDefEqProofs only [Tryd.f62,Wa,Wb,Wc,Wd,We,Wf,Wg,Wh,Wi,Wj,Wk,Wl,Wm,Wn,Zo,Zp,evalT,Nat.reduceLT,Nat.reduceEqDiff,if_true,if_false,reduceIte,Ys,ofVal,ofCell,argT,resT,setT,Y0,Int.reduceEq,Int.reduceLT,Int.reduceLE,Int.reduceNeg,mb,Nat.reduceBEq,tys,stb,empty_mk,binO_row_nil u27,mb62,build_m,app_m L ts cs ok hl hn c]
  simp only [oneOr, and_self]
end Go.Proofs.YtbikmhpobflfeaaDoor.F
namespace Go.Proofs.YtbikmhpobflfeaaDoor.F
open Go.Ab
set_option maxHeartbeats 4000000
set_option maxHeartbeats 4000000
set_option maxRecDepth 100000
set_option linter.unusedSimpArgs false
set_option linter.unusedVariables false
set_option linter.unusedSectionVars false
abbrev oS (nm : List UInt8) (pb : Bool) (many : Int) (v : V) : AObj := .cells [.str nm, .bool pb, .int .i64 many, v] 29
abbrev hC (b n : Nat) : V := .hsl b 0 n n (.grow 4)
def cpX (n : Nat) (nm : List UInt8) (pb : Bool) (many : Int) (cs : List Col) : List AObj := [oS nm pb many (hC (n + 2) cs.length), oS nm pb many (hC (n + 2) cs.length), .cells (flatC cs) 44]
theorem copy_call' (nm : List UInt8) (pb : Bool) (many : Int) (cs : List Col) (q : RCap) (hw : ∀ i, i < cs.length → (cs.getD i Col.none).w = rowW (cs.getD i Col.none).ws ∧ (cs.getD i Col.none).ws.length ≤ 1000) (ok : OkC cs) (hl : cs.length ≤ 1000) (hn : cs.length ≠ 0) (L : List AObj) (ts : List Nat) :
    callFn env (ev env) 26 [.agg [.str nm, .bool pb, .int .i64 many, .row (flatC cs) cs.length q]] ⟨L, ts⟩ = some (.agg [.str nm, .bool pb, .int .i64 many, hC (L.length + 2) cs.length], ⟨L ++ cpX L.length nm pb many cs, ts⟩) := by
  refine callFn_eq rfl rfl at26 rfl (by simp [Tryd.f26]) (by simp [Tryd.f26]) (G_start ?_)
  obtain ⟨z, hz⟩ : ∃ z, z = oS [] false 0 .nilsl := ⟨_, rfl⟩
  have p1 : ∀ a : AObj, (L ++ [a])[L.length]? = some a := fun a => heap_end _ _
  have l1 : ∀ a : AObj, (L ++ [a]).length = L.length + 1 := fun a => by simp
  have p2 : ∀ a b : AObj, (L ++ [a] ++ [b])[L.length]? = some a := fun a b => by simp
  have p2' : ∀ a b : AObj, (L ++ [a] ++ [b])[L.length + 1]? = some b := fun a b => by simp
  have l2 : ∀ a b : AObj, (L ++ [a] ++ [b]).length = L.length + 2 := fun a b => by simp
  have p3 : ∀ a b c : AObj, (L ++ [a] ++ [b] ++ [c])[L.length]? = some a := fun a b c => by simp
  have s3 : ∀ a b c d : AObj, (L ++ [a] ++ [b] ++ [c]).set L.length d = L ++ [d] ++ [b] ++ [c] := fun a b c d => by simp
  have p3' : ∀ a b c : AObj, (L ++ [a] ++ [b] ++ [c])[L.length + 1]? = some b := fun a b c => by simp
  have s3' : ∀ a b c d : AObj, (L ++ [a] ++ [b] ++ [c]).set (L.length + 1) d = L ++ [a] ++ [d] ++ [c] := fun a b c d => by simp
  have p3'' : ∀ a b c : AObj, (L ++ [a] ++ [b] ++ [c])[L.length + 2]? = some c := fun a b c => by simp
  have s3'' : ∀ a b c d : AObj, (L ++ [a] ++ [b] ++ [c]).set (L.length + 2) d = L ++ [a] ++ [b] ++ [d] := fun a b c d => by simp
  have hC0 := fun a b => cloneC_call (L ++ [a] ++ [b]) ts cs ok hl hn q
  simp only [l2] at hC0
  have hrc : (V.row (flatC cs) cs.length q).isCell = true := rfl
  have hrs : (V.row (flatC cs) cs.length q).cells = [V.row (flatC cs) cs.length q] := rfl
  have hcc : (hC (L.length + 2) cs.length).cells = [hC (L.length + 2) cs.length] := rfl
  have hci : (hC (L.length + 2) cs.length).isCell = true := rfl
  have hcl : vLenT (some (.slice 44)) (hC (L.length + 2) cs.length) = some (.int .i64 cs.length) := rfl
  simp -implicitDefEqProofs only [Tryd.f26,Wa,Wb,Wc,Wd,We,Wf,Wg,Wh,Wi,Wj,Wk,Wl,Wm,Wn,Zo,Zp,evalT,Nat.reduceLT,Nat.reduceEqDiff,if_true,if_false,reduceIte,Ys,ofVal,ofCell,argT,resT,setT,Y0,Int.reduceEq,Int.reduceLT,Int.reduceLE,Int.reduceNeg,mb,Nat.reduceBEq,tys,stb,Va,storeList,Nat.reduceAdd,Nat.reduceLeDiff,empty_mk,hrc,hrs,isCell_str,isCell_bool,isCell_int,isCell_nilsl,p1,l1,p2,p2',l2,p3,s3,hC0,hcc,hci,hcl]
  refine loop_rule (fun m T D σ => D = [] ∧ T 1 = .ptr L.length 0 ∧ T 2 = .ptr (L.length + 1) 0 ∧ T 10 = .int .i64 cs.length ∧ σ = ⟨L ++ [oS nm pb many (hC (L.length + 2) cs.length)] ++ [oS [] false 0 .nilsl] ++ [.cells (flatC cs) 44], ts⟩ ∧ ∃ i : Nat, T 11 = .int .i64 i ∧ i ≤ cs.length ∧ m = cs.length - i) ?_ (cs.length - 0) _ _ _
    ⟨rfl, rfl, rfl, rfl, rfl, 0, rfl, by omega, rfl⟩
  rintro m T D σ ⟨rfl, t1, t2, t10, rfl, i, t11, hi, rfl⟩
  refine G_start ?_
  by_cases hlt : i < cs.length
  · have c1 : (i : Int) < (cs.length : Int) := by omega
    have c2 : (0 : Int) ≤ (i : Int) ∧ (i : Int) < (cs.length : Int) := by omega
    have e1 : IntKind.i64.wrap ((i : Int) + 1) = ((i + 1 : Nat) : Int) := by rw [wrap_i64 (by omega) (by omega)]; omega
    obtain ⟨hw1, hw2⟩ := hw i hlt
    have hcl := clone_call (cs.getD i Col.none).ws hw2
    rw [← hw1] at hcl
    have hic := isCell_W (ok.at hlt)
    have hfit : i * 4 + 3 + 1 ≤ (flatC cs).length := by rw [flatC_len]; omega
    have hcw : (cs.getD i Col.none).w.cells = [(cs.getD i Col.none).w] := by rw [hw1]; rfl
    have hix : vIndexAddr 4 (hC (L.length + 2) cs.length) (.int .i64 (i : Int)) = some (.ptr (L.length + 2) (i * 4)) := by rw [index_hsl, if_pos c2, Int.toNat_natCast, Nat.zero_add]
    have hst : storeAt ⟨L ++ [oS nm pb many (hC (L.length + 2) cs.length)] ++ [oS [] false 0 .nilsl] ++ [.cells (flatC cs) 44], ts⟩ [(cs.getD i Col.none).w] (L.length + 2) (i * 4 + 3) (some (.cells (flatC cs) 44)) = some ⟨L ++ [oS nm pb many (hC (L.length + 2) cs.length)] ++ [oS [] false 0 .nilsl] ++ [.cells (flatC cs) 44], ts⟩ := by
      rw [YE, if_pos ⟨by simpa using hfit, by simp only [List.all_cons, List.all_nil, hic, Bool.and_self]⟩, storeList_same (flatC_w hlt)]
      exact congrArg (fun h => some (S.mk h ts)) (s3'' _ _ _ _)
    simp -implicitDefEqProofs only [Wa,Wb,Wc,Wd,We,Wf,Wg,Wh,Wi,Wj,Wk,Wl,Wm,Wn,Zo,Zp,evalT,Nat.reduceLT,Nat.reduceEqDiff,if_true,if_false,reduceIte,Ys,ofVal,ofCell,argT,resT,setT,Y0,Int.reduceEq,Int.reduceLT,Int.reduceLE,Int.reduceNeg,mb,Nat.reduceBEq,tys,stb,t1,t2,t10,t11,c1,e1,p3,p3'',hix,flatC_w hlt,hcl,hcw,hst]
    exact ⟨by kernel_rfl, cs.length - (i + 1), by omega, i + 1, rfl, by omega, rfl⟩
  · have c1 : ¬ (i : Int) < (cs.length : Int) := by omega
    have ld : ∀ b c : AObj, loadCellsV (L ++ [oS nm pb many (hC (L.length + 2) cs.length)] ++ [b] ++ [c]) 4 (.ptr L.length 0) = some [.str nm, .bool pb, .int .i64 many, hC (L.length + 2) cs.length] := fun b c => ld4_at (p3 _ _ _)
    have ld' : ∀ a c : AObj, loadCellsV (L ++ [a] ++ [oS nm pb many (hC (L.length + 2) cs.length)] ++ [c]) 4 (.ptr (L.length + 1) 0) = some [.str nm, .bool pb, .int .i64 many, hC (L.length + 2) cs.length] := fun a c => ld4_at (p3' _ _ _)
    simp -implicitDefEqProofs only [Wa,Wb,Wc,Wd,We,Wf,Wg,Wh,Wi,Wj,Wk,Wl,Wm,Wn,Zo,Zp,evalT,Nat.reduceLT,Nat.reduceEqDiff,if_true,if_false,reduceIte,Ys,ofVal,ofCell,argT,resT,setT,Y0,Int.reduceEq,Int.reduceLT,Int.reduceLE,Int.reduceNeg,mb,Nat.reduceBEq,tys,stb,Va,storeList,Nat.reduceAdd,Nat.reduceLeDiff,t1,t2,t10,t11,c1,ld,ld',isCell_str,isCell_bool,isCell_int,hci,p3',s3']
    exact ⟨rfl, by simp [cpX]⟩
end Go.Proofs.YtbikmhpobflfeaaDoor.F
namespace Go.Proofs.YtbikmhpobflfeaaDoor.F
open Go.Ab
set_option maxHeartbeats 4000000
set_option maxHeartbeats 4000000
set_option maxRecDepth 100000
set_option linter.unusedSimpArgs false
set_option linter.unusedVariables false
set_option linter.unusedSectionVars false
theorem at10 : env.P.funcs[10]? = some Tryd.f10 := by kernel_rfl
theorem at42 : env.P.funcs[42]? = some Tryd.f42 := by kernel_rfl
def sealS (l : List Sch) : List Sch := l.map fun s => { s with cv := .row (flatC s.cs) s.cs.length .unk }
theorem sealS_at (l : List Sch) (j : Nat) (hj : j < l.length) : (sealS l).getD j Sch.none = { l.getD j Sch.none with cv := .row (flatC (l.getD j Sch.none).cs) (l.getD j Sch.none).cs.length .unk } := by
  simp [sealS, List.getD, hj]
theorem seal_S (h : List AObj) (d : Nat) : ∀ {l : List Sch}, (∀ s ∈ l, OkC s.cs ∧ ∃ q, s.cv = .row (flatC s.cs) s.cs.length q) → (flatS l).mapM (sealV h (d + 3)) = some (flatS (sealS l))
  | [], _ => rfl
  | s :: l, ok => by
    obtain ⟨o1, q, o2⟩ := ok s (by simp)
    have ih := seal_S h d (l := l) fun x hx => ok x (by simp [hx])
    have e : flatS (s :: l) = .str s.name :: .bool s.pub :: .int .i64 s.many :: s.cv :: flatS l := rfl
    have e2 : flatS (sealS (s :: l)) = .str s.name :: .bool s.pub :: .int .i64 s.many :: .row (flatC s.cs) s.cs.length .unk :: flatS (sealS l) := rfl
    rw [e, e2, mapM_seal_cons, mapM_seal_cons, mapM_seal_cons, mapM_seal_cons, ih, o2, sealV_row, seal_flat2 h d o1, sealV_str, sealV_int]
    rfl
theorem AllS.mem {cells : List V} {n : Nat} {l : List Sch} (h : AllS cells n l) : ∀ s ∈ l, Fine s.cs ∧ s.cs.length ≤ 5 ∧ 1 ≤ s.cs.length ∧ ∃ q, s.cv = .row (flatC s.cs) s.cs.length q := fun s hs => by
  obtain ⟨i, hi, rfl⟩ := List.mem_iff_getElem.1 hs
  have := h.2.2 i (by rw [← h.2.1]; exact hi)
  rw [List.getD, List.getElem?_eq_getElem hi] at this
  exact ⟨this.1.fine, this.1.five, this.1.one, this.2⟩
theorem all_call {l : List Sch} {n : Nat} (h : AllS (flatS l) n l) (hn : n ≤ 3) (q : RCap) (L : List AObj) (ts : List Nat) : callFn env (ev env) 27 [.row (flatS l) n q] ⟨L, ts⟩ = some (.tup [.int .i64 0, .int .i64 (-1), .int .i64 (-1)], ⟨L, ts⟩) := by
  have hl : (sealS l).length = l.length := by simp [sealS]
  have hln := h.2.1
  have hm := h.mem
  refine call_N (args' := [.row (flatS (sealS l)) n .unk]) ?_ (fun σ => ?_) rfl rfl rfl rfl (ev env)
  · rw [List.mapM_cons]
    change (sealV L 12 (.row (flatS l) n q)).bind _ = _
    rw [sealV_row, seal_S L 8 fun s hs => ⟨(hm s hs).1.ok, (hm s hs).2.2.2⟩]
    rfl
  · have h1 : IsS (.row (flatS (sealS l)) n .unk) (sealS l) := .inr (by rw [hl, hln])
    have h2 : OkS (sealS l) := fun s hs => by
      simp only [sealS, List.mem_map] at hs
      obtain ⟨x, hx, rfl⟩ := hs
      exact ⟨.inr rfl, (hm x hx).1.ok⟩
    have hg : ∀ i, i < (sealS l).length → FineS i ((sealS l).getD i Sch.none) := fun i hi => by
      rw [hl] at hi
      rw [sealS_at l i hi]
      obtain ⟨g, _⟩ := h.2.2 i (by omega)
      exact ⟨g.name, g.many, g.one, g.five, g.fine⟩
    have := checkall_call _ _ h1 h2 (by omega) (fun i hi => by
      have g := hg i hi
      have hnm := tabs_name i (by omega)
      refine ⟨by rw [g.name]; have := hnm.2.1; omega, by have := g.five; omega, g.fine.short⟩) σ
    rw [this, allE_fine (by omega) hg]
    rfl
theorem one_call {cs : List Col} (hF : Fine cs) (hl : cs.length ≤ 5) {nm : List UInt8} (hn : IsName nm) {pb : Bool} {many : Int} (hm : (pb = true ∧ many = 0) ∨ (pb = false ∧ 1 ≤ many ∧ many ≤ 50)) {v cv : V} {L : List AObj} (hv : sealV L 11 v = some cv) (hi : IsC cv cs) (ts : List Nat) :
    callFn env (ev env) 23 [.agg [.str nm, .bool pb, .int .i64 many, v]] ⟨L, ts⟩ = some (.tup [.int .i64 (if cs.length = 0 then 3 else 0), .int .i64 (-1)], ⟨L, ts⟩) := by
  refine call_N (args' := [.agg [.str nm, .bool pb, .int .i64 many, cv]]) ?_ (fun σ => ?_) rfl rfl rfl rfl (ev env)
  · rw [List.mapM_cons]
    change (sealV L 12 (.agg [.str nm, .bool pb, .int .i64 many, v])).bind _ = _
    rw [sealV_agg, mapM_seal_cons, mapM_seal_cons, mapM_seal_cons, mapM_seal_cons, mapM_seal_nil, sealV_str, hv]
    rfl
  · rw [YtbikmhpobflfeaaDoor.check_call nm pb many _ cs hi hF.ok (by have := hn.2.1; omega) (by omega) hF.short, hF.check hn hm (by omega)]
    split <;> rfl
theorem checks_call {cs : List Col} (hF : Fine cs) (hl : cs.length ≤ 5) {nm : List UInt8} (hn : IsName nm) {pb : Bool} {many : Int} (hm : (pb = true ∧ many = 0) ∨ (pb = false ∧ 1 ≤ many ∧ many ≤ 50)) {v : V} {L : List AObj} (e : Int) (he : e = if cs.length = 0 then 3 else 0)
    (hv : ∃ cv, IsC cv cs ∧ ∀ o, sealV (L ++ [o]) 11 v = some cv) (ts : List Nat) :
    ∃ o, callFn env (ev env) 42 [.agg [.str nm, .bool pb, .int .i64 many, v], .int .i64 e, .int .i64 (-1)] ⟨L, ts⟩ = some (.bool true, ⟨L ++ [o], ts⟩) := by
  subst he
  obtain ⟨cv, hi, hv⟩ := hv
  have h1 := one_call hF hl hn hm (hv (.cells [.str nm, .bool pb, .int .i64 many, v] 29)) hi ts
  have ld : loadCellsV (L ++ [.cells [.str nm, .bool pb, .int .i64 many, v] 29]) 4 (.ptr L.length 0) = some [.str nm, .bool pb, .int .i64 many, v] := ld4_at (heap_end _ _)
  refine ⟨.cells [.str nm, .bool pb, .int .i64 many, v] 29, ?_⟩
  refine callFn_eq rfl rfl at42 rfl (by simp [Tryd.f42]) (by simp [Tryd.f42]) (G_start ?_)
  generalize (if cs.length = 0 then (3 : Int) else 0) = e at *
  simp -implicitDefEqProofs only [Tryd.f42,Wa,Wb,Wc,Wd,We,Wf,Wg,Wh,Wi,Wj,Wk,Wl,Wm,Wn,Zo,Zp,evalT,Nat.reduceLT,Nat.reduceEqDiff,if_true,if_false,reduceIte,Ys,ofVal,ofCell,argT,resT,setT,Y0,Int.reduceEq,Int.reduceLT,Int.reduceLE,Int.reduceNeg,mb,Nat.reduceBEq,tys,stb,Va,storeList,Nat.reduceAdd,Nat.reduceLeDiff,tys,tysc,YW,heap_end,ld,h1]
  exact ⟨rfl, trivial⟩
theorem seal_blk {cs : List Col} (ok : OkC cs) {L : List AObj} {b n : Nat} (hn : n = cs.length) (hb : L[b]? = some (.cells (flatC cs) 44)) : ∃ cv, IsC cv cs ∧ ∀ o, sealV (L ++ [o]) 11 (hC b n) = some cv := by
  subst hn
  refine ⟨_, .inr rfl, fun o => ?_⟩
  have hb2 : (L ++ [o])[b]? = some (.cells (flatC cs) 44) := by rw [List.getElem?_append_left (List.getElem?_eq_some_iff.1 hb).1]; exact hb
  rw [hC, sealV_hsl _ 10 b 0 cs.length cs.length _ _ 44 hb2 (Nat.le_refl _), List.drop_zero, seal_flat2 _ 8 ok]
  rfl
theorem seal_G {cs : List Col} (ok : OkC cs) {base : Nat} {ts : List Nat} {v : V} (hg : GrowV base ts 4 v cs.length (flatC cs)) (L : List AObj) : ∃ cv, IsC cv cs ∧ ∀ o, sealV (L ++ [o]) 11 v = some cv := by
  by_cases hz : cs = []
  · subst hz
    cases hg with
    | nil => exact ⟨_, .inl ⟨rfl, rfl⟩, fun o => rfl⟩
    | full _ _ hl => exact ⟨_, .inr rfl, fun o => rfl⟩
    | tok _ _ k e hl hb ht => exact ⟨_, .inr rfl, fun o => rfl⟩
  · obtain ⟨q, rfl⟩ := hg.isrow (by cases cs with | nil => exact absurd rfl hz | cons x r => simp)
    refine ⟨_, .inr rfl, fun o => ?_⟩
    rw [sealV_row, seal_flat2 _ 8 ok]
    rfl
theorem slice_lo (b n i : Nat) (hi : i ≤ n) : ∃ y, sliceO env 27 (hC b n) none (some (.int .i64 (i : Int))) none = some y ∧ vLen y = some i ∧ ∀ (h : List AObj) (cs : List Col), h[b]? = some (.cells (flatC cs) 44) → cs.length = n → vCells h 4 i y = some (flatC (cs.take i)) := by
  have h1 : sliceO env 27 (hC b n) none (some (.int .i64 (i : Int))) none = some (.hsl b (0 + 0 * 4) (i - 0) (n - 0) (.grow 4)) := by
    simp only [sliceO, u27, sz44, Option.bind_some, hC, vSlice, vBound, Int.toNat_natCast]
    rw [if_pos (by omega)]
    simp [HCap.cut]
  refine ⟨_, h1, by simp [vLen], fun h cs hb hl => ?_⟩
  simp only [vCells, hb, Nat.sub_zero]
  rw [if_pos ⟨by omega, by rw [flatC_len]; omega⟩]
  simp [flatC_take]
theorem slice_hi (b n i : Nat) (hi : i < n) : ∃ y, sliceO env 27 (hC b n) (some (.int .i64 ((i + 1 : Nat) : Int))) none none = some y ∧ vLen y = some (n - (i + 1)) ∧ ∀ (h : List AObj) (cs : List Col), h[b]? = some (.cells (flatC cs) 44) → cs.length = n → vCells h 4 (n - (i + 1)) y = some (flatC (cs.drop (i + 1))) := by
  by_cases he : i + 1 = n
  · have h1 : sliceO env 27 (hC b n) (some (.int .i64 ((i + 1 : Nat) : Int))) none none = some (.row [] 0 .unk) := by
      simp only [sliceO, u27, sz44, Option.bind_some, hC, vSlice, vBound, Int.toNat_natCast]
      rw [if_pos (by omega)]
      simp only [he]
      rw [if_neg (by omega), if_pos trivial]
    refine ⟨_, h1, by simp [vLen]; omega, fun h cs hb hl => ?_⟩
    have : n - (i + 1) = 0 := by omega
    rw [this, List.drop_of_length_le (by omega)]
    rfl
  · have h1 : sliceO env 27 (hC b n) (some (.int .i64 ((i + 1 : Nat) : Int))) none none = some (.hsl b (0 + (i + 1) * 4) (n - (i + 1)) (n - (i + 1)) (.grow 4)) := by
      simp only [sliceO, u27, sz44, Option.bind_some, hC, vSlice, vBound, Int.toNat_natCast]
      rw [if_pos (by omega)]
      simp only
      rw [if_pos (.inl (by omega))]
      simp [HCap.cut]
    refine ⟨_, h1, by simp [vLen], fun h cs hb hl => ?_⟩
    simp only [vCells, hb, Nat.zero_add]
    rw [if_pos ⟨Nat.le_refl _, by rw [flatC_len]; omega⟩, flatC_drop, List.take_of_length_le (by rw [flatC_len]; simp; omega)]
theorem store_C {cs : List Col} {i : Nat} (hi : i < cs.length) (c : Col) : storeList (flatC cs) (i * 4) [.str c.name, .int .i64 c.lo, .int .i64 c.hi, c.w] = flatC (cs.set i c) := by
  rw [List.set_eq_take_append_cons_drop, if_pos hi, flatC_app, flatC_cons, ← flatC_take, ← flatC_drop]
  unfold storeList
  simp only [List.length_cons, List.length_nil]
  rw [show i * 4 + (0 + 1 + 1 + 1 + 1) = (i + 1) * 4 by omega]
  simp
end Go.Proofs.YtbikmhpobflfeaaDoor.F
namespace Go.Proofs.YtbikmhpobflfeaaDoor.F
open Go.Ab
set_option maxHeartbeats 4000000
set_option maxHeartbeats 4000000
set_option maxRecDepth 100000
set_option linter.unusedSimpArgs false
set_option linter.unusedVariables false
set_option linter.unusedSectionVars false
theorem hC_cell (b n : Nat) : (hC b n).isCell = true := rfl
theorem region8 {Q : Post} {ks : List Kt} {T : Tm} {M : List AObj} {ts : List Nat} {P : Nat} {nm : List UInt8} {pb : Bool} {many : Int} {cs : List Col} {q : RCap} (hF : Fine cs) (h1 : 1 ≤ cs.length) (h5 : cs.length ≤ 5) (t14 : T 14 = .ptr P 0) (hP : M[P]? = some (oS nm pb many (.row (flatC cs) cs.length q)))
    (h : ∀ (T' : Tm), T' 2 = T 2 → T' 3 = T 3 → T' 9 = T 9 → T' 14 = T 14 → T' 15 = .ptr M.length 0 → T' 16 = .ptr (M.length + 1) 0 → G env 10 none 111 Q ks .skip T' [] ⟨M ++ [oS nm pb many (hC (M.length + 4) cs.length), oS nm pb many (hC (M.length + 7) cs.length)] ++ cpX (M.length + 2) nm pb many cs ++ cpX (M.length + 5) nm pb many cs, ts⟩) :
    G env 10 none 111 Q ks (regB 8 (bodyOf Tryd.f10)) T [] ⟨M, ts⟩ := by
  simp only [bodyOf, Tryd.f10, Option.getD_some, regB, Option.or, Nat.reduceEqDiff, if_false, if_true, reduceIte]
  have hc1 : ∀ r s : AObj, callFn env (ev env) 26 [.agg [.str nm, .bool pb, .int .i64 many, .row (flatC cs) cs.length q]] ⟨M ++ [r, s], ts⟩ = some (.agg [.str nm, .bool pb, .int .i64 many, hC (M.length + 4) cs.length], ⟨M ++ [r, s] ++ cpX (M.length + 2) nm pb many cs, ts⟩) := fun r s => by
    have := copy_call' nm pb many cs q (fun i hi => ⟨hF.row i hi, hF.ws i hi⟩) hF.ok (by omega) (by omega) (M ++ [r, s]) ts
    simpa using this
  have hc2 : ∀ r s : AObj, callFn env (ev env) 26 [.agg [.str nm, .bool pb, .int .i64 many, .row (flatC cs) cs.length q]] ⟨M ++ [r, s] ++ cpX (M.length + 2) nm pb many cs, ts⟩ = some (.agg [.str nm, .bool pb, .int .i64 many, hC (M.length + 7) cs.length], ⟨M ++ [r, s] ++ cpX (M.length + 2) nm pb many cs ++ cpX (M.length + 5) nm pb many cs, ts⟩) := fun r s => by
    have := copy_call' nm pb many cs q (fun i hi => ⟨hF.row i hi, hF.ws i hi⟩) hF.ok (by omega) (by omega) (M ++ [r, s] ++ cpX (M.length + 2) nm pb many cs) ts
    have e : (M ++ [r, s] ++ cpX (M.length + 2) nm pb many cs).length = M.length + 5 := by simp [cpX]
    rw [e] at this
    exact this
  have hlt := (List.getElem?_eq_some_iff.1 hP).1
  generalize cpX (M.length + 2) nm pb many cs = X1 at *
  generalize cpX (M.length + 5) nm pb many cs = X2 at *
  have hx1 := hC_cell (M.length + 4) cs.length
  have hx2 := hC_cell (M.length + 7) cs.length
  generalize hC (M.length + 4) cs.length = x1 at *
  generalize hC (M.length + 7) cs.length = x2 at *
  obtain ⟨St, hSt⟩ : ∃ St : Nat → S, ∀ c, St c = ⟨M ++ [if c.testBit 6 = true then oS nm pb many x1 else if c.testBit 4 = true then AObj.cells [.str [], .bool false, .int .i64 0, .nilsl] 29 else .resv, if c.testBit 7 = true then oS nm pb many x2 else if c.testBit 5 = true then AObj.cells [.str [], .bool false, .int .i64 0, .nilsl] 29 else .resv] ++ (if c.testBit 1 = true then X1 else []) ++ (if c.testBit 3 = true then X2 else []), ts⟩ := ⟨_, fun c => rfl⟩
  have hI : ∀ j, j ≠ 1 → j ≠ 3 → j ≠ 4 → j ≠ 5 → j ≠ 6 → j ≠ 7 → ∀ c, St (c ||| 2 ^ j) = St c := fun j h1 h2 h3 h4 h5 h6 c => by
    rw [hSt, hSt]
    simp only [tb_or, h1, h2, h3, h4, h5, h6, decide_false, Bool.or_false]
  refine G_set rfl St (L := [.cells [.str [], .bool false, .int .i64 0, .nilsl] 29, .cells [.str [], .bool false, .int .i64 0, .nilsl] 29]) (masks := [0, 1, 0, 7, 0, 0, 63, 127]) (by kernel_rfl) (by kernel_rfl) (by kernel_rfl) (by kernel_rfl) (by kernel_rfl) (by rw [hSt]; simp) ?_
  have i0 := hI 0 (by decide) (by decide) (by decide) (by decide) (by decide) (by decide)
  have i2 := hI 2 (by decide) (by decide) (by decide) (by decide) (by decide) (by decide)
  have l0 : ∀ c, loadCellsV (St c).heap 4 (.ptr P 0) = some [.str nm, .bool pb, .int .i64 many, .row (flatC cs) cs.length q] := fun c => by
    rw [hSt]
    refine ld4_at (t := 29) ?_
    rw [List.append_assoc, List.append_assoc, List.getElem?_append_left hlt]; exact hP
  have k0 : ∀ X : List AObj, loadCellsV (M ++ X) 4 (.ptr P 0) = some [.str nm, .bool pb, .int .i64 many, .row (flatC cs) cs.length q] := fun X => by
    refine ld4_at (t := 29) ?_
    rw [List.getElem?_append_left hlt]; exact hP
  have k1 : ∀ X Y : List AObj, loadCellsV (M ++ X ++ Y) 4 (.ptr P 0) = some [.str nm, .bool pb, .int .i64 many, .row (flatC cs) cs.length q] := fun X Y => by rw [List.append_assoc]; exact k0 _
  have k2 : ∀ X Y Z : List AObj, loadCellsV (M ++ X ++ Y ++ Z) 4 (.ptr P 0) = some [.str nm, .bool pb, .int .i64 many, .row (flatC cs) cs.length q] := fun X Y Z => by rw [List.append_assoc]; exact k1 _ _
  have p1 : ∀ (a b : AObj) (X Y : List AObj), (M ++ [a, b] ++ X ++ Y)[M.length]? = some a := fun a b X Y => by simp
  have p2 : ∀ (a b : AObj) (X Y : List AObj), (M ++ [a, b] ++ X ++ Y)[M.length + 1]? = some b := fun a b X Y => by simp
  have s1 : ∀ (a b c : AObj) (X Y : List AObj), (M ++ [a, b] ++ X ++ Y).set M.length c = M ++ [c, b] ++ X ++ Y := fun a b c X Y => by simp
  have s2 : ∀ (a b c : AObj) (X Y : List AObj), (M ++ [a, b] ++ X ++ Y).set (M.length + 1) c = M ++ [a, c] ++ X ++ Y := fun a b c X Y => by simp
  simp -implicitDefEqProofs only [Wa,Wb,Wc,Wd,We,Wf,Wg,Wh,Wi,Wj,Wk,Wl,Wm,Wn,Zo,Zp,evalT,Nat.reduceLT,Nat.reduceEqDiff,if_true,if_false,reduceIte,Ys,ofVal,ofCell,argT,resT,setT,Y0,Int.reduceEq,Int.reduceLT,Int.reduceLE,Int.reduceNeg,mb,Nat.reduceBEq,tys,stb,Va,storeList,Nat.reduceAdd,Nat.reduceLeDiff,tys,tysc,GZ_nil,GZ_alloc,GZ_op,GZS_some,GZS_none,GZS_ite,GZS_nite,Qv,ia_fcall,Qp,Qs,t14,k0,k1,k2,l0,hc1,hc2,i0,i2,p1,p2,s1,s2,isCell_str,isCell_bool,isCell_int,hx1,hx2]
  refine ⟨fun _ _ _ => trivial, ?_, fun _ _ _ => trivial, ?_, ?_, ?_, ?_, ?_, ?_, ?_⟩
  · rintro c _ ⟨a1, a2, a3⟩
    have b3 : c.testBit 3 = false := a3 3 (by decide)
    have b6 : c.testBit 6 = false := a3 6 (by decide)
    have b7 : c.testBit 7 = false := a3 7 (by decide)
    rw [hSt, hSt]
    simp only [tb_or, a1, b3, b6, b7, decide_true, Bool.or_true, Bool.false_eq_true, if_false, if_true, Nat.reduceEqDiff, decide_false, Bool.or_false, List.append_nil]
    exact hc1 _ _
  · rintro c _ ⟨a1, a2, a3⟩
    have b1 := a2 1 (by decide) (by decide)
    have b6 : c.testBit 6 = false := a3 6 (by decide)
    have b7 : c.testBit 7 = false := a3 7 (by decide)
    rw [hSt, hSt]
    simp only [tb_or, a1, b1, b6, b7, decide_true, Bool.or_true, Bool.false_eq_true, if_false, if_true, Nat.reduceEqDiff, decide_false, Bool.or_false, List.append_nil]
    exact hc2 _ _
  · rintro c _ ⟨a1, a2, a3⟩
    have b6 : c.testBit 6 = false := a3 6 (by decide)
    refine ⟨29, _, rfl, tysc.2.2.2.2.2.2.2, ?_, ?_⟩
    · rw [hSt]
      simp only [a1, b6, Bool.false_eq_true, if_false]
      exact p1 _ _ _ _
    · rw [hSt, hSt]
      simp only [tb_or, a1, b6, decide_true, Bool.or_true, Bool.false_eq_true, if_false, if_true, Nat.reduceEqDiff, decide_false, Bool.or_false, S.set]
      exact congrArg (fun h => S.mk h ts) (s1 _ _ _ _ _).symm
  · rintro c _ ⟨a1, a2, a3⟩
    have b7 : c.testBit 7 = false := a3 7 (by decide)
    refine ⟨29, _, rfl, tysc.2.2.2.2.2.2.2, ?_, ?_⟩
    · rw [hSt]
      simp only [a1, b7, Bool.false_eq_true, if_false]
      exact p2 _ _ _ _
    · rw [hSt, hSt]
      simp only [tb_or, a1, b7, decide_true, Bool.or_true, Bool.false_eq_true, if_false, if_true, Nat.reduceEqDiff, decide_false, Bool.or_false, S.set]
      exact congrArg (fun h => S.mk h ts) (s2 _ _ _ _ _).symm
  · rintro c _ ⟨a1, a2, a3⟩
    have b1 := a2 1 (by decide) (by decide)
    have b3 := a2 3 (by decide) (by decide)
    have b4 := a2 4 (by decide) (by decide)
    have b5 := a2 5 (by decide) (by decide)
    have b7 : c.testBit 7 = false := a3 7 (by decide)
    rw [hSt, hSt]
    simp only [tb_or, a1, b1, b3, b4, b5, b7, decide_true, Bool.or_true, Bool.false_eq_true, if_false, if_true, Nat.reduceEqDiff, decide_false, Bool.or_false, List.append_nil]
    simp -implicitDefEqProofs only [Wa,Wb,Wc,Wd,We,Wf,Wg,Wh,Wi,Wj,Wk,Wl,Wm,Wn,Zo,Zp,evalT,Nat.reduceLT,Nat.reduceEqDiff,if_true,if_false,reduceIte,Ys,ofVal,ofCell,argT,resT,setT,Y0,Int.reduceEq,Int.reduceLT,Int.reduceLE,Int.reduceNeg,mb,Nat.reduceBEq,tys,stb,Va,storeList,Nat.reduceAdd,Nat.reduceLeDiff,p1,s1,isCell_str,isCell_bool,isCell_int,hx1]
  · rintro c _ ⟨a1, a2, a3⟩
    have b1 := a2 1 (by decide) (by decide)
    have b3 := a2 3 (by decide) (by decide)
    have b4 := a2 4 (by decide) (by decide)
    have b5 := a2 5 (by decide) (by decide)
    have b6 := a2 6 (by decide) (by decide)
    rw [hSt, hSt]
    simp only [tb_or, a1, b1, b3, b4, b5, b6, decide_true, Bool.or_true, Bool.false_eq_true, if_false, if_true, Nat.reduceEqDiff, decide_false, Bool.or_false, List.append_nil]
    simp -implicitDefEqProofs only [Wa,Wb,Wc,Wd,We,Wf,Wg,Wh,Wi,Wj,Wk,Wl,Wm,Wn,Zo,Zp,evalT,Nat.reduceLT,Nat.reduceEqDiff,if_true,if_false,reduceIte,Ys,ofVal,ofCell,argT,resT,setT,Y0,Int.reduceEq,Int.reduceLT,Int.reduceLE,Int.reduceNeg,mb,Nat.reduceBEq,tys,stb,Va,storeList,Nat.reduceAdd,Nat.reduceLeDiff,p2,s2,isCell_str,isCell_bool,isCell_int,hx2]
  · rintro c hc
    rw [hSt]
    simp only [hc 1 (by decide), hc 3 (by decide), hc 6 (by decide), hc 7 (by decide), if_true]
  · exact h _ rfl rfl rfl rfl rfl rfl
end Go.Proofs.YtbikmhpobflfeaaDoor.F
namespace Go.Proofs.YtbikmhpobflfeaaDoor.F
open Go.Ab
set_option maxHeartbeats 4000000
set_option maxHeartbeats 4000000
set_option maxRecDepth 100000
set_option linter.unusedSimpArgs false
set_option linter.unusedVariables false
set_option linter.unusedSectionVars false
theorem schemas47_call {xv : V} {xs : List Int} (K : Tk xv xs) : ∃ L' ts' n l q, callFn env (ev env) 47 [xv] ⟨[], []⟩ = some (.row (flatS l) n q, ⟨L', ts'⟩) ∧ 1 ≤ n ∧ n ≤ 3 ∧ AllS (flatS l) n l := by
  obtain ⟨v, σ', hC, L', ts', n, l, rfl, hg, h1, h2, hA, _⟩ := schemas_call K (L := [.cells [xv, .int .i64 0] 107]) (b := 0) ⟨0, Nat.zero_le _, rfl⟩ []
  obtain ⟨q, rfl⟩ := hg.isrow (by omega)
  refine ⟨L', ts', n, l, q, ?_, h1, h2, hA⟩
  have hb := build39 K.hx
  refine callFn_eq rfl rfl at47 rfl (by simp [Tryd.f47]) (by simp [Tryd.f47]) (G_start ?_)
  simp -implicitDefEqProofs only [Tryd.f47,Wa,Wb,Wc,Wd,We,Wf,Wg,Wh,Wi,Wj,Wk,Wl,Wm,Wn,Zo,Zp,evalT,Nat.reduceLT,Nat.reduceEqDiff,if_true,if_false,reduceIte,Ys,ofVal,ofCell,argT,resT,setT,Y0,Int.reduceEq,Int.reduceLT,Int.reduceLE,Int.reduceNeg,mb,Nat.reduceBEq,tys,stb,Va,storeList,Nat.reduceAdd,Nat.reduceLeDiff,tys,tysc,empty_mk,hb,YW,hC]
  exact ⟨rfl, trivial⟩
theorem drop_S (l : List Sch) {i : Nat} (h : i < l.length) : (flatS l).drop (i * 4) = .str (l.getD i Sch.none).name :: .bool (l.getD i Sch.none).pub :: .int .i64 (l.getD i Sch.none).many :: (l.getD i Sch.none).cv :: flatS (l.drop (i + 1)) := by
  have := idx_S (v := .row (flatS l) l.length .unk) (cs := l) (.inr rfl) h
  rw [Ys, if_pos (by omega)] at this
  simpa using this
theorem app_at (M X : List AObj) (k n : Nat) (h : n = M.length + k) : (M ++ X)[n]? = X[k]? := by
  subst h
  rw [List.getElem?_append_right (by omega)]
  congr 1
  omega
theorem len_row' (c : List V) (n : Nat) (q : RCap) (e : TypeId) : vLenT (some (.slice e)) (.row c n q) = some (.int .i64 n) := rfl
theorem fewer_found {xv : V} {xs : List Int} (K : Tk xv xs) (ta a b : Int) (h1 : In64 ta) (h2 : In64 a) (h3 : In64 b) : Go.Ab.Found env 10 [xv, .int .i64 ta, .int .i64 a, .int .i64 b] := by
  refine found_of_wp at10 rfl (by simp [Tryd.f10]) (by simp [Tryd.f10]) (G_start ?_)
  obtain ⟨M0, ts, n, l, q, hS, hn1, hn3, hA⟩ := schemas47_call K
  have hln := hA.2.1
  have hAll := all_call hA hn3 q M0 ts
  have hp := pick_call ta n h1 (by unfold In64; omega) (by omega)
  obtain ⟨k, hk⟩ : ∃ k : Nat, ta % (n : Int) = (k : Int) := ⟨(ta % n).toNat, by have := Int.emod_nonneg ta (b := n) (by omega); omega⟩
  have hkn : k < n := by have := Int.emod_lt_of_pos ta (b := n) (by omega); omega
  rw [hk] at hp
  have hix := drop_S l (show k < l.length by omega)
  have c0 : ((0 : Int) ≤ (k : Int) ∧ (k : Int) < (n : Int)) = True := eq_true ⟨by omega, by omega⟩
  obtain ⟨hG, q2, hcv⟩ := hA.2.2 k hkn
  have hmem := hG.fine
  generalize l.getD k Sch.none = s at *
  obtain ⟨nm, pb, many, cv, cs⟩ := s
  simp only at hcv hix hmem
  subst hcv
  have hc1 : 1 ≤ cs.length := hG.one
  have hc5 : cs.length ≤ 5 := hG.five
  have hnm : IsName nm := by have := hG.name; simp only at this; rw [this]; exact tabs_name k (by omega)
  have hmany := hG.many
  simp only at hmany
  have hpa := pick_call a cs.length h2 (by unfold In64; omega) (by omega)
  have hpb := pick_call b cs.length h3 (by unfold In64; omega) (by omega)
  obtain ⟨i, hi⟩ : ∃ k : Nat, a % (cs.length : Int) = (k : Int) := ⟨(a % cs.length).toNat, by have := Int.emod_nonneg a (b := cs.length) (by omega); omega⟩
  have hil : i < cs.length := by have := Int.emod_lt_of_pos a (b := cs.length) (by omega); omega
  obtain ⟨j, hj⟩ : ∃ k : Nat, b % (cs.length : Int) = (k : Int) := ⟨(b % cs.length).toNat, by have := Int.emod_nonneg b (b := cs.length) (by omega); omega⟩
  have hjl : j < cs.length := by have := Int.emod_lt_of_pos b (b := cs.length) (by omega); omega
  rw [hi] at hpa
  rw [hj] at hpb
  have w : cellAt ((M0 ++ [oS nm pb many (.row (flatC cs) cs.length q2)])[M0.length]?) 3 = some (.row (flatC cs) cs.length q2) := by rw [heap_end]; rfl
  have ld4 := load4_rptr
  have hrc : (V.row (flatC cs) cs.length q2).isCell = true := rfl
  simp -implicitDefEqProofs only [Tryd.f10,Wa,Wb,Wc,Wd,We,Wf,Wg,Wh,Wi,Wj,Wk,Wl,Wm,Wn,Zo,Zp,evalT,Nat.reduceLT,Nat.reduceEqDiff,if_true,if_false,reduceIte,Ys,ofVal,ofCell,argT,resT,setT,Y0,Int.reduceEq,Int.reduceLT,Int.reduceLE,Int.reduceNeg,mb,Nat.reduceBEq,tys,stb,Va,storeList,Nat.reduceAdd,Nat.reduceLeDiff,tys,tysc,empty_mk,known_call,hS,hAll,len_row',hp,c0,hix,ld4,isCell_str,isCell_bool,isCell_int,hrc,heap_end,set_end,w,hpa,hpb]
  refine ⟨by kernel_rfl, ?_⟩
  refine region8 hmem hc1 hc5 (P := M0.length) (q := q2) (nm := nm) (pb := pb) (many := many) ?_ (heap_end _ _) ?_
  · rfl
  intro T' t2 t3 t9 t14 t15 t16
  have t2 : T' 2 = .int .i64 i := t2
  have t3 : T' 3 = .int .i64 j := t3
  have t9 : T' 9 = .bool true := t9
  have t14 : T' 14 = .ptr M0.length 0 := t14
  have e1 : (M0 ++ [oS nm pb many (.row (flatC cs) cs.length q2)]).length = M0.length + 1 := by simp
  rw [e1] at t15 t16 ⊢
  generalize hH : M0 ++ [oS nm pb many (.row (flatC cs) cs.length q2)] ++ [oS nm pb many (hC (M0.length + 1 + 4) cs.length), oS nm pb many (hC (M0.length + 1 + 7) cs.length)] ++ cpX (M0.length + 1 + 2) nm pb many cs ++ cpX (M0.length + 1 + 5) nm pb many cs = H
  have g14 : H[M0.length]? = some (oS nm pb many (.row (flatC cs) cs.length q2)) := by rw [← hH]; simp [cpX]
  have g15 : H[M0.length + 1]? = some (oS nm pb many (hC (M0.length + 1 + 4) cs.length)) := by rw [← hH]; simp [cpX]
  have g16 : H[M0.length + 1 + 1]? = some (oS nm pb many (hC (M0.length + 1 + 7) cs.length)) := by
    rw [← hH, List.append_assoc, List.append_assoc, List.append_assoc, app_at _ _ 2 _ (by omega)]; rfl
  have gB1 : H[M0.length + 1 + 4]? = some (.cells (flatC cs) 44) := by
    rw [← hH, List.append_assoc, List.append_assoc, List.append_assoc, app_at _ _ 5 _ (by omega)]; rfl
  have gB2 : H[M0.length + 1 + 7]? = some (.cells (flatC cs) 44) := by
    rw [← hH, List.append_assoc, List.append_assoc, List.append_assoc, app_at _ _ 8 _ (by omega)]; rfl
  clear hH
  generalize M0.length = N at *
  have l15 : ∀ (K : List AObj) (v : V), K[N + 1]? = some (oS nm pb many v) → cellAt K[N + 1]? 3 = some v := fun K v h => by rw [h]; rfl
  have l16 : ∀ (K : List AObj) (v : V), K[N + 1 + 1]? = some (oS nm pb many v) → cellAt K[N + 1 + 1]? 3 = some v := fun K v h => by rw [h]; rfl
  have l14 : cellAt H[N]? 3 = some (.row (flatC cs) cs.length q2) := by rw [g14]; rfl
  have m15 := l15 H _ g15
  have m16 := l16 H _ g16
  have hcl : ∀ b, vLenT (some (.slice 44)) (hC b cs.length) = some (.int .i64 cs.length) := fun b => rfl
  have hix : ∀ (b k : Nat), k < cs.length → vIndexAddr 4 (hC b cs.length) (.int .i64 (k : Int)) = some (.ptr b (k * 4)) := fun b k hk => by rw [index_hsl, if_pos ⟨by omega, by omega⟩, Int.toNat_natCast, Nat.zero_add]
  have hii := hix (N + 1 + 4) i hil
  have hij := hix (N + 1 + 4) j hjl
  have ldC : ∀ (K : List AObj) (ds : List Col) (b k : Nat), K[b]? = some (.cells (flatC ds) 44) → k < ds.length → loadCellsV K 4 (.ptr b (k * 4)) = some [.str (ds.getD k Col.none).name, .int .i64 (ds.getD k Col.none).lo, .int .i64 (ds.getD k Col.none).hi, (ds.getD k Col.none).w] := fun K ds b k h hk => by
    simp only [loadCellsV, h]
    rw [if_pos (by rw [flatC_len]; omega), flatC_drop, flatC_at hk]
    rfl
  have di := ldC H cs _ i gB1 hil
  have dj := ldC H cs _ j gB1 hjl
  have hcw : ∀ k, k < cs.length → (cs.getD k Col.none).w.isCell = true := fun k hk => isCell_W (hmem.ok.at hk)
  have hci := hcw i hil
  have hcj := hcw j hjl
  have st1 : storeAt ⟨H, ts⟩ [.str (cs.getD j Col.none).name, .int .i64 (cs.getD j Col.none).lo, .int .i64 (cs.getD j Col.none).hi, (cs.getD j Col.none).w] (N + 1 + 4) (i * 4) H[N + 1 + 4]? = some ⟨H.set (N + 1 + 4) (.cells (flatC (cs.set i (cs.getD j Col.none))) 44), ts⟩ := by
    rw [gB1, YE, if_pos ⟨by rw [flatC_len]; simp only [List.length_cons, List.length_nil]; omega, by simp only [List.all_cons, List.all_nil, isCell_str, isCell_int, hcj, Bool.and_self]⟩, store_C hil]
    rfl
  have sw : (cs.set i (cs.getD j Col.none)).set j (cs.getD i Col.none) = swapC cs i j := rfl
  have st2 : storeAt ⟨H.set (N + 1 + 4) (.cells (flatC (cs.set i (cs.getD j Col.none))) 44), ts⟩ [.str (cs.getD i Col.none).name, .int .i64 (cs.getD i Col.none).lo, .int .i64 (cs.getD i Col.none).hi, (cs.getD i Col.none).w] (N + 1 + 4) (j * 4) (H.set (N + 1 + 4) (.cells (flatC (cs.set i (cs.getD j Col.none))) 44))[N + 1 + 4]? = some ⟨H.set (N + 1 + 4) (.cells (flatC (swapC cs i j)) 44), ts⟩ := by
    rw [List.getElem?_set_self (List.getElem?_eq_some_iff.1 gB1).1, YE, if_pos ⟨by rw [flatC_len]; simp only [List.length_cons, List.length_nil, List.length_set]; omega, by simp only [List.all_cons, List.all_nil, isCell_str, isCell_int, hci, Bool.and_self]⟩, store_C (by simpa using hjl), sw]
    simp only [S.set, List.set_set]
  have hS2 := hmem.swap hil hjl
  have hL2 := hmem.less hil
  have w15 : (H.set (N + 1 + 4) (AObj.cells (flatC (swapC cs i j)) 44))[N + 1]? = some (oS nm pb many (hC (N + 1 + 4) cs.length)) := by rw [List.getElem?_set_ne (by omega)]; exact g15
  have w16 : (H.set (N + 1 + 4) (AObj.cells (flatC (swapC cs i j)) 44))[N + 1 + 1]? = some (oS nm pb many (hC (N + 1 + 7) cs.length)) := by rw [List.getElem?_set_ne (by omega)]; exact g16
  have wB1 : (H.set (N + 1 + 4) (AObj.cells (flatC (swapC cs i j)) 44))[N + 1 + 4]? = some (AObj.cells (flatC (swapC cs i j)) 44) := List.getElem?_set_self (List.getElem?_eq_some_iff.1 gB1).1
  have wB2 : (H.set (N + 1 + 4) (AObj.cells (flatC (swapC cs i j)) 44))[N + 1 + 7]? = some (AObj.cells (flatC cs) 44) := by rw [List.getElem?_set_ne (by omega)]; exact gB2
  have k15 : ∀ q : AObj, loadCellsV (H.set (N + 1 + 4) q) 4 (.ptr (N + 1) 0) = some [.str nm, .bool pb, .int .i64 many, hC (N + 1 + 4) cs.length] := fun q => ld4_at (t := 29) (by rw [List.getElem?_set_ne (by omega)]; exact g15)
  have j15 : ∀ q : AObj, cellAt (H.set (N + 1 + 4) q)[N + 1]? 3 = some (hC (N + 1 + 4) cs.length) := fun q => l15 _ _ (by rw [List.getElem?_set_ne (by omega)]; exact g15)
  have j16 := l16 _ _ w16
  have e1 : IntKind.i64.wrap ((i : Int) + 1) = ((i + 1 : Nat) : Int) := by rw [wrap_i64 (by omega) (by omega)]; omega
  obtain ⟨y1, y1s, y1l, y1c⟩ := slice_lo (N + 1 + 7) cs.length i (by omega)
  obtain ⟨y2, y2s, y2l, y2c⟩ := slice_hi (N + 1 + 7) cs.length i hil
  have hlim : lim = 2 ^ 40 := rfl
  have g0 : GrowV 0 ts 4 (.row [] 0 .full) 0 [] := .full _ _ rfl
  obtain ⟨v1, ts1, a1, b1, c1⟩ := GrowV.append (E := env) eC ⟨44, eC.slice⟩ g0 (Nat.zero_le _) y1l (y1c _ cs wB2 rfl) (by rw [flatC_len]; simp; omega) (flat_cells fun c hc => hmem.ok c (List.mem_of_mem_take hc)) ⟨by rw [hlim]; omega, by rw [hlim]; omega⟩
  obtain ⟨v2, ts2, a2, b2, c2⟩ := GrowV.append (E := env) eC ⟨44, eC.slice⟩ b1 (Nat.zero_le _) y2l (y2c _ cs wB2 rfl) (by rw [flatC_len]; simp) (flat_cells fun c hc => hmem.ok c (List.mem_of_mem_drop hc)) ⟨by rw [hlim]; omega, by rw [hlim]; omega⟩
  have rC0 : rowO env 27 0 [] = some (.row [] 0 .full) := by kernel_rfl
  generalize hH2 : H.set (N + 1 + 4) (AObj.cells (flatC (swapC cs i j)) 44) = H2 at *
  obtain ⟨v2c, v2i⟩ := b2.cells
  have v2l := b2.len 44
  rw [List.nil_append, ← flatC_app] at b2
  have x15 : (H2.set (N + 1 + 1) (oS nm pb many v2))[N + 1]? = some (oS nm pb many (hC (N + 1 + 4) cs.length)) := by rw [List.getElem?_set_ne (by omega)]; exact w15
  have x16 : (H2.set (N + 1 + 1) (oS nm pb many v2))[N + 1 + 1]? = some (oS nm pb many v2) := List.getElem?_set_self (List.getElem?_eq_some_iff.1 w16).1
  have xB1 : (H2.set (N + 1 + 1) (oS nm pb many v2))[N + 1 + 4]? = some (AObj.cells (flatC (swapC cs i j)) 44) := by rw [List.getElem?_set_ne (by omega)]; exact wB1
  have n16 := l16 _ _ x16
  have z15 := ld4_at x15
  obtain ⟨o1, q1⟩ := checks_call hS2 (by rw [swapC_len]; omega) hnm hmany 0 (by rw [swapC_len, if_neg (by omega)]) (seal_blk hS2.ok (swapC_len cs i j).symm xB1) ts2
  have z16 : loadCellsV (H2.set (N + 1 + 1) (oS nm pb many v2) ++ [o1]) 4 (.ptr (N + 1 + 1) 0) = some [.str nm, .bool pb, .int .i64 many, v2] := ld4_at (t := 29) (by rw [List.getElem?_append_left (List.getElem?_eq_some_iff.1 x16).1]; exact x16)
  have hn2 : 0 + i + (cs.length - (i + 1)) = (cs.take i ++ cs.drop (i + 1)).length := by simp; omega
  rw [hn2] at b2 v2l
  obtain ⟨o2, q2'⟩ := checks_call hL2 (by simp; omega) hnm hmany (if (cs.take i ++ cs.drop (i + 1)).length = 0 then 3 else 0) rfl (seal_G hL2.ok b2 (H2.set (N + 1 + 1) (oS nm pb many v2) ++ [o1])) ts2
  simp -implicitDefEqProofs only [Wa,Wb,Wc,Wd,We,Wf,Wg,Wh,Wi,Wj,Wk,Wl,Wm,Wn,Zo,Zp,evalT,Nat.reduceLT,Nat.reduceEqDiff,if_true,if_false,reduceIte,Ys,ofVal,ofCell,argT,resT,setT,Y0,Int.reduceEq,Int.reduceLT,Int.reduceLE,Int.reduceNeg,mb,Nat.reduceBEq,tys,stb,Va,storeList,Nat.reduceAdd,Nat.reduceLeDiff,tys,tysc,GW_nil,GW_op,GWS_0,GWS_0n,GWS_1,GWS_1n,GWS_m,GWS_ite,GWS_nite,AllM_nil,AllM_cons,aread_load,t2,t3,t9,t14,t15,t16,l14,m15,m16,len_row',hcl,vBin_sneq,hii,hij,di,dj,st1,st2,j15,j16,e1,y1s,y2s,a1,a2,rC0,opT_rowO,opT_slice,optO_none,optO_some,v2c,v2i,v2l,n16,z15,z16,q1,q2',w15,w16]
  refine G_win rfl [(false, []), (false, []), (false, []), (false, []), (false, [1]), (false, []), (false, []), (false, []), (false, []), (false, []), (false, []), (false, []), (false, []), (false, []), (false, []), (false, []), (false, []), (true, []), (false, []), (true, [])] (fun m s0 => m ≤ 1 → cellAt s0.heap[N + 1]? 3 = some (hC (N + 1 + 4) cs.length)) (fun _ => m15) (by kernel_rfl) (by kernel_rfl) ?_
  simp -implicitDefEqProofs only [Wa,Wb,Wc,Wd,We,Wf,Wg,Wh,Wi,Wj,Wk,Wl,Wm,Wn,Zo,Zp,evalT,Nat.reduceLT,Nat.reduceEqDiff,if_true,if_false,reduceIte,Ys,ofVal,ofCell,argT,resT,setT,Y0,Int.reduceEq,Int.reduceLT,Int.reduceLE,Int.reduceNeg,mb,Nat.reduceBEq,tys,stb,Va,storeList,Nat.reduceAdd,Nat.reduceLeDiff,tys,tysc,GW_nil,GW_op,GWS_0,GWS_0n,GWS_1,GWS_1n,GWS_m,GWS_ite,GWS_nite,AllM_nil,AllM_cons,aread_load,t2,t3,t9,t14,t15,t16,l14,m15,m16,len_row',hcl,vBin_sneq,hii,hij,di,dj,st1,st2,j15,j16,e1,y1s,y2s,a1,a2,rC0,opT_rowO,opT_slice,optO_none,optO_some,v2c,v2i,v2l,n16,z15,z16,q1,q2',w15,w16]
  refine ⟨⟨fun _ h => h, trivial⟩, ?_⟩
  refine G_win rfl [(false, []), (false, []), (false, []), (false, []), (false, []), (true, []), (false, []), (false, [0]), (false, []), (false, []), (false, []), (true, []), (false, []), (true, [])] (fun m s0 => m ≤ 1 → cellAt s0.heap[N + 1 + 1]? 3 = some (hC (N + 1 + 7) cs.length)) (fun _ => j16) (by kernel_rfl) (by kernel_rfl) ?_
  by_cases hz : (cs.take i ++ cs.drop (i + 1)).length = 0
  · rw [if_pos hz] at q2'
    have gz : (((cs.take i ++ cs.drop (i + 1)).length : Int) = 0) = True := eq_true (by omega)
    simp -implicitDefEqProofs only [Wa,Wb,Wc,Wd,We,Wf,Wg,Wh,Wi,Wj,Wk,Wl,Wm,Wn,Zo,Zp,evalT,Nat.reduceLT,Nat.reduceEqDiff,if_true,if_false,reduceIte,Ys,ofVal,ofCell,argT,resT,setT,Y0,Int.reduceEq,Int.reduceLT,Int.reduceLE,Int.reduceNeg,mb,Nat.reduceBEq,tys,stb,Va,storeList,Nat.reduceAdd,Nat.reduceLeDiff,tys,tysc,GW_nil,GW_op,GWS_0,GWS_0n,GWS_1,GWS_1n,GWS_m,GWS_ite,GWS_nite,AllM_nil,AllM_cons,aread_load,t2,t3,t9,t14,t15,t16,l14,m15,m16,len_row',hcl,vBin_sneq,hii,hij,di,dj,st1,st2,j15,j16,e1,y1s,y2s,a1,a2,rC0,opT_rowO,opT_slice,optO_none,optO_some,v2c,v2i,v2l,n16,z15,z16,q1,q2',w15,w16,gz]
    exact ⟨⟨fun _ h => h, trivial⟩, rfl⟩
  · rw [if_neg hz] at q2'
    have gz : (((cs.take i ++ cs.drop (i + 1)).length : Int) = 0) = False := eq_false (by omega)
    simp -implicitDefEqProofs only [Wa,Wb,Wc,Wd,We,Wf,Wg,Wh,Wi,Wj,Wk,Wl,Wm,Wn,Zo,Zp,evalT,Nat.reduceLT,Nat.reduceEqDiff,if_true,if_false,reduceIte,Ys,ofVal,ofCell,argT,resT,setT,Y0,Int.reduceEq,Int.reduceLT,Int.reduceLE,Int.reduceNeg,mb,Nat.reduceBEq,tys,stb,Va,storeList,Nat.reduceAdd,Nat.reduceLeDiff,tys,tysc,GW_nil,GW_op,GWS_0,GWS_0n,GWS_1,GWS_1n,GWS_m,GWS_ite,GWS_nite,AllM_nil,AllM_cons,aread_load,t2,t3,t9,t14,t15,t16,l14,m15,m16,len_row',hcl,vBin_sneq,hii,hij,di,dj,st1,st2,j15,j16,e1,y1s,y2s,a1,a2,rC0,opT_rowO,opT_slice,optO_none,optO_some,v2c,v2i,v2l,n16,z15,z16,q1,q2',w15,w16,gz]
    exact ⟨⟨fun _ h => h, trivial⟩, rfl⟩
theorem u3 : env.P.underlying 3 = some (.int .i64) := tys.1
theorem u62 : env.P.underlying 62 = some (.slice 3) := by kernel_rfl
theorem flatI1 (xs : List Int) : (xs.map fun x => [V.int .i64 x]).flatten = xs.map (V.int .i64) := by
  induction xs with
  | nil => rfl
  | cons x xs ih => simp only [List.map_cons, List.flatten_cons, ih]; rfl
theorem tyd_IS {v : V} {k : Nat} (h : Tyd env.P (k + 2) 62 [v]) : ∃ xs, IsI v xs ∧ xs.length < 2 ^ 63 ∧ ∀ x ∈ xs, In64 x := by
  rcases tyd_slice h u62 with h | ⟨vss, h, hl, _, ht⟩
  · simp only [List.cons.injEq, and_true] at h
    exact ⟨[], .inl ⟨h, rfl⟩, by simp, fun x hx => by simp at hx⟩
  · simp only [List.cons.injEq, and_true] at h
    obtain ⟨xs, rfl⟩ := tyd_map (f := fun x : {x : Int // In64 x} => [V.int .i64 x.1]) (fun x hx => by
      obtain ⟨n, rfl, h1, h2⟩ := tyd_int hx u3; exact ⟨⟨n, h1, h2⟩, rfl⟩) ht
    have e : (xs.map fun x => [V.int .i64 x.1]) = ((xs.map (·.1)).map fun x => [V.int .i64 x]) := by simp
    have hm := maxLen_lt
    refine ⟨xs.map (·.1), .inr (.inl ?_), by simp only [List.length_map] at hl ⊢; omega, fun x hx => ?_⟩
    · rw [h, e, flatI1]; simp
    · obtain ⟨y, _, rfl⟩ := List.mem_map.1 hx; exact y.2
theorem fewer_foundt {u v w x : V} (h : Tyd Tryd.prog 6 62 [u]) (h2 : Tyd Tryd.prog 6 3 [v]) (h3 : Tyd Tryd.prog 6 3 [w]) (h4 : Tyd Tryd.prog 6 3 [x]) : Go.Ab.Found env 10 [u, v, w, x] := by
  obtain ⟨xs, a1, a2, a3⟩ := tyd_IS (k := 4) h
  obtain ⟨a, e, g1, g2⟩ := tyd_int (P := env.P) (k := 5) h2 u3
  obtain ⟨b, e2, g3, g4⟩ := tyd_int (P := env.P) (k := 5) h3 u3
  obtain ⟨c, e3, g5, g6⟩ := tyd_int (P := env.P) (k := 5) h4 u3
  simp only [List.cons.injEq, and_true] at e e2 e3
  subst e e2 e3
  exact fewer_found ⟨a1, a3, a2⟩ a b c ⟨g1, g2⟩ ⟨g3, g4⟩ ⟨g5, g6⟩
end Go.Proofs.YtbikmhpobflfeaaDoor.F
