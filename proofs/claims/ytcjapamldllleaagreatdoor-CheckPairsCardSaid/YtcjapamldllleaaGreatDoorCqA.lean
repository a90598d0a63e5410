/- Proved here: what columns and nodes are, the stack of kinds. Conditions: those of each theorem; no statement of the seat is proved in this text. -/
import Derived.Test.YtcjapamldllleaaGreatDoorEnvC
namespace Go.Proofs.YtcjapamldllleaaGreatDoor
open Go.Ab
set_option maxHeartbeats 4000000
set_option maxRecDepth 100000
set_option linter.unusedSimpArgs false
set_option linter.unusedVariables false
set_option linter.unusedSectionVars false
theorem u3 : env.P.underlying 3 = some (.int .i64) := by kernel_rfl
theorem u4 : env.P.underlying 4 = some .bool := by kernel_rfl
theorem u5 : env.P.underlying 5 = some (.int .u8) := by kernel_rfl
theorem u9 : env.P.underlying 9 = some .string := by kernel_rfl
theorem u24 : env.P.underlying 44 = some (.slice 9) := by kernel_rfl
theorem u115 : env.P.underlying 161 = some (.int .u64) := by kernel_rfl
theorem s9 : sz env 9 = some 1 := by kernel_rfl
theorem s24 : sz env 44 = some 1 := by kernel_rfl
theorem s3 : sz env 3 = some 1 := by kernel_rfl
theorem g9 : aggT env 9 = some false := by kernel_rfl
theorem g24 : aggT env 44 = some false := by kernel_rfl
theorem g3 : aggT env 3 = some false := by kernel_rfl
theorem tys : env.P.underlying 3 = some (.int .i64) ∧ env.P.underlying 4 = some .bool ∧ env.P.underlying 5 = some (.int .u8) ∧ env.P.underlying 9 = some .string ∧ env.P.underlying 44 = some (.slice 9) ∧ env.P.underlying 161 = some (.int .u64) ∧ sz env 9 = some 1 ∧ sz env 44 = some 1 ∧ sz env 3 = some 1 ∧
    (∀ h p, aload env h 9 p = (loadCellsV h 1 p).bind (·[0]?)) ∧ (∀ h p, aload env h 44 p = (loadCellsV h 1 p).bind (·[0]?)) ∧ (∀ h p, aload env h 3 p = (loadCellsV h 1 p).bind (·[0]?)) :=
  ⟨u3, u4, u5, u9, u24, u115, s9, s24, s3, fun _ _ => aload_one g9, fun _ _ => aload_one g24, fun _ _ => aload_one g3⟩
theorem mb (f : FuncId) (r : Nat) (h : (f == 24) = false) : env.mutb f r = false := h
theorem stb (f : FuncId) (r : Nat) : env.stab f r = false := rfl
end Go.Proofs.YtcjapamldllleaaGreatDoor
namespace Go.Proofs.YtcjapamldllleaaGreatDoor
open Go.Ab
set_option maxHeartbeats 4000000
set_option maxRecDepth 100000
set_option linter.unusedSimpArgs false
set_option linter.unusedVariables false
set_option linter.unusedSectionVars false
structure Col where
  name : List UInt8
  lo : Int
  hi : Int
  w : V
  ws : List (List UInt8)
def Col.cells (c : Col) : List V := [.str c.name, .int .i64 c.lo, .int .i64 c.hi, c.w]
def Col.none : Col := ⟨[], 0, 0, .nilsl, []⟩
def IsW (w : V) (ws : List (List UInt8)) : Prop := (w = .nilsl ∧ ws = []) ∨ w = .row (ws.map V.str) ws.length .unk
def flatC (cs : List Col) : List V := (cs.map Col.cells).flatten
def IsC (v : V) (cs : List Col) : Prop := (v = .nilsl ∧ cs = []) ∨ ∃ q, (q = RCap.unk ∨ q = RCap.full) ∧ v = .row (flatC cs) cs.length q
def OkC (cs : List Col) : Prop := ∀ c ∈ cs, IsW c.w c.ws
theorem OkC.at {cs : List Col} (h : OkC cs) {i : Nat} (hi : i < cs.length) : IsW (cs.getD i Col.none).w (cs.getD i Col.none).ws := h _ (by simp [List.getD, hi])
theorem flatC_cons (c : Col) (cs : List Col) : flatC (c :: cs) = .str c.name :: .int .i64 c.lo :: .int .i64 c.hi :: c.w :: flatC cs := rfl
theorem flatC_drop : ∀ (cs : List Col) (i : Nat), (flatC cs).drop (i * 4) = flatC (cs.drop i)
  | cs, 0 => by simp
  | [], i + 1 => by simp [flatC]
  | c :: cs, i + 1 => by
    rw [flatC_cons, show (i + 1) * 4 = i * 4 + 1 + 1 + 1 + 1 by omega]
    simp only [List.drop_succ_cons]
    exact flatC_drop cs i
theorem flatC_at {cs : List Col} {i : Nat} (hi : i < cs.length) : flatC (cs.drop i) = .str (cs.getD i Col.none).name :: .int .i64 (cs.getD i Col.none).lo :: .int .i64 (cs.getD i Col.none).hi :: (cs.getD i Col.none).w :: flatC (cs.drop (i + 1)) := by
  have e : cs.drop i = cs.getD i Col.none :: cs.drop (i + 1) := by
    rw [List.drop_eq_getElem_cons hi]
    simp [List.getD, hi]
  rw [e, flatC_cons]
theorem len_C {v : V} {cs : List Col} (h : IsC v cs) : vLenT (some (.slice 46)) v = some (.int .i64 cs.length) := by
  rcases h with ⟨rfl, rfl⟩ | ⟨q, _, rfl⟩ <;> rfl
theorem len_W {v : V} {ws : List (List UInt8)} (h : IsW v ws) : vLenT (some (.slice 9)) v = some (.int .i64 ws.length) := by
  rcases h with ⟨rfl, rfl⟩ | rfl <;> rfl
theorem idx_C {v : V} {cs : List Col} (h : IsC v cs) {i : Nat} (hi : i < cs.length) : vIndexAddr 4 v (.int .i64 (i : Int)) = some (.rptr (.str (cs.getD i Col.none).name :: .int .i64 (cs.getD i Col.none).lo :: .int .i64 (cs.getD i Col.none).hi :: (cs.getD i Col.none).w :: flatC (cs.drop (i + 1)))) := by
  rcases h with ⟨rfl, rfl⟩ | ⟨q, _, rfl⟩
  · simp at hi
  · rw [Ys, if_pos (by omega), Int.toNat_natCast, flatC_drop, flatC_at hi]
theorem load_hd (h : List AObj) (v : V) (r : List V) : (loadCellsV h 1 (.rptr (v :: r))).bind (·[0]?) = some v := by
  have := Yz h (v :: r) 0
  simpa using this
theorem u27 : env.P.underlying 23 = some (.slice 46) := by kernel_rfl
theorem u32 : env.P.underlying 28 = some (.int .i64) := by kernel_rfl
theorem tys2 : env.P.underlying 23 = some (.slice 46) ∧ env.P.underlying 28 = some (.int .i64) ∧ sz env 23 = some 1 ∧ sz env 46 = some 4 ∧ sz env 26 = some 4 ∧ sz env 4 = some 1 ∧ fldOff env 26 0 = some 0 ∧ fldOff env 26 1 = some 1 ∧ fldOff env 26 2 = some 2 ∧ fldOff env 26 3 = some 3 ∧
    fldOff env 46 0 = some 0 ∧ fldOff env 46 1 = some 1 ∧ fldOff env 46 2 = some 2 ∧ fldOff env 46 3 = some 3 ∧ (∀ h p, aload env h 23 p = (loadCellsV h 1 p).bind (·[0]?)) ∧ (∀ h p, aload env h 4 p = (loadCellsV h 1 p).bind (·[0]?)) := by
  have g27 : aggT env 23 = some false := by kernel_rfl
  have g4 : aggT env 4 = some false := by kernel_rfl
  exact ⟨u27, u32, by kernel_rfl, by kernel_rfl, by kernel_rfl, by kernel_rfl, by kernel_rfl, by kernel_rfl, by kernel_rfl, by kernel_rfl, by kernel_rfl, by kernel_rfl, by kernel_rfl, by kernel_rfl, fun _ _ => aload_one g27, fun _ _ => aload_one g4⟩
theorem closed_W {w : V} {ws : List (List UInt8)} (h : IsW w ws) : w.closed = true := by
  rcases h with ⟨rfl, rfl⟩ | rfl
  · rfl
  · simp only [V.closed, closed_strs, Bool.and_self]
theorem closed_flat : ∀ {cs : List Col}, OkC cs → V.closed.closedL (flatC cs) = true
  | [], h => rfl
  | c :: cs, h => by
    rw [flatC_cons]
    simp only [V.closed.closedL, V.closed, closed_W (h c (by simp)), closed_flat (cs := cs) fun x hx => h x (by simp [hx]), Bool.and_self]
theorem closed_C {v : V} {cs : List Col} (h : IsC v cs) (ok : OkC cs) : v.closed = true := by
  rcases h with ⟨rfl, rfl⟩ | ⟨q, rfl | rfl, rfl⟩
  · rfl
  · simp only [V.closed, closed_flat ok, Bool.and_self]
  · simp only [V.closed, closed_flat ok, Bool.and_self]
end Go.Proofs.YtcjapamldllleaaGreatDoor
namespace Go.Proofs.YtcjapamldllleaaGreatDoor
open Go.Ab
set_option maxHeartbeats 4000000
set_option maxRecDepth 100000
set_option linter.unusedSimpArgs false
set_option linter.unusedVariables false
set_option linter.unusedSectionVars false
theorem heap_end (L : List AObj) (o : AObj) : (L ++ [o])[L.length]? = some o := by simp
theorem set_end (L : List AObj) (o o' : AObj) : (L ++ [o]).set L.length o' = L ++ [o'] := by simp
theorem load4_rptr (h : List AObj) (a b c d : V) (r : List V) : loadCellsV h 4 (.rptr (a :: b :: c :: d :: r)) = some [a, b, c, d] := by simp [loadCellsV]
theorem load4_ptr {h : List AObj} {n : Nat} {a b c d : V} {t : TypeId} (hh : h[n]? = some (.cells [a, b, c, d] t)) : loadCellsV h 4 (.ptr n 0) = some [a, b, c, d] := by simp [loadCellsV, hh]
theorem agg44 (h : List AObj) (p : V) : aload env h 46 p = (loadCellsV h 4 p).map .agg := by
  unfold aload
  rw [show aggT env 46 = some true by kernel_rfl, show sz env 46 = some 4 by kernel_rfl]
  rfl
theorem z44 : zeroV env 46 = some (.agg [.str [], .int .i64 0, .int .i64 0, .nilsl]) := by kernel_rfl
theorem flatC_app (cs : List Col) (c : Col) : flatC (cs ++ [c]) = flatC cs ++ c.cells := by simp [flatC]
theorem isCell_W {w : V} {ws : List (List UInt8)} (h : IsW w ws) : w.isCell = true := by rcases h with ⟨rfl, _⟩ | rfl <;> rfl
theorem isCell_str (s : List UInt8) : (V.str s).isCell = true := rfl
theorem isCell_bool (b : Bool) : (V.bool b).isCell = true := rfl
end Go.Proofs.YtcjapamldllleaaGreatDoor
namespace Go.Proofs.YtcjapamldllleaaGreatDoor
open Go.Ab
set_option maxHeartbeats 4000000
set_option maxRecDepth 100000
set_option linter.unusedSimpArgs false
set_option linter.unusedVariables false
set_option linter.unusedSectionVars false
theorem at73 : env.P.funcs[73]? = some Tryz.f73 := by kernel_rfl
end Go.Proofs.YtcjapamldllleaaGreatDoor
namespace Go.Proofs.YtcjapamldllleaaGreatDoor
open Go.Ab
set_option maxHeartbeats 4000000
set_option maxRecDepth 100000
set_option linter.unusedSimpArgs false
set_option linter.unusedVariables false
set_option linter.unusedSectionVars false
def firstQ (f : Nat → Bool) : Nat → Nat → Int
  | 0, _ => -1
  | m + 1, i => if f i = true then i else firstQ f m (i + 1)
theorem firstQ_step {f : Nat → Bool} {n i : Nat} (h : i < n) : firstQ f (n - i) i = if f i = true then (i : Int) else firstQ f (n - (i + 1)) (i + 1) := by
  obtain ⟨q, hq⟩ : ∃ q, n - i = q + 1 := ⟨n - i - 1, by omega⟩
  have hq2 : n - (i + 1) = q := by omega
  rw [hq, hq2]; rfl
theorem firstQ_neg {f : Nat → Bool} : ∀ {m i : Nat}, ¬ 0 ≤ firstQ f m i → firstQ f m i = -1
  | 0, i, _ => rfl
  | m + 1, i, h => by
    simp only [firstQ] at h ⊢
    by_cases hf : f i = true
    · rw [if_pos hf] at h; omega
    · rw [if_neg hf] at h ⊢; exact firstQ_neg h
theorem at57 : env.P.funcs[57]? = some Tryz.f57 := by kernel_rfl
def foundV (x : Int) : V := .tup [.int .i64 (if 0 ≤ x then x else 0), .bool (decide (0 ≤ x))]
theorem found_call (x : Int) (σ : S) : callFn env (ev env) 57 [.int .i64 x] σ = some (foundV x, σ) := by
  refine callFn_eq rfl rfl at57 rfl (by simp [Tryz.f57]) (by simp [Tryz.f57]) ?_
  refine G_start ?_
  by_cases h : 0 ≤ x
  · have h2 : ¬ x < 0 := by omega
    simp -implicitDefEqProofs only [Tryz.f57,Wa,Wb,Wc,Wd,We,Wf,Wg,Wh,Wi,Wj,Wk,Wl,Wm,Wn,Zo,Zp,evalT,Nat.reduceLT,Nat.reduceEqDiff,if_true,if_false,reduceIte,Ys,ofVal,ofCell,argT,resT,setT,Y0,Int.reduceEq,Int.reduceLT,Int.reduceLE,Int.reduceNeg,mb,Nat.reduceBEq,tys,stb,h,h2]
    simp [oneOr, foundV, h]
  · have h2 : x < 0 := by omega
    simp -implicitDefEqProofs only [Tryz.f57,Wa,Wb,Wc,Wd,We,Wf,Wg,Wh,Wi,Wj,Wk,Wl,Wm,Wn,Zo,Zp,evalT,Nat.reduceLT,Nat.reduceEqDiff,if_true,if_false,reduceIte,Ys,ofVal,ofCell,argT,resT,setT,Y0,Int.reduceEq,Int.reduceLT,Int.reduceLE,Int.reduceNeg,mb,Nat.reduceBEq,tys,stb,h,h2]
    simp [oneOr, foundV, h]
theorem at74 : env.P.funcs[74]? = some Tryz.f74 := by kernel_rfl
theorem namedK_call (nm : List UInt8) (d : Col) (L : List AObj) (ts : List Nat) (p : Nat) (hp : L[p]? = some (.cells [.str nm] 9)) :
    callFn env (ev env) 74 [.agg [.str d.name, .int .i64 d.lo, .int .i64 d.hi, d.w], .ptr p 0] ⟨L, ts⟩ = some (.bool (decide (d.name = nm)), ⟨L ++ [.cells [.str d.name, .int .i64 d.lo, .int .i64 d.hi, d.w] 46], ts⟩) := by
  refine callFn_eq rfl rfl at74 rfl (by simp [Tryz.f74]) (by simp [Tryz.f74]) ?_
  refine G_start ?_
  by_cases h : d.name = nm <;>
  · simp -implicitDefEqProofs only [Tryz.f74,Wa,Wb,Wc,Wd,We,Wf,Wg,Wh,Wi,Wj,Wk,Wl,Wm,Wn,Zo,Zp,evalT,Nat.reduceLT,Nat.reduceEqDiff,if_true,if_false,reduceIte,Ys,ofVal,ofCell,argT,resT,setT,Y0,Int.reduceEq,Int.reduceLT,Int.reduceLE,Int.reduceNeg,mb,Nat.reduceBEq,tys,stb,tys2,YW,heap_end,get_app hp,vBin_seql,h]
    simp [oneOr, h]
def seekC (l : List Col) (nm : List UInt8) : Nat → Nat → Int := firstQ fun i => decide ((l.getD i Col.none).name = nm)
theorem indexK_call (nm : List UInt8) (dv : V) (ds : List Col) (hd : IsC dv ds) (ok : OkC ds) (hl : ds.length ≤ 1000) (L : List AObj) (ts : List Nat) (p : Nat) (hp : L[p]? = some (.cells [.str nm] 9)) :
    ∃ X, callFn env (ev env) 73 [dv, .func 74 [] [.ptr p 0]] ⟨L, ts⟩ = some (.int .i64 (seekC ds nm ds.length 0), ⟨L ++ X, ts⟩) := by
  suffices h : ∃ v σ', callFn env (ev env) 73 [dv, .func 74 [] [.ptr p 0]] ⟨L, ts⟩ = some (v, σ') ∧ (v = .int .i64 (seekC ds nm ds.length 0) ∧ ∃ X, σ' = ⟨L ++ X, ts⟩) by
    obtain ⟨v, σ', h1, rfl, X, rfl⟩ := h
    exact ⟨X, h1⟩
  refine callFn_any rfl rfl at73 rfl (by simp [Tryz.f73]) (by simp [Tryz.f73]) (G_start ?_)
  simp -implicitDefEqProofs only [Tryz.f73,Wa,Wb,Wc,Wd,We,Wf,Wg,Wh,Wi,Wj,Wk,Wl,Wm,Wn,Zo,Zp,evalT,Nat.reduceLT,Nat.reduceEqDiff,if_true,if_false,reduceIte,Ys,ofVal,ofCell,argT,resT,setT,Y0,Int.reduceEq,Int.reduceLT,Int.reduceLE,Int.reduceNeg,mb,Nat.reduceBEq,tys,stb,tys2,len_C hd]
  refine loop_rule (fun m T D σ => D = [] ∧ T 0 = dv ∧ T 1 = .func 74 [] [.ptr p 0] ∧ T 7 = .int .i64 ds.length ∧ ∃ (i : Nat) (X : List AObj), σ = ⟨L ++ X, ts⟩ ∧ T 8 = .int .i64 i ∧ i ≤ ds.length ∧ m = ds.length - i ∧ seekC ds nm ds.length 0 = seekC ds nm (ds.length - i) i) ?_ _ _ _ _ ⟨rfl, rfl, rfl, rfl, 0, [], by simp, rfl, by omega, rfl, rfl⟩
  rintro m T D σ ⟨rfl, t0, t1, t7, i, X, rfl, t8, hi, rfl, hf⟩
  refine G_start ?_
  by_cases hlt : i < ds.length
  · have c1 : (i : Int) < (ds.length : Int) := by omega
    have e1 : IntKind.i64.wrap ((i : Int) + 1) = ((i + 1 : Nat) : Int) := by rw [wrap_i64 (by omega) (by omega)]; omega
    have hx := idx_C hd hlt
    have hN := namedK_call nm (ds.getD i Col.none) (L ++ X) ts p (get_app hp X)
    unfold seekC at hf
    rw [firstQ_step hlt] at hf
    by_cases hn : (ds.getD i Col.none).name = nm
    · rw [if_pos (decide_eq_true hn)] at hf
      simp only [hn, decide_true] at hN
      simp -implicitDefEqProofs only [Wa,Wb,Wc,Wd,We,Wf,Wg,Wh,Wi,Wj,Wk,Wl,Wm,Wn,Zo,Zp,evalT,Nat.reduceLT,Nat.reduceEqDiff,if_true,if_false,reduceIte,Ys,ofVal,ofCell,argT,resT,setT,Y0,Int.reduceEq,Int.reduceLT,Int.reduceLE,Int.reduceNeg,mb,Nat.reduceBEq,tys,stb,tys2,t0,t1,t7,t8,c1,e1,hx,agg44,load4_rptr,hn,hN]
      exact ⟨by rw [seekC, hf]; rfl, _, by rw [List.append_assoc]⟩
    · rw [if_neg (by simp only [decide_eq_true_eq]; exact hn)] at hf
      simp only [hn, decide_false] at hN
      simp -implicitDefEqProofs only [Wa,Wb,Wc,Wd,We,Wf,Wg,Wh,Wi,Wj,Wk,Wl,Wm,Wn,Zo,Zp,evalT,Nat.reduceLT,Nat.reduceEqDiff,if_true,if_false,reduceIte,Ys,ofVal,ofCell,argT,resT,setT,Y0,Int.reduceEq,Int.reduceLT,Int.reduceLE,Int.reduceNeg,mb,Nat.reduceBEq,tys,stb,tys2,t0,t1,t7,t8,c1,e1,hx,agg44,load4_rptr,hN]
      exact ⟨ds.length - (i + 1), by omega, i + 1, _, by rw [List.append_assoc], rfl, by omega, rfl, hf⟩
  · have hi2 : i = ds.length := by omega
    subst hi2
    have c1 : ¬ (ds.length : Int) < (ds.length : Int) := by omega
    rw [Nat.sub_self] at hf
    simp -implicitDefEqProofs only [Wa,Wb,Wc,Wd,We,Wf,Wg,Wh,Wi,Wj,Wk,Wl,Wm,Wn,Zo,Zp,evalT,Nat.reduceLT,Nat.reduceEqDiff,if_true,if_false,reduceIte,Ys,ofVal,ofCell,argT,resT,setT,Y0,Int.reduceEq,Int.reduceLT,Int.reduceLE,Int.reduceNeg,mb,Nat.reduceBEq,tys,stb,t0,t1,t7,t8,c1]
    exact ⟨by rw [hf]; rfl, X, rfl⟩
theorem seal_found (h : List AObj) (x : Int) : sealV h sealDepth (oneOr [.int .i64 (if 0 ≤ x then x else 0), .bool (decide (0 ≤ x))]) = some (foundV x) := by
  simp only [oneOr, sealDepth, sealV_tup, mapM_seal_cons, mapM_seal_nil, sealV_int, sealV_bool, Option.bind_some, Option.map_some, foundV]
theorem at61 : env.P.funcs[61]? = some Tryz.f61 := by kernel_rfl
theorem column2_call (nm : List UInt8) (a b c : V) (hca : a.closed = true) (hcb : b.closed = true) (hcc : c.closed = true) (cv : V) (cs : List Col) (hc : IsC cv cs) (ok : OkC cs) (hl : cs.length ≤ 1000) (σ : S) :
    callFn env (ev env) 61 [.agg [a, b, c, cv], .str nm] σ = some (foundV (seekC cs nm cs.length 0), σ) := by
  refine callFn_pure rfl rfl (by simp [V.closed, V.closed.closedL, closed_C hc ok, hca, hcb, hcc]) at61 rfl (by simp [Tryz.f61]) (by simp [Tryz.f61]) (G_start ?_) σ
  obtain ⟨X, hX⟩ := indexK_call nm cv cs hc ok hl [.cells [a, b, c, cv] 26, .cells [.str nm] 9] [] 1 rfl
  simp -implicitDefEqProofs only [Tryz.f61,Wa,Wb,Wc,Wd,We,Wf,Wg,Wh,Wi,Wj,Wk,Wl,Wm,Wn,Zo,Zp,evalT,Nat.reduceLT,Nat.reduceEqDiff,if_true,if_false,reduceIte,Ys,ofVal,ofCell,argT,resT,setT,Y0,Int.reduceEq,Int.reduceLT,Int.reduceLE,Int.reduceNeg,mb,Nat.reduceBEq,tys,stb,tys2,empty_mk,YW,hX,found_call,show (V.str nm).cells = [.str nm] from rfl,foundV]
  exact seal_found _ _
theorem maxLen_lt : maxLen < 2 ^ 63 := by decide
theorem at72 : env.P.funcs[72]? = some Tryz.f72 := by kernel_rfl
theorem at60 : env.P.funcs[60]? = some Tryz.f60 := by kernel_rfl
def placeW (ws : List (List UInt8)) (s : List UInt8) : Nat → Nat → Int
  | 0, _ => -1
  | m + 1, i => if s = ws.getD i [] then i else placeW ws s m (i + 1)
theorem placeW_pos (ws : List (List UInt8)) (s : List UInt8) : ∀ m i, 0 ≤ placeW ws s m i ↔ ∃ j, i ≤ j ∧ j < i + m ∧ s = ws.getD j []
  | 0, i => by simp only [placeW]; constructor
               · intro h; omega
               · rintro ⟨j, h1, h2, _⟩; omega
  | m + 1, i => by
    simp only [placeW]
    by_cases h : s = ws.getD i []
    · rw [if_pos h]
      exact ⟨fun _ => ⟨i, by omega, by omega, h⟩, fun _ => by omega⟩
    · rw [if_neg h, placeW_pos ws s m (i + 1)]
      constructor
      · rintro ⟨j, h1, h2, h3⟩; exact ⟨j, by omega, by omega, h3⟩
      · rintro ⟨j, h1, h2, h3⟩
        refine ⟨j, ?_, by omega, h3⟩
        rcases Nat.lt_or_ge i j with h4 | h4
        · omega
        · have : j = i := by omega
          subst this; exact absurd h3 h
theorem place_mem (ws : List (List UInt8)) (s : List UInt8) : 0 ≤ placeW ws s ws.length 0 ↔ s ∈ ws := by
  rw [placeW_pos]
  constructor
  · rintro ⟨j, _, h2, rfl⟩
    have h2 : j < ws.length := by omega
    simp [List.getD, h2]
  · intro h
    obtain ⟨j, hj, rfl⟩ := List.mem_iff_getElem.1 h
    exact ⟨j, by omega, by omega, by simp [List.getD, hj]⟩
theorem closed_row (ws : List (List UInt8)) (c : RCap) (hc : ∀ k e s, c ≠ .tok k e s) : (V.row (ws.map V.str) ws.length c).closed = true := by
  simp only [V.closed, closed_strs, Bool.and_true]
theorem indexW_call (ws : List (List UInt8)) (c : RCap) (hc : ∀ k e s, c ≠ .tok k e s) (hl : ws.length ≤ 1000) (s : List UInt8) (σ : S) : callFn env (ev env) 72 [.row (ws.map V.str) ws.length c, .str s] σ = some (.int .i64 (placeW ws s ws.length 0), σ) := by
  refine callFn_pure rfl rfl (by rw [List.all_cons, closed_row ws c hc]; rfl) at72 rfl (by simp [Tryz.f72]) (by simp [Tryz.f72]) (G_start ?_) σ
  simp -implicitDefEqProofs only [Tryz.f72,Wa,Wb,Wc,Wd,We,Wf,Wg,Wh,Wi,Wj,Wk,Wl,Wm,Wn,Zo,Zp,evalT,Nat.reduceLT,Nat.reduceEqDiff,if_true,if_false,reduceIte,Ys,ofVal,ofCell,argT,resT,setT,Y0,Int.reduceEq,Int.reduceLT,Int.reduceLE,Int.reduceNeg,mb,Nat.reduceBEq,tys,stb]
  refine loop_rule (fun m T D σ => D = [] ∧ σ = S.empty ∧ T 0 = .row (ws.map V.str) ws.length c ∧ T 1 = .str s ∧ T 7 = .int .i64 ws.length ∧ ∃ i : Nat, T 8 = .int .i64 i ∧ i ≤ ws.length ∧ m = ws.length - i ∧ placeW ws s ws.length 0 = placeW ws s (ws.length - i) i) ?_ _ _ _ _ ⟨rfl, rfl, rfl, rfl, rfl, 0, rfl, by omega, rfl, rfl⟩
  rintro m T D σ ⟨rfl, rfl, t0, t1, t7, i, t8, hi, rfl, hf⟩
  refine G_start ?_
  by_cases hlt : i < ws.length
  · have c1 : (i : Int) < (ws.length : Int) := by omega
    have e1 : IntKind.i64.wrap ((i : Int) + 1) = ((i + 1 : Nat) : Int) := by rw [wrap_i64 (by omega) (by omega)]; omega
    have c2 : (0 : Int) ≤ (i : Int) ∧ (i : Int) < (ws.length : Int) := by omega
    obtain ⟨q, hq⟩ : ∃ q, ws.length - i = q + 1 := ⟨ws.length - i - 1, by omega⟩
    have hq2 : q = ws.length - (i + 1) := by omega
    have hstep : placeW ws s (ws.length - i) i = if s = ws.getD i [] then (i : Int) else placeW ws s q (i + 1) := by rw [hq]; rfl
    rw [hstep] at hf
    by_cases hn : s = ws.getD i []
    · rw [if_pos hn] at hf
      simp -implicitDefEqProofs only [Wa,Wb,Wc,Wd,We,Wf,Wg,Wh,Wi,Wj,Wk,Wl,Wm,Wn,Zo,Zp,evalT,Nat.reduceLT,Nat.reduceEqDiff,if_true,if_false,reduceIte,Ys,ofVal,ofCell,argT,resT,setT,Y0,Int.reduceEq,Int.reduceLT,Int.reduceLE,Int.reduceNeg,mb,Nat.reduceBEq,tys,stb,t0,t1,t7,t8,c1,c2,e1,strs_get,hlt,vBin_seql,← hn]
      simp only [oneOr, sealDepth, sealV_int, hf]
    · rw [if_neg hn, hq2] at hf
      simp -implicitDefEqProofs only [Wa,Wb,Wc,Wd,We,Wf,Wg,Wh,Wi,Wj,Wk,Wl,Wm,Wn,Zo,Zp,evalT,Nat.reduceLT,Nat.reduceEqDiff,if_true,if_false,reduceIte,Ys,ofVal,ofCell,argT,resT,setT,Y0,Int.reduceEq,Int.reduceLT,Int.reduceLE,Int.reduceNeg,mb,Nat.reduceBEq,tys,stb,t0,t1,t7,t8,c1,c2,e1,strs_get,hlt,vBin_seql,hn]
      exact ⟨ws.length - (i + 1), by omega, i + 1, rfl, by omega, rfl, hf⟩
  · have hi2 : i = ws.length := by omega
    subst hi2
    have c1 : ¬ (ws.length : Int) < (ws.length : Int) := by omega
    rw [Nat.sub_self] at hf
    simp -implicitDefEqProofs only [Wa,Wb,Wc,Wd,We,Wf,Wg,Wh,Wi,Wj,Wk,Wl,Wm,Wn,Zo,Zp,evalT,Nat.reduceLT,Nat.reduceEqDiff,if_true,if_false,reduceIte,Ys,ofVal,ofCell,argT,resT,setT,Y0,Int.reduceEq,Int.reduceLT,Int.reduceLE,Int.reduceNeg,mb,Nat.reduceBEq,tys,stb,t0,t1,t7,t8,c1]
    simp only [oneOr, sealDepth, sealV_int, hf]; rfl
theorem containsW_call (ws : List (List UInt8)) (c : RCap) (hc : ∀ k e s, c ≠ .tok k e s) (hl : ws.length ≤ 1000) (s : List UInt8) (σ : S) : callFn env (ev env) 60 [.row (ws.map V.str) ws.length c, .str s] σ = some (.bool (decide (s ∈ ws)), σ) := by
  refine callFn_pure rfl rfl (by rw [List.all_cons, closed_row ws c hc]; rfl) at60 rfl (by simp [Tryz.f60]) (by simp [Tryz.f60]) (G_start ?_) σ
  have hk := place_mem ws s
  by_cases h : s ∈ ws
  · have c0 := hk.2 h
    simp -implicitDefEqProofs only [Tryz.f60,Wa,Wb,Wc,Wd,We,Wf,Wg,Wh,Wi,Wj,Wk,Wl,Wm,Wn,Zo,Zp,evalT,Nat.reduceLT,Nat.reduceEqDiff,if_true,if_false,reduceIte,Ys,ofVal,ofCell,argT,resT,setT,Y0,Int.reduceEq,Int.reduceLT,Int.reduceLE,Int.reduceNeg,mb,Nat.reduceBEq,tys,stb,indexW_call ws c hc hl,c0]
    simp only [oneOr, sealDepth, sealV_bool, h, decide_true]
  · have c0 : ¬ 0 ≤ placeW ws s ws.length 0 := fun q => h (hk.1 q)
    simp -implicitDefEqProofs only [Tryz.f60,Wa,Wb,Wc,Wd,We,Wf,Wg,Wh,Wi,Wj,Wk,Wl,Wm,Wn,Zo,Zp,evalT,Nat.reduceLT,Nat.reduceEqDiff,if_true,if_false,reduceIte,Ys,ofVal,ofCell,argT,resT,setT,Y0,Int.reduceEq,Int.reduceLT,Int.reduceLE,Int.reduceNeg,mb,Nat.reduceBEq,tys,stb,indexW_call ws c hc hl,c0]
    simp only [oneOr, sealDepth, sealV_bool, h, decide_false]
end Go.Proofs.YtcjapamldllleaaGreatDoor
namespace Go.Proofs.YtcjapamldllleaaGreatDoor
open Go.Ab
set_option maxHeartbeats 4000000
set_option maxRecDepth 100000
set_option linter.unusedSimpArgs false
set_option linter.unusedVariables false
set_option linter.unusedSectionVars false
structure Nd where
  op : Int
  n : Int
  col : List UInt8
def Nd.cells (x : Nd) : List V := [.int .i64 x.op, .int .i64 x.n, .str x.col]
def Nd.none : Nd := ⟨0, 0, []⟩
def flatN (l : List Nd) : List V := (l.map Nd.cells).flatten
def IsN (v : V) (l : List Nd) : Prop := (v = .nilsl ∧ l = []) ∨ v = .row (flatN l) l.length .unk ∨ v = .row (flatN l) l.length .full
theorem flatN_cons (c : Nd) (cs : List Nd) : flatN (c :: cs) = .int .i64 c.op :: .int .i64 c.n :: .str c.col :: flatN cs := rfl
theorem flatN_drop : ∀ (cs : List Nd) (i : Nat), (flatN cs).drop (i * 3) = flatN (cs.drop i)
  | cs, 0 => by simp
  | [], i + 1 => by simp [flatN]
  | c :: cs, i + 1 => by
    rw [flatN_cons, show (i + 1) * 3 = i * 3 + 1 + 1 + 1 by omega]
    simp only [List.drop_succ_cons]
    exact flatN_drop cs i
theorem flatN_at {cs : List Nd} {i : Nat} (hi : i < cs.length) : flatN (cs.drop i) = .int .i64 (cs.getD i Nd.none).op :: .int .i64 (cs.getD i Nd.none).n :: .str (cs.getD i Nd.none).col :: flatN (cs.drop (i + 1)) := by
  have e : cs.drop i = cs.getD i Nd.none :: cs.drop (i + 1) := by
    rw [List.drop_eq_getElem_cons hi]
    simp [List.getD, hi]
  rw [e, flatN_cons]
theorem len_N {v : V} {cs : List Nd} (h : IsN v cs) : vLenT (some (.slice 42)) v = some (.int .i64 cs.length) := by
  rcases h with ⟨rfl, rfl⟩ | rfl | rfl <;> rfl
theorem idx_N {v : V} {cs : List Nd} (h : IsN v cs) {i : Nat} (hi : i < cs.length) : vIndexAddr 3 v (.int .i64 (i : Int)) = some (.rptr (.int .i64 (cs.getD i Nd.none).op :: .int .i64 (cs.getD i Nd.none).n :: .str (cs.getD i Nd.none).col :: flatN (cs.drop (i + 1)))) := by
  rcases h with ⟨rfl, rfl⟩ | rfl | rfl
  · simp at hi
  · rw [Ys, if_pos (by omega), Int.toNat_natCast, flatN_drop, flatN_at hi]
  · rw [Ys, if_pos (by omega), Int.toNat_natCast, flatN_drop, flatN_at hi]
theorem closed_flatN : ∀ l : List Nd, V.closed.closedL (flatN l) = true
  | [] => rfl
  | c :: cs => by
    rw [flatN_cons]
    simp only [V.closed.closedL, V.closed, closed_flatN cs, Bool.and_self]
theorem closed_N {v : V} {l : List Nd} (h : IsN v l) : v.closed = true := by
  rcases h with ⟨rfl, rfl⟩ | rfl | rfl
  · rfl
  · simp only [V.closed, closed_flatN, Bool.and_self]
  · simp only [V.closed, closed_flatN, Bool.and_self]
theorem u22 : env.P.underlying 22 = some (.slice 42) := by kernel_rfl
theorem u63 : env.P.underlying 28 = some (.int .i64) := by kernel_rfl
theorem u103 : env.P.underlying 56 = some (.slice 57) := by kernel_rfl
theorem u104 : env.P.underlying 57 = some (.int .i64) := by kernel_rfl
theorem u107 : env.P.underlying 60 = some (.array 18 59) := by kernel_rfl
theorem tysn : env.P.underlying 22 = some (.slice 42) ∧ env.P.underlying 28 = some (.int .i64) ∧ env.P.underlying 56 = some (.slice 57) ∧ env.P.underlying 57 = some (.int .i64) ∧ env.P.underlying 60 = some (.array 18 59) ∧ env.P.underlying 31 = some (.slice 3) ∧
    sz env 42 = some 3 ∧ sz env 57 = some 1 ∧ sz env 59 = some 2 ∧ sz env 60 = some 36 ∧ sz env 64 = some 1 ∧ sz env 56 = some 1 ∧ sz env 28 = some 1 ∧
    fldOff env 42 0 = some 0 ∧ fldOff env 42 1 = some 1 ∧ fldOff env 42 2 = some 2 ∧ fldOff env 59 0 = some 0 ∧ fldOff env 59 1 = some 1 ∧ fldOff env 64 0 = some 0 ∧
    (∀ h p, aload env h 56 p = (loadCellsV h 1 p).bind (·[0]?)) ∧ (∀ h p, aload env h 57 p = (loadCellsV h 1 p).bind (·[0]?)) ∧ (∀ h p, aload env h 44 p = (loadCellsV h 1 p).bind (·[0]?)) ∧ (∀ h p, aload env h 3 p = (loadCellsV h 1 p).bind (·[0]?)) ∧ (∀ h p, aload env h 9 p = (loadCellsV h 1 p).bind (·[0]?)) ∧
    (∀ h p, aload env h 42 p = (loadCellsV h 3 p).map .agg) ∧ (∀ h p, aload env h 59 p = (loadCellsV h 2 p).map .agg) ∧ zeroV env 42 = some (.agg [.int .i64 0, .int .i64 0, .str []]) ∧ zeroV env 59 = some (.agg [.nilsl, .int .i64 0]) := by
  have g103 : aggT env 56 = some false := by kernel_rfl
  have g104 : aggT env 57 = some false := by kernel_rfl
  have g44 : aggT env 44 = some false := by kernel_rfl
  have g3 : aggT env 3 = some false := by kernel_rfl
  have g9 : aggT env 9 = some false := by kernel_rfl
  have g52 : aggT env 42 = some true := by kernel_rfl
  have g106 : aggT env 59 = some true := by kernel_rfl
  have s52 : sz env 42 = some 3 := by kernel_rfl
  have s106 : sz env 59 = some 2 := by kernel_rfl
  exact ⟨u22, u63, u103, u104, u107, by kernel_rfl, by kernel_rfl, by kernel_rfl, by kernel_rfl, by kernel_rfl, by kernel_rfl, by kernel_rfl, by kernel_rfl, by kernel_rfl, by kernel_rfl, by kernel_rfl, by kernel_rfl, by kernel_rfl, by kernel_rfl,
    fun _ _ => aload_one g103, fun _ _ => aload_one g104, fun _ _ => aload_one g44, fun _ _ => aload_one g3, fun _ _ => aload_one g9, fun h p => by unfold aload; rw [g52, s52]; rfl, fun h p => by unfold aload; rw [g106, s106]; rfl, by kernel_rfl, by kernel_rfl⟩
theorem load3_rptr (h : List AObj) (a b c : V) (r : List V) : loadCellsV h 3 (.rptr (a :: b :: c :: r)) = some [a, b, c] := by simp [loadCellsV]
theorem load3_ptr {h : List AObj} {n : Nat} {a b c : V} {t : TypeId} (hh : h[n]? = some (.cells [a, b, c] t)) : loadCellsV h 3 (.ptr n 0) = some [a, b, c] := by simp [loadCellsV, hh]
def takesN (op : Int) : List Int × Int :=
  if op ≤ 3 then ([], 0)
  else if op ≤ 6 then ([0, 0], 0)
  else if op = 7 then ([0], 0)
  else if op = 8 then ([1, 0, 0], 0)
  else if op = 15 ∨ op = 16 then ([1, 1], 1)
  else if op = 17 then ([1], 1)
  else ([0, 0], 1)
def rowK (l : List Int) : V := if l = [] then .nilsl else .row (l.map (V.int .i64)) l.length .unk
def opsL : List V := ((List.range 18).map fun o : Nat => [rowK (takesN o).1, V.int .i64 (takesN o).2]).flatten
theorem operations_call (σ : S) : callFn env (ev env) 21 [] σ = some (.agg opsL, σ) := row_of_run rfl rfl rfl (k := 20) (by rw [← runQ_eq]; kernel_rfl) σ
theorem ops_len : opsL.length = 36 := by kernel_rfl
theorem ops_at (o : Nat) (h : o < 18) : (opsL.drop (o * 2)).take 2 = [rowK (takesN o).1, .int .i64 (takesN o).2] := by
  match o, h with
  | 0, _ => rfl
  | 1, _ => rfl
  | 2, _ => rfl
  | 3, _ => rfl
  | 4, _ => rfl
  | 5, _ => rfl
  | 6, _ => rfl
  | 7, _ => rfl
  | 8, _ => rfl
  | 9, _ => rfl
  | 10, _ => rfl
  | 11, _ => rfl
  | 12, _ => rfl
  | 13, _ => rfl
  | 14, _ => rfl
  | 15, _ => rfl
  | 16, _ => rfl
  | 17, _ => rfl
  | n + 18, h => omega
theorem ops_cells : opsL.all V.isCell = true := by kernel_rfl
theorem rowK_rd (h : List AObj) (l : List Int) : RdS h 1 (rowK l) l.length (l.map (V.int .i64)) := by
  unfold rowK
  by_cases hl : l = []
  · subst hl; simpa using RdS.nil h 1
  · rw [if_neg hl]; exact RdS.row h 1 _ _ _ (by simp)
theorem rowK_cell (l : List Int) : (rowK l).isCell = true := by unfold rowK; split <;> rfl
theorem at25 : env.P.funcs[25]? = some Tryz.f25 := by kernel_rfl
theorem rd_idx {h : List AObj} {u : V} {l : List Int} (r : RdS h 1 u l.length (l.map (V.int .i64))) {i : Nat} (hi : i < l.length) : ∃ p, vIndexAddr 1 u (.int .i64 i) = some p ∧ (loadCellsV h 1 p).bind (·[0]?) = some (.int .i64 (l.getD i 0)) := by
  obtain ⟨p, h1, h2⟩ := r.2.2.2 i hi
  refine ⟨p, h1, ?_⟩
  rw [h2]
  simp [List.getD, hi, List.drop_eq_getElem_cons]
open Classical in
theorem equal_call (u w : V) (a b : List Int) (L : List AObj) (ts : List Nat) (ha : RdS L 1 u a.length (a.map (V.int .i64))) (hb : RdS L 1 w b.length (b.map (V.int .i64))) (hl : a.length ≤ 4000) (hl2 : b.length ≤ 4000) : callFn env (ev env) 25 [u, w] ⟨L, ts⟩ = some (.bool (decide (a = b)), ⟨L, ts⟩) := by
  refine callFn_eq rfl rfl at25 rfl (by simp [Tryz.f25]) (by simp [Tryz.f25]) (G_start ?_)
  have la := ha.2.1 57
  have lb := hb.2.1 57
  by_cases h1 : a.length = b.length
  case neg =>
    have c1 : ¬ (a.length : Int) = (b.length : Int) := by omega
    have hn : ¬ a = b := fun e => h1 (by rw [e])
    simp -implicitDefEqProofs only [Tryz.f25,Wa,Wb,Wc,Wd,We,Wf,Wg,Wh,Wi,Wj,Wk,Wl,Wm,Wn,Zo,Zp,evalT,Nat.reduceLT,Nat.reduceEqDiff,if_true,if_false,reduceIte,Ys,ofVal,ofCell,argT,resT,setT,Y0,Int.reduceEq,Int.reduceLT,Int.reduceLE,Int.reduceNeg,mb,Nat.reduceBEq,tys,stb,tysn,la,lb,c1]
    simp [oneOr, hn]
  have c1 : (a.length : Int) = (b.length : Int) := by omega
  simp -implicitDefEqProofs only [Tryz.f25,Wa,Wb,Wc,Wd,We,Wf,Wg,Wh,Wi,Wj,Wk,Wl,Wm,Wn,Zo,Zp,evalT,Nat.reduceLT,Nat.reduceEqDiff,if_true,if_false,reduceIte,Ys,ofVal,ofCell,argT,resT,setT,Y0,Int.reduceEq,Int.reduceLT,Int.reduceLE,Int.reduceNeg,mb,Nat.reduceBEq,tys,stb,tysn,la,lb,c1]
  refine loop_rule (fun m T D σ => D = [] ∧ σ = ⟨L, ts⟩ ∧ T 0 = u ∧ T 1 = w ∧ T 12 = .int .i64 b.length ∧ ∃ i : Nat, T 13 = .int .i64 i ∧ i ≤ b.length ∧ m = b.length - i ∧ ∀ j, j < i → a.getD j 0 = b.getD j 0) ?_ (b.length - 0) _ _ _ ⟨rfl, rfl, rfl, rfl, rfl, 0, rfl, by omega, rfl, fun j h => by omega⟩
  rintro m T D σ ⟨rfl, rfl, t0, t1, t12, i, t13, hi, rfl, hno⟩
  refine G_start ?_
  by_cases hlt : i < b.length
  · have c2 : (i : Int) < (b.length : Int) := by omega
    have e1 : IntKind.i64.wrap ((i : Int) + 1) = ((i + 1 : Nat) : Int) := by rw [wrap_i64 (by omega) (by omega)]; omega
    obtain ⟨p, hp, hpl⟩ := rd_idx ha (show i < a.length by omega)
    obtain ⟨q, hq, hql⟩ := rd_idx hb hlt
    by_cases he : a.getD i 0 = b.getD i 0
    · have he1 : ((a.getD i 0 : Int) = b.getD i 0) = True := eq_true he
      simp -implicitDefEqProofs only [Wa,Wb,Wc,Wd,We,Wf,Wg,Wh,Wi,Wj,Wk,Wl,Wm,Wn,Zo,Zp,evalT,Nat.reduceLT,Nat.reduceEqDiff,if_true,if_false,reduceIte,Ys,ofVal,ofCell,argT,resT,setT,Y0,Int.reduceEq,Int.reduceLT,Int.reduceLE,Int.reduceNeg,mb,Nat.reduceBEq,tys,stb,tysn,t0,t1,t12,t13,c2,e1,hp,hpl,hq,hql,he1]
      exact ⟨by kernel_rfl, b.length - (i + 1), by omega, i + 1, rfl, by omega, rfl, fun j hj => by
        rcases Nat.lt_or_ge j i with h2 | h2
        · exact hno j h2
        · have : j = i := by omega
          subst this; exact he⟩
    · have hn : ¬ a = b := fun e => he (by rw [e])
      have he1 : ((a.getD i 0 : Int) = b.getD i 0) = False := eq_false he
      simp -implicitDefEqProofs only [Wa,Wb,Wc,Wd,We,Wf,Wg,Wh,Wi,Wj,Wk,Wl,Wm,Wn,Zo,Zp,evalT,Nat.reduceLT,Nat.reduceEqDiff,if_true,if_false,reduceIte,Ys,ofVal,ofCell,argT,resT,setT,Y0,Int.reduceEq,Int.reduceLT,Int.reduceLE,Int.reduceNeg,mb,Nat.reduceBEq,tys,stb,tysn,t0,t1,t12,t13,c2,e1,hp,hpl,hq,hql,he1]
      exact ⟨by kernel_rfl, by simp [oneOr, hn]⟩
  · have hi2 : i = b.length := by omega
    subst hi2
    have c2 : ¬ (b.length : Int) < (b.length : Int) := by omega
    have hy : a = b := by
      apply List.ext_getElem h1
      intro k k1 k2
      have := hno k (by omega)
      simpa [List.getD, k1, k2] using this
    simp -implicitDefEqProofs only [Wa,Wb,Wc,Wd,We,Wf,Wg,Wh,Wi,Wj,Wk,Wl,Wm,Wn,Zo,Zp,evalT,Nat.reduceLT,Nat.reduceEqDiff,if_true,if_false,reduceIte,Ys,ofVal,ofCell,argT,resT,setT,Y0,Int.reduceEq,Int.reduceLT,Int.reduceLE,Int.reduceNeg,mb,Nat.reduceBEq,tys,stb,tysn,t0,t1,t12,t13,c2]
    simp [oneOr, hy]
end Go.Proofs.YtcjapamldllleaaGreatDoor
namespace Go.Proofs.YtcjapamldllleaaGreatDoor
open Go.Ab
set_option maxHeartbeats 4000000
set_option maxRecDepth 100000
set_option linter.unusedSimpArgs false
set_option linter.unusedVariables false
set_option linter.unusedSectionVars false
theorem at24 : env.P.funcs[24]? = some Tryz.f24 := by kernel_rfl
theorem at23 : env.P.funcs[23]? = some Tryz.f23 := by kernel_rfl
theorem e103 : elemS env 56 = some 57 := by kernel_rfl
theorem zn104 : zeroN env 57 = some 1 := by kernel_rfl
theorem by104 : bys env 57 = some 8 := by kernel_rfl
theorem mb70 (r : Nat) : env.mutb 24 r = true := rfl
def StkO (L : List AObj) (p : Nat) (xs : List Int) : Prop := ∃ v, L[p]? = some (.cells [v] 64) ∧ StkV L 57 1 v xs.length (xs.map (V.int .i64)) ∧ blkOf v ≠ some p
def Keep (L L' : List AObj) (p : Nat) : Prop := ∀ q o, L[q]? = some o → q ≠ p → (∀ cs, o ≠ .cells cs 57) → L'[q]? = some o
theorem build_m {T : Tm} (L : List AObj) (ts : List Nat) (x : Operand) : opT env true T ⟨L, ts⟩ (.buildSlice 56 1 #[(0, x)]) = (evalT env T x).bind fun v => if v.cells.length = 1 then some (.hsl L.length 0 1 1 .exact, ⟨L ++ [.cells v.cells 57], ts⟩) else none := by
  obtain ⟨z, hz, hl⟩ : ∃ z, zeroV env 57 = some z ∧ z.cells.length = 1 := ⟨.int .i64 0, by kernel_rfl, rfl⟩
  have s104 : sz env 57 = some 1 := by kernel_rfl
  unfold opT
  simp only [apure, aread, astate, partsO]
  cases evalT env T x with
  | none => rfl
  | some v =>
    simp only [Option.map_some, Option.bind_some, e103, s104, hz]
    by_cases hv : v.cells.length = 1
    · have : z.cells.tail = [] := List.eq_nil_of_length_eq_zero (by simp [hl])
      simp [vFill, hl, hv, this, S.push, env]
    · simp [vFill, hv]
theorem lt_get {L : List AObj} {p : Nat} {o : AObj} (h : L[p]? = some o) : p < L.length := (List.getElem?_eq_some_iff.1 h).1
theorem push_call (L : List AObj) (ts : List Nat) (p : Nat) (xs : List Int) (k : Int) (h : StkO L p xs) (hl : xs.length ≤ 4000) :
    ∃ L', callFn env (ev env) 24 [.ptr p 0, .int .i64 k] ⟨L, ts⟩ = some (.tup [], ⟨L', ts⟩) ∧ StkO L' p (xs ++ [k]) ∧ Keep L L' p := by
  obtain ⟨v, hp, hv, hb⟩ := h
  have hplt := lt_get hp
  have hlim : lim = 2 ^ 40 := rfl
  have s104 : sz env 57 = some 1 := by kernel_rfl
  have hv1 : StkV (L ++ [.cells [.int .i64 k] 57]) 57 1 v xs.length (xs.map (V.int .i64)) := hv.move fun b hb => by rw [List.getElem?_append_left (hv.lt hb)]
  have hc : vCells (L ++ [AObj.cells [V.int .i64 k] 57]) 1 1 (.hsl L.length 0 1 1 .exact) = some [.int .i64 k] := by simp [vCells]
  obtain ⟨v', L', ha, hs, hk, hlen, hbk⟩ := StkV.push (E := env) (ts := ts) (ty := 56) (ty2 := 56) (y := .hsl L.length 0 1 1 .exact) hv1 e103 s104 zn104 by104 ⟨57, u103⟩ (by omega) ⟨by rw [hlim]; omega, by rw [hlim]; omega⟩ rfl hc rfl rfl
  simp only [List.length_append, List.length_singleton] at hk hlen hbk
  have hp2 : L'[p]? = some (.cells [v] 64) := by rw [hk p (by omega) hb, List.getElem?_append_left hplt]; exact hp
  have hp3 := lt_get hp2
  have hne : blkOf v' ≠ some p := by
    rcases hbk with h | h
    · rw [h]; exact hb
    · rw [h]; intro e; simp only [Option.some.injEq] at e; omega
  have hcv := hs.cells.1
  have hcv2 := hs.cells.2
  refine ⟨L'.set p (.cells [v'] 64), ?_, ⟨v', by simp [hp3], ?_, hne⟩, ?_⟩
  · refine callFn_eq rfl rfl at24 rfl (by simp [Tryz.f24]) (by simp [Tryz.f24]) (G_start ?_)
    simp -implicitDefEqProofs only [Tryz.f24,Wa,Wb,Wc,Wd,We,Wf,Wg,Wh,Wi,Wj,Wk,Wl,Wm,Wn,Zo,Zp,evalT,Nat.reduceLT,Nat.reduceEqDiff,if_true,if_false,reduceIte,Ys,ofVal,ofCell,argT,resT,setT,Y0,Int.reduceEq,Int.reduceLT,Int.reduceLE,Int.reduceNeg,mb,Nat.reduceBEq,tys,stb,Va,storeList,Nat.reduceAdd,Nat.reduceLeDiff,tysn,opT_nilCheck,nilO_ptr,hp,mb70,build_m,ha,hp2,hcv,hcv2,oneOr]
  · have := hs.move (h' := L'.set p (.cells [v'] 64)) fun b hb => by rw [List.getElem?_set_ne (fun e => hne (by rw [hb, e]))]
    rw [List.length_append, List.map_append]; exact this
  · intro q o hq hqp ho
    have hqlt := lt_get hq
    rw [List.getElem?_set_ne (fun e => hqp e.symm)]
    have hqb : blkOf v ≠ some q := by
      intro e
      obtain ⟨_, ⟨rfl, _⟩ | ⟨b, cap, cs, rfl, hbb, _⟩⟩ := hv
      · simp [blkOf] at e
      · simp only [blkOf, Option.some.injEq] at e
        subst e
        rw [hbb] at hq; cases hq
        exact ho _ rfl
    rw [hk q (by omega) hqb, List.getElem?_append_left hqlt]; exact hq
def popN (xs want : List Int) : Option (List Int) := if want.length ≤ xs.length ∧ xs.drop (xs.length - want.length) = want then some (xs.take (xs.length - want.length)) else none
theorem pop_none (L : List AObj) (ts : List Nat) (p : Nat) (xs want : List Int) (h : StkO L p xs) (hl : xs.length ≤ 4000) (hw : want.length ≤ 4000) (hn : popN xs want = none) : callFn env (ev env) 23 [.ptr p 0, rowK want] ⟨L, ts⟩ = some (.bool false, ⟨L, ts⟩) := by
  obtain ⟨v, hp, hv, hb⟩ := h
  have lv := hv.len 57
  have lw := (rowK_rd L want).2.1 57
  refine callFn_eq rfl rfl at23 rfl (by simp [Tryz.f23]) (by simp [Tryz.f23]) (G_start ?_)
  have e1 : IntKind.i64.wrap ((xs.length : Int) - (want.length : Int)) = (xs.length : Int) - (want.length : Int) := by rw [wrap_i64 (by omega) (by omega)]
  unfold popN at hn
  by_cases h1 : want.length ≤ xs.length
  · have c1 : ¬ (xs.length : Int) - (want.length : Int) < 0 := by omega
    have e2 : (xs.length : Int) - (want.length : Int) = ((xs.length - want.length : Nat) : Int) := by omega
    obtain ⟨u, hu, hr⟩ := StkV.tail (E := env) hv u103 (by kernel_rfl) (xs.length - want.length) (by omega)
    have h2 : ¬ xs.drop (xs.length - want.length) = want := fun h => by simp [h1, h] at hn
    have hr2 : RdS L 1 u (xs.drop (xs.length - want.length)).length ((xs.drop (xs.length - want.length)).map (V.int .i64)) := by
      rw [List.length_drop, List.map_drop]; simpa using hr
    have hE := equal_call u (rowK want) _ want L ts hr2 (rowK_rd L want) (by rw [List.length_drop]; omega) hw
    rw [decide_eq_false h2] at hE
    simp -implicitDefEqProofs only [Tryz.f23,Wa,Wb,Wc,Wd,We,Wf,Wg,Wh,Wi,Wj,Wk,Wl,Wm,Wn,Zo,Zp,evalT,Nat.reduceLT,Nat.reduceEqDiff,if_true,if_false,reduceIte,Ys,ofVal,ofCell,argT,resT,setT,Y0,Int.reduceEq,Int.reduceLT,Int.reduceLE,Int.reduceNeg,mb,Nat.reduceBEq,tys,stb,Va,storeList,Nat.reduceAdd,Nat.reduceLeDiff,tysn,opT_nilCheck,nilO_ptr,hp,lv,lw,e1]
    rw [e2] at c1
    simp -implicitDefEqProofs only [e2,c1,Wa,Wb,Wc,Wd,We,Wf,Wg,Wh,Wi,Wj,Wk,Wl,Wm,Wn,Zo,Zp,evalT,Nat.reduceLT,Nat.reduceEqDiff,if_true,if_false,reduceIte,Ys,ofVal,ofCell,argT,resT,setT,Y0,Int.reduceEq,Int.reduceLT,Int.reduceLE,Int.reduceNeg,mb,Nat.reduceBEq,tys,stb,Va,storeList,Nat.reduceAdd,Nat.reduceLeDiff,tysn,opT_nilCheck,nilO_ptr,hp,lv,lw,opT_slice,optO_none,optO_some,hu,hE]
    simp [oneOr]
  · have c1 : (xs.length : Int) - (want.length : Int) < 0 := by omega
    simp -implicitDefEqProofs only [Tryz.f23,Wa,Wb,Wc,Wd,We,Wf,Wg,Wh,Wi,Wj,Wk,Wl,Wm,Wn,Zo,Zp,evalT,Nat.reduceLT,Nat.reduceEqDiff,if_true,if_false,reduceIte,Ys,ofVal,ofCell,argT,resT,setT,Y0,Int.reduceEq,Int.reduceLT,Int.reduceLE,Int.reduceNeg,mb,Nat.reduceBEq,tys,stb,Va,storeList,Nat.reduceAdd,Nat.reduceLeDiff,tysn,opT_nilCheck,nilO_ptr,hp,lv,lw,e1,c1]
    simp [oneOr]
theorem pop_some (L : List AObj) (ts : List Nat) (p : Nat) (xs want ys : List Int) (h : StkO L p xs) (hl : xs.length ≤ 4000) (hw : want.length ≤ 4000) (hn : popN xs want = some ys) :
    ∃ L', callFn env (ev env) 23 [.ptr p 0, rowK want] ⟨L, ts⟩ = some (.bool true, ⟨L', ts⟩) ∧ StkO L' p ys ∧ Keep L L' p := by
  obtain ⟨v, hp, hv, hb⟩ := h
  have hplt := lt_get hp
  have lv := hv.len 57
  have lw := (rowK_rd L want).2.1 57
  unfold popN at hn
  split at hn
  · rename_i hc
    obtain ⟨h1, h2⟩ := hc
    simp only [Option.some.injEq] at hn
    subst hn
    have e1 : IntKind.i64.wrap ((xs.length : Int) - (want.length : Int)) = ((xs.length - want.length : Nat) : Int) := by rw [wrap_i64 (by omega) (by omega)]; omega
    have c1 : ¬ ((xs.length - want.length : Nat) : Int) < 0 := by omega
    obtain ⟨u, hu, hr⟩ := StkV.tail (E := env) hv u103 (by kernel_rfl) (xs.length - want.length) (by omega)
    have hr2 : RdS L 1 u (xs.drop (xs.length - want.length)).length ((xs.drop (xs.length - want.length)).map (V.int .i64)) := by
      rw [List.length_drop, List.map_drop]; simpa using hr
    have hE := equal_call u (rowK want) _ want L ts hr2 (rowK_rd L want) (by rw [List.length_drop]; omega) hw
    rw [decide_eq_true h2] at hE
    obtain ⟨v', hv', hs', hb'⟩ := StkV.cut (E := env) hv u103 (by kernel_rfl) (xs.length - want.length) (by omega) none (.inl rfl)
    have hcv := hs'.cells.1
    have hcv2 := hs'.cells.2
    refine ⟨L.set p (.cells [v'] 64), ?_, ⟨v', by simp [hplt], ?_, by rw [hb']; exact hb⟩, fun q o hq hqp _ => by rw [List.getElem?_set_ne (fun e => hqp e.symm)]; exact hq⟩
    · refine callFn_eq rfl rfl at23 rfl (by simp [Tryz.f23]) (by simp [Tryz.f23]) (G_start ?_)
      simp -implicitDefEqProofs only [Tryz.f23,Wa,Wb,Wc,Wd,We,Wf,Wg,Wh,Wi,Wj,Wk,Wl,Wm,Wn,Zo,Zp,evalT,Nat.reduceLT,Nat.reduceEqDiff,if_true,if_false,reduceIte,Ys,ofVal,ofCell,argT,resT,setT,Y0,Int.reduceEq,Int.reduceLT,Int.reduceLE,Int.reduceNeg,mb,Nat.reduceBEq,tys,stb,Va,storeList,Nat.reduceAdd,Nat.reduceLeDiff,tysn,opT_nilCheck,nilO_ptr,hp,lv,lw,e1,c1,opT_slice,optO_none,optO_some,hu,hE,hv',hcv,hcv2]
      simp [oneOr]
    · have := hs'.move (h' := L.set p (.cells [v'] 64)) fun b hbb => by rw [List.getElem?_set_ne (fun e => hb (by rw [← hb', hbb, e]))]
      have e3 : (xs.take (xs.length - want.length)).length = xs.length - want.length := by rw [List.length_take]; omega
      rw [e3, List.map_take]; simpa using this
  · simp at hn
end Go.Proofs.YtcjapamldllleaaGreatDoor
namespace Go.Proofs.YtcjapamldllleaaGreatDoor
open Go.Ab
set_option maxHeartbeats 4000000
set_option maxRecDepth 100000
set_option linter.unusedSimpArgs false
set_option linter.unusedVariables false
set_option linter.unusedSectionVars false
theorem firstQ_spec (f : Nat → Bool) : ∀ m i, firstQ f m i = -1 ∨ ∃ j : Nat, firstQ f m i = (j : Int) ∧ i ≤ j ∧ j < i + m ∧ f j = true ∧ ∀ k, i ≤ k → k < j → f k = false
  | 0, i => .inl rfl
  | m + 1, i => by
    simp only [firstQ]
    by_cases h : f i = true
    · rw [if_pos h]
      exact .inr ⟨i, rfl, Nat.le_refl _, by omega, h, fun k h1 h2 => by omega⟩
    · rw [if_neg h]
      rcases firstQ_spec f m (i + 1) with h1 | ⟨j, h1, h2, h3, h4, h5⟩
      · exact .inl h1
      · refine .inr ⟨j, h1, by omega, by omega, h4, fun k h6 h7 => ?_⟩
        rcases Nat.lt_or_ge i k with h8 | h8
        · exact h5 k h8 h7
        · have : k = i := by omega
          subst this; simpa using h
def seekK (cs : List Col) (nm : List UInt8) : Int := seekC cs nm cs.length 0
theorem seekK_spec (cs : List Col) (nm : List UInt8) : seekK cs nm = -1 ∨ ∃ j : Nat, seekK cs nm = (j : Int) ∧ j < cs.length ∧ (cs.getD j Col.none).name = nm ∧ ∀ k, k < j → (cs.getD k Col.none).name ≠ nm := by
  rcases firstQ_spec (fun i => decide ((cs.getD i Col.none).name = nm)) cs.length 0 with h | ⟨j, h1, h2, h3, h4, h5⟩
  · exact .inl h
  · exact .inr ⟨j, h1, by omega, by simpa using h4, fun k hk => by simpa using h5 k (by omega) hk⟩
def colN (cs : List Col) (nm : List UInt8) : Col := if 0 ≤ seekK cs nm then cs.getD (seekK cs nm).toNat Col.none else Col.none
theorem colN_W {cs : List Col} (ok : OkC cs) (nm : List UInt8) : IsW (colN cs nm).w (colN cs nm).ws := by
  unfold colN
  rcases seekK_spec cs nm with h | ⟨j, h, hj, _⟩
  · rw [h, if_neg (by omega)]; exact .inl ⟨rfl, rfl⟩
  · rw [h, if_pos (by omega), Int.toNat_natCast]; exact ok.at hj
theorem at36 : env.P.funcs[36]? = some Tryz.f36 := by kernel_rfl
theorem isCell_nilsl : V.nilsl.isCell = true := rfl
theorem build36 {cv : V} {cs : List Col} (hc : IsC cv cs) : buildO env 26 [(3, cv)] = some (.agg [.str [], .bool false, .int .i64 0, cv]) := by rcases hc with ⟨rfl, rfl⟩ | ⟨q, rfl | rfl, rfl⟩ <;> kernel_rfl
theorem build46 : buildO env 46 [] = some (.agg [.str [], .int .i64 0, .int .i64 0, .nilsl]) := by kernel_rfl
theorem seal_strs' (h : List AObj) (d : Nat) : ∀ ws : List (List UInt8), (ws.map V.str).mapM (sealV h (d + 1)) = some (ws.map V.str)
  | [] => rfl
  | w :: ws => by rw [List.map_cons, mapM_seal_cons, seal_strs' h d ws, sealV_str]; rfl
theorem seal_W {w : V} {ws : List (List UInt8)} (h : IsW w ws) (H : List AObj) (d : Nat) : sealV H (d + 2) w = some w := by
  rcases h with ⟨rfl, _⟩ | rfl
  · rfl
  · rw [sealV_row, seal_strs' H d ws]; rfl
def colT (c : Col) (b : Bool) : V := .tup [.agg [.str c.name, .int .i64 c.lo, .int .i64 c.hi, c.w], .bool b]
theorem ckcol_call (cv : V) (cs : List Col) (hc : IsC cv cs) (ok : OkC cs) (hl : cs.length ≤ 1000) (nm : List UInt8) (σ : S) : callFn env (ev env) 36 [cv, .str nm] σ = some (colT (colN cs nm) (decide (0 ≤ seekK cs nm)), σ) := by
  refine callFn_pure rfl rfl (by simp [V.closed, V.closed.closedL, closed_C hc ok]) at36 rfl (by simp [Tryz.f36]) (by simp [Tryz.f36]) (G_start ?_) σ
  have hF := column2_call nm (.str []) (.bool false) (.int .i64 0) rfl rfl rfl cv cs hc ok hl
  change ∀ σ, _ = some (foundV (seekK cs nm), σ) at hF
  unfold foundV at hF
  have hW := colN_W ok nm
  rcases seekK_spec cs nm with h | ⟨j, h, hj, _⟩
  · unfold colT colN
    rw [h] at hF ⊢
    rw [if_neg (by omega)] at hF ⊢
    rw [decide_eq_false (by omega)] at hF ⊢
    simp -implicitDefEqProofs only [Tryz.f36,Wa,Wb,Wc,Wd,We,Wf,Wg,Wh,Wi,Wj,Wk,Wl,Wm,Wn,Zo,Zp,evalT,Nat.reduceLT,Nat.reduceEqDiff,if_true,if_false,reduceIte,Ys,ofVal,ofCell,argT,resT,setT,Y0,Int.reduceEq,Int.reduceLT,Int.reduceLE,Int.reduceNeg,mb,Nat.reduceBEq,tys,stb,Va,storeList,Nat.reduceAdd,Nat.reduceLeDiff,tysn,tys2,empty_mk,z44,build36 hc,build46,hF,YW,isCell_str,isCell_int,isCell_nilsl,YH,agg44,load4_ptr (show ([AObj.cells [V.str [],V.int IntKind.i64 0,V.int IntKind.i64 0,V.nilsl] 46] : List AObj)[0]? = some (AObj.cells [V.str [],V.int IntKind.i64 0,V.int IntKind.i64 0,V.nilsl] 46) from rfl)]
    rfl
  · unfold colT
    have hcN : colN cs nm = cs.getD j Col.none := by unfold colN; rw [h, if_pos (by omega), Int.toNat_natCast]
    rw [hcN] at hW ⊢
    rw [h] at hF ⊢
    rw [if_pos (by omega)] at hF
    rw [decide_eq_true (by omega)] at hF ⊢
    have hx := idx_C hc hj
    have hic := isCell_W hW
    have hsw := seal_W hW
    generalize cs.getD j Col.none = c at *
    simp -implicitDefEqProofs only [Tryz.f36,Wa,Wb,Wc,Wd,We,Wf,Wg,Wh,Wi,Wj,Wk,Wl,Wm,Wn,Zo,Zp,evalT,Nat.reduceLT,Nat.reduceEqDiff,if_true,if_false,reduceIte,Ys,ofVal,ofCell,argT,resT,setT,Y0,Int.reduceEq,Int.reduceLT,Int.reduceLE,Int.reduceNeg,mb,Nat.reduceBEq,tys,stb,Va,storeList,Nat.reduceAdd,Nat.reduceLeDiff,tysn,tys2,empty_mk,z44,build36 hc,hF,YW,isCell_str,isCell_int,isCell_nilsl,YH,hx,agg44,load4_rptr,hic,load4_ptr (show ([AObj.cells [V.str c.name,V.int IntKind.i64 c.lo,V.int IntKind.i64 c.hi,c.w] 46] : List AObj)[0]? = some _ from rfl)]
    simp only [oneOr, sealDepth, sealV_tup, sealV_agg, mapM_seal_cons, mapM_seal_nil, sealV_int, sealV_str, sealV_bool, hsw, Option.bind_some, Option.map_some, and_self]
end Go.Proofs.YtcjapamldllleaaGreatDoor
