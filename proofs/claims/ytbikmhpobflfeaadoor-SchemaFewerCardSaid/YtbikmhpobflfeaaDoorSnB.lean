/- Proved here: columns and words, copies, and the reference's check. Conditions: those of each theorem; no statement of the seat is proved in this text. -/
import Derived.Test.YtbikmhpobflfeaaDoorSnA
namespace Go.Proofs.YtbikmhpobflfeaaDoor
open Go.Ab
set_option maxHeartbeats 4000000
set_option maxRecDepth 100000
set_option linter.unusedSimpArgs false
set_option linter.unusedVariables false
set_option linter.unusedSectionVars false
structure Col where
  name : List UInt8
  lo : Int
  hi : Int
  w : V
  ws : List (List UInt8)
def Col.cells (c : Col) : List V := [.str c.name, .int .i64 c.lo, .int .i64 c.hi, c.w]
def Col.none : Col := ⟨[], 0, 0, .nilsl, []⟩
def IsW (w : V) (ws : List (List UInt8)) : Prop := (w = .nilsl ∧ ws = []) ∨ w = .row (ws.map V.str) ws.length .unk
def flatC (cs : List Col) : List V := (cs.map Col.cells).flatten
def IsC (v : V) (cs : List Col) : Prop := (v = .nilsl ∧ cs = []) ∨ v = .row (flatC cs) cs.length .unk
def OkC (cs : List Col) : Prop := ∀ c ∈ cs, IsW c.w c.ws
theorem OkC.at {cs : List Col} (h : OkC cs) {i : Nat} (hi : i < cs.length) : IsW (cs.getD i Col.none).w (cs.getD i Col.none).ws := h _ (by simp [List.getD, hi])
theorem flatC_cons (c : Col) (cs : List Col) : flatC (c :: cs) = .str c.name :: .int .i64 c.lo :: .int .i64 c.hi :: c.w :: flatC cs := rfl
theorem flatC_len : ∀ cs : List Col, (flatC cs).length = cs.length * 4
  | [] => rfl
  | c :: cs => by rw [flatC_cons]; simp only [List.length_cons, flatC_len cs]; omega
theorem flatC_drop : ∀ (cs : List Col) (i : Nat), (flatC cs).drop (i * 4) = flatC (cs.drop i)
  | cs, 0 => by simp
  | [], i + 1 => by simp [flatC]
  | c :: cs, i + 1 => by
    rw [flatC_cons, show (i + 1) * 4 = i * 4 + 1 + 1 + 1 + 1 by omega]
    simp only [List.drop_succ_cons]
    exact flatC_drop cs i
theorem flatC_at {cs : List Col} {i : Nat} (hi : i < cs.length) : flatC (cs.drop i) = .str (cs.getD i Col.none).name :: .int .i64 (cs.getD i Col.none).lo :: .int .i64 (cs.getD i Col.none).hi :: (cs.getD i Col.none).w :: flatC (cs.drop (i + 1)) := by
  have e : cs.drop i = cs.getD i Col.none :: cs.drop (i + 1) := by
    rw [List.drop_eq_getElem_cons hi]
    simp [List.getD, hi]
  rw [e, flatC_cons]
theorem len_C {v : V} {cs : List Col} (h : IsC v cs) : vLenT (some (.slice 44)) v = some (.int .i64 cs.length) := by
  rcases h with ⟨rfl, rfl⟩ | rfl <;> rfl
theorem len_W {v : V} {ws : List (List UInt8)} (h : IsW v ws) : vLenT (some (.slice 9)) v = some (.int .i64 ws.length) := by
  rcases h with ⟨rfl, rfl⟩ | rfl <;> rfl
theorem idx_C {v : V} {cs : List Col} (h : IsC v cs) {i : Nat} (hi : i < cs.length) : vIndexAddr 4 v (.int .i64 (i : Int)) = some (.rptr (.str (cs.getD i Col.none).name :: .int .i64 (cs.getD i Col.none).lo :: .int .i64 (cs.getD i Col.none).hi :: (cs.getD i Col.none).w :: flatC (cs.drop (i + 1)))) := by
  rcases h with ⟨rfl, rfl⟩ | rfl
  · simp at hi
  · rw [Ys, if_pos (by omega), Int.toNat_natCast, flatC_drop, flatC_at hi]
theorem idx_W {v : V} {ws : List (List UInt8)} (h : IsW v ws) {i : Nat} (hi : i < ws.length) : vIndexAddr 1 v (.int .i64 (i : Int)) = some (.rptr (.str (ws.getD i []) :: (ws.map V.str).drop (i + 1))) := by
  rcases h with ⟨rfl, rfl⟩ | rfl
  · simp at hi
  · rw [Ys, if_pos (by omega), Int.toNat_natCast, Nat.mul_one, List.drop_eq_getElem_cons (by simpa using hi)]
    simp [List.getD, hi]
theorem load_hd (h : List AObj) (v : V) (r : List V) : (loadCellsV h 1 (.rptr (v :: r))).bind (·[0]?) = some v := by
  have := Yz h (v :: r) 0
  simpa using this
theorem u27 : env.P.underlying 27 = some (.slice 44) := by kernel_rfl
theorem u32 : env.P.underlying 32 = some (.int .i64) := by kernel_rfl
theorem tys2 : env.P.underlying 27 = some (.slice 44) ∧ env.P.underlying 32 = some (.int .i64) ∧ sz env 27 = some 1 ∧ sz env 44 = some 4 ∧ sz env 29 = some 4 ∧ sz env 4 = some 1 ∧ fldOff env 29 0 = some 0 ∧ fldOff env 29 1 = some 1 ∧ fldOff env 29 2 = some 2 ∧ fldOff env 29 3 = some 3 ∧
    fldOff env 44 0 = some 0 ∧ fldOff env 44 1 = some 1 ∧ fldOff env 44 2 = some 2 ∧ fldOff env 44 3 = some 3 ∧ (∀ h p, aload env h 27 p = (loadCellsV h 1 p).bind (·[0]?)) ∧ (∀ h p, aload env h 4 p = (loadCellsV h 1 p).bind (·[0]?)) := by
  have g27 : aggT env 27 = some false := by kernel_rfl
  have g4 : aggT env 4 = some false := by kernel_rfl
  exact ⟨u27, u32, by kernel_rfl, by kernel_rfl, by kernel_rfl, by kernel_rfl, by kernel_rfl, by kernel_rfl, by kernel_rfl, by kernel_rfl, by kernel_rfl, by kernel_rfl, by kernel_rfl, by kernel_rfl, fun _ _ => aload_one g27, fun _ _ => aload_one g4⟩
theorem closed_W {w : V} {ws : List (List UInt8)} (h : IsW w ws) : w.closed = true := by
  rcases h with ⟨rfl, rfl⟩ | rfl
  · rfl
  · simp only [V.closed, closed_strs, Bool.and_self]
theorem closed_flat : ∀ {cs : List Col}, OkC cs → V.closed.closedL (flatC cs) = true
  | [], h => rfl
  | c :: cs, h => by
    rw [flatC_cons]
    simp only [V.closed.closedL, V.closed, closed_W (h c (by simp)), closed_flat (cs := cs) fun x hx => h x (by simp [hx]), Bool.and_self]
theorem closed_C {v : V} {cs : List Col} (h : IsC v cs) (ok : OkC cs) : v.closed = true := by
  rcases h with ⟨rfl, rfl⟩ | rfl
  · rfl
  · simp only [V.closed, closed_flat ok, Bool.and_self]
def Vast (cs : List Col) : Prop := (∃ i, i < cs.length ∧ 100 < (cs.getD i Col.none).ws.length) ∨ 100 < cs.length
end Go.Proofs.YtbikmhpobflfeaaDoor
namespace Go.Proofs.YtbikmhpobflfeaaDoor
open Go.Ab
set_option maxHeartbeats 4000000
set_option maxRecDepth 100000
set_option linter.unusedSimpArgs false
set_option linter.unusedVariables false
set_option linter.unusedSectionVars false
theorem heap_end (L : List AObj) (o : AObj) : (L ++ [o])[L.length]? = some o := by simp
theorem set_end (L : List AObj) (o o' : AObj) : (L ++ [o]).set L.length o' = L ++ [o'] := by simp
theorem load4_rptr (h : List AObj) (a b c d : V) (r : List V) : loadCellsV h 4 (.rptr (a :: b :: c :: d :: r)) = some [a, b, c, d] := by simp [loadCellsV]
theorem load4_ptr {h : List AObj} {n : Nat} {a b c d : V} {t : TypeId} (hh : h[n]? = some (.cells [a, b, c, d] t)) : loadCellsV h 4 (.ptr n 0) = some [a, b, c, d] := by simp [loadCellsV, hh]
theorem agg44 (h : List AObj) (p : V) : aload env h 44 p = (loadCellsV h 4 p).map .agg := by
  unfold aload
  rw [show aggT env 44 = some true by kernel_rfl, show sz env 44 = some 4 by kernel_rfl]
  rfl
theorem agg29 (h : List AObj) (p : V) : aload env h 29 p = (loadCellsV h 4 p).map .agg := by
  unfold aload
  rw [show aggT env 29 = some true by kernel_rfl, show sz env 29 = some 4 by kernel_rfl]
  rfl
theorem z44 : zeroV env 44 = some (.agg [.str [], .int .i64 0, .int .i64 0, .nilsl]) := by kernel_rfl
theorem z29 : zeroV env 29 = some (.agg [.str [], .bool false, .int .i64 0, .nilsl]) := by kernel_rfl
theorem one24 : One env 24 9 16 := ⟨by kernel_rfl, by kernel_rfl, by kernel_rfl, by kernel_rfl, by kernel_rfl, ⟨.str [], by kernel_rfl, rfl⟩⟩
theorem el27 : elemS env 27 = some 44 := by kernel_rfl
theorem by44 : bys env 44 = some 56 := by kernel_rfl
theorem zn44 : zeroN env 44 = some 4 := by kernel_rfl
def Col.cap (c : Col) (cap : RCap) : Col := { c with w := .row (c.ws.map V.str) c.ws.length cap }
def copyC (c : Col) : Col := c.cap .unk
inductive GrowC (ts : List Nat) : V → List Col → Prop
  | nil : GrowC ts .nilsl []
  | tok (cs : List Col) (k e : Nat) (h : ts[k]? = some e) (hne : cs ≠ []) : GrowC ts (.row (flatC cs) cs.length (.tok k e 4)) cs
theorem flatC_app (cs : List Col) (c : Col) : flatC (cs ++ [c]) = flatC cs ++ c.cells := by simp [flatC]
theorem build_C {T : Tm} {σ : S} {x : Operand} : opT env false T σ (.buildSlice 27 1 #[(0, x)]) = (evalT env T x).bind fun v => if v.cells.length = 4 then some (.row v.cells 1 .full, σ) else none := by
  unfold opT
  simp only [apure, aread, astate, partsO]
  cases evalT env T x with
  | none => rfl
  | some v =>
    simp only [Option.map_some, Option.bind_some, el27, tys2, z44]
    by_cases hv : v.cells.length = 4
    · simp [vFill, hv, YW]
    · simp [vFill, hv, YW]
theorem GrowC.append {hp : List AObj} {ts : List Nat} {v : V} {cs : List Col} (g : GrowC ts v cs) (c : Col) (cap : RCap) (hc : c.cells.all V.isCell = true) (hb : cs.length + 1 ≤ 1000) :
    ∃ v' ts', appO env false ⟨hp, ts⟩ 27 27 v (.row c.cells 1 cap) = some (v', ⟨hp, ts'⟩) ∧ GrowC ts' v' (cs ++ [c]) := by
  have hnew : vCells hp 4 1 (.row c.cells 1 cap) = some c.cells := by simp [vCells, Col.cells]
  have hl1 : (1 : Nat) * 56 ≤ lim ∧ 1 ≤ lim := by decide
  have hl2 : (cs.length + 1) * 56 ≤ lim ∧ cs.length + 1 ≤ lim := by have h : lim = 2 ^ 40 := rfl; rw [h]; omega
  unfold appO
  simp only [el27, tys2, by44, zn44, vLen, hnew, Option.bind_some, if_true]
  cases g with
  | nil =>
    refine ⟨.row (flatC [c]) 1 (.tok ts.length 0 4), ts ++ [0], ?_, .tok [c] ts.length 0 (by simp) (by simp)⟩
    simp [aappend, hl1, flatC]
  | tok _ k e hk hne =>
    have hkl : k < ts.length := by
      rcases Nat.lt_or_ge k ts.length with h1 | h1
      · exact h1
      · rw [List.getElem?_eq_none h1] at hk; simp at hk
    refine ⟨.row (flatC (cs ++ [c])) (cs ++ [c]).length (.tok k (e + 1) 4), ts.set k (e + 1), ?_, .tok _ k (e + 1) (by simp [hkl]) (by simp)⟩
    have hl3 : (flatC cs).length = cs.length * 4 := flatC_len cs
    simp [aappend, hl2, hl3, hk, hc, flatC_app]
theorem isCell_str0 (s : List UInt8) : (V.str s).isCell = true := rfl
theorem app_W {w : V} {ws : List (List UInt8)} (h : IsW w ws) (hb : ws.length ≤ 1000) (hp : List AObj) (ts : List Nat) :
    ∃ cap ts', appO env false ⟨hp, ts⟩ 24 24 (.row [] 0 .full) w = some (.row (ws.map V.str) ws.length cap, ⟨hp, ts'⟩) ∧ ∀ (k e : Nat), ts[k]? = some e → ts'[k]? = some e := by
  by_cases hn : ws = []
  · subst hn
    refine ⟨.full, ts, ?_, fun _ _ h => h⟩
    unfold appO
    simp only [one24.elem, one24.size, one24.bytes, one24.slice, one24.zeros, Option.bind_some, if_true]
    rcases h with ⟨rfl, _⟩ | rfl <;> simp [vLen, vCells, aappend]
  · rcases h with ⟨_, h⟩ | rfl
    · exact absurd h hn
    · have hl2 : ws.length * 16 ≤ lim ∧ ws.length ≤ lim := by have h : lim = 2 ^ 40 := rfl; rw [h]; omega
      have hall : (ws.map V.str).all V.isCell = true := by simp [V.isCell]
      have hne : ¬ ws.length = 0 := fun h => hn (List.eq_nil_of_length_eq_zero h)
      refine ⟨.tok ts.length 0 1, ts ++ [0], ?_, fun k e hk => ?_⟩
      · unfold appO
        simp only [one24.elem, one24.size, one24.bytes, one24.slice, one24.zeros, Option.bind_some, if_true]
        have htk : List.take ws.length (ws.map V.str) = ws.map V.str := List.take_of_length_le (by simp)
        simp [vLen, vCells, aappend, hl2, hne, hn, htk, isCell_str0]
      · rw [List.getElem?_append_left]
        · exact hk
        · rcases Nat.lt_or_ge k ts.length with h1 | h1
          · exact h1
          · rw [List.getElem?_eq_none h1] at hk; simp at hk
theorem at22 : env.P.funcs[22]? = some Tryd.f22 := by kernel_rfl
theorem isCell_W {w : V} {ws : List (List UInt8)} (h : IsW w ws) : w.isCell = true := by rcases h with ⟨rfl, _⟩ | rfl <;> rfl
theorem isCell_str (s : List UInt8) : (V.str s).isCell = true := rfl
theorem isCell_bool (b : Bool) : (V.bool b).isCell = true := rfl
theorem load4_end (L : List AObj) (a b c d : V) (t : TypeId) : loadCellsV (L ++ [.cells [a, b, c, d] t]) 4 (.ptr L.length 0) = some [a, b, c, d] := load4_ptr (heap_end _ _)
theorem GrowC.keep {ts ts' : List Nat} {v : V} {cs : List Col} (g : GrowC ts v cs) (h : ∀ (k e : Nat), ts[k]? = some e → ts'[k]? = some e) : GrowC ts' v cs := by
  cases g with
  | nil => exact .nil
  | tok _ k e hk hne => exact .tok _ k e (h k e hk) hne
theorem GrowC.cells {ts : List Nat} {v : V} {cs : List Col} (g : GrowC ts v cs) : v.cells = [v] := by cases g <;> rfl
theorem GrowC.cell {ts : List Nat} {v : V} {cs : List Col} (g : GrowC ts v cs) : v.isCell = true := by cases g <;> rfl
def copyV (cs : List Col) : V := if cs = [] then .nilsl else .row (flatC (cs.map copyC)) cs.length .unk
theorem seal_strs (h : List AObj) (d : Nat) (ws : List (List UInt8)) : (ws.map V.str).mapM (sealV h (d + 1)) = some (ws.map V.str) :=
  mapM_seal_same h (d + 1) _ fun v hv => by
    obtain ⟨z, _, rfl⟩ := List.mem_map.1 hv
    rfl
theorem seal_flat (h : List AObj) (d : Nat) : ∀ P : List Col, (∀ c ∈ P, ∃ cap, c.w = .row (c.ws.map V.str) c.ws.length cap) → (flatC P).mapM (sealV h (d + 2)) = some (flatC (P.map copyC))
  | [], _ => rfl
  | c :: P, hp => by
    obtain ⟨cap, hw⟩ := hp c (by simp)
    rw [flatC_cons, mapM_seal_cons, mapM_seal_cons, mapM_seal_cons, mapM_seal_cons, seal_flat h d P fun x hx => hp x (by simp [hx]), hw, sealV_str, sealV_int, sealV_int, sealV_row, seal_strs]
    rfl
theorem seal_copy {h : List AObj} {d : Nat} {ts : List Nat} {u : V} {P cs : List Col} (hg : GrowC ts u P) (hp : ∀ c ∈ P, ∃ cap, c.w = .row (c.ws.map V.str) c.ws.length cap) (hm : P.map copyC = cs.map copyC) : sealV h (d + 3) u = some (copyV cs) := by
  have hl : P.length = cs.length := by have := congrArg List.length hm; simpa using this
  cases hg with
  | nil =>
    have : cs = [] := List.eq_nil_of_length_eq_zero hl.symm
    subst this
    rfl
  | tok _ k e hk hne =>
    rw [sealV_row, seal_flat h d P hp, hm, hl]
    have he : cs ≠ [] := fun e => hne (List.eq_nil_of_length_eq_zero (by rw [hl, e]; rfl))
    simp [copyV, he]
theorem copy_call (nm : List UInt8) (pb : Bool) (many : Int) (cv : V) (cs : List Col) (hc : IsC cv cs) (ok : OkC cs) (hl : cs.length ≤ 100) (hw : ∀ i, i < cs.length → (cs.getD i Col.none).ws.length ≤ 100) (σ : S) :
    callFn env (ev env) 22 [.agg [.str nm, .bool pb, .int .i64 many, cv]] σ = some (.agg [.str nm, .bool pb, .int .i64 many, copyV cs], σ) := by
  refine callFn_pure rfl rfl (by simp [V.closed, V.closed.closedL, closed_C hc ok]) at22 rfl (by simp [Tryd.f22]) (by simp [Tryd.f22]) (G_start ?_) σ
  have hcc : cv.isCell = true := by rcases hc with ⟨rfl, _⟩ | rfl <;> rfl
  simp -implicitDefEqProofs only [Tryd.f22,Wa,Wb,Wc,Wd,We,Wf,Wg,Wh,Wi,Wj,Wk,Wl,Wm,Wn,Zo,Zp,evalT,Nat.reduceLT,Nat.reduceEqDiff,if_true,if_false,reduceIte,Ys,ofVal,ofCell,argT,resT,setT,Y0,Int.reduceEq,Int.reduceLT,Int.reduceLE,Int.reduceNeg,mb,Nat.reduceBEq,tys,stb,tys2,z29,z44,empty_mk,storeList,List.take_zero,List.drop_zero,List.take_succ_cons,List.drop_succ_cons,List.drop_nil,List.all_cons,List.all_nil,isCell_str,isCell_bool,isCell_int,hcc,V.isCell,List.set_cons_zero,Nat.reduceAdd,Nat.reduceLeDiff]
  refine loop_rule (fun m T D σ => D = [] ∧ T 1 = .ptr 0 0 ∧ T 2 = .ptr 1 0 ∧ T 3 = cv ∧ ∃ (L : List AObj) (ts : List Nat) (i : Nat) (P : List Col) (u : V), σ = ⟨L, ts⟩ ∧ L[0]? = some (.cells [.str nm, .bool pb, .int .i64 many, u] 29) ∧
    L[1]? = some (.cells [.str [], .bool false, .int .i64 0, .nilsl] 29) ∧ T 4 = .int .i64 i ∧ i ≤ cs.length ∧ m = cs.length - i ∧ GrowC ts u P ∧ P.length = i ∧ P.map copyC = (cs.take i).map copyC ∧ ∀ c ∈ P, ∃ cap, c.w = .row (c.ws.map V.str) c.ws.length cap) ?_ _ _ _ _
    ⟨rfl, rfl, rfl, rfl, _, _, 0, [], .nilsl, rfl, rfl, rfl, rfl, by omega, rfl, .nil, rfl, rfl, fun c h => by simp at h⟩
  rintro m T D σ ⟨rfl, t1, t2, t3, L, ts, i, P, u, rfl, l0, l1, t4, hi, rfl, hg, hpl, hpm, hpw⟩
  refine G_start ?_
  have hn0 : 0 < L.length := by
    rcases Nat.lt_or_ge 0 L.length with h | h
    · exact h
    · rw [List.getElem?_eq_none h] at l0; simp at l0
  have hn1 : 1 < L.length := by
    rcases Nat.lt_or_ge 1 L.length with h | h
    · exact h
    · rw [List.getElem?_eq_none h] at l1; simp at l1
  by_cases hlt : i < cs.length
  · have c1 : (i : Int) < (cs.length : Int) := by omega
    have e1 : IntKind.i64.wrap ((i : Int) + 1) = ((i + 1 : Nat) : Int) := by rw [wrap_i64 (by omega) (by omega)]; omega
    have hwi := ok.at hlt
    have hws := hw i hlt
    generalize hcd : cs.getD i Col.none = c at *
    have hE0 : ∀ o, (L ++ [o])[0]? = some (.cells [.str nm, .bool pb, .int .i64 many, u] 29) := fun o => by rw [List.getElem?_append_left hn0]; exact l0
    obtain ⟨cap, ts', hA, hk⟩ := app_W hwi (by omega) (L ++ [.cells [.str c.name, .int .i64 c.lo, .int .i64 c.hi, c.w] 44]) ts
    obtain ⟨u', ts'', hB, hg'⟩ := (hg.keep hk).append (hp := L ++ [.cells [.str c.name, .int .i64 c.lo, .int .i64 c.hi, .row (c.ws.map V.str) c.ws.length cap] 44]) (c.cap cap) .full (by simp [Col.cells, Col.cap, V.isCell]) (by omega)
    have hcells : (c.cap cap).cells = [.str c.name, .int .i64 c.lo, .int .i64 c.hi, .row (c.ws.map V.str) c.ws.length cap] := rfl
    rw [hcells] at hB
    have hic := isCell_W hwi
    have hiu := hg'.cell
    have hcu := hg'.cells
    have hx := idx_C hc hlt
    rw [hcd] at hx
    simp -implicitDefEqProofs only [Wa,Wb,Wc,Wd,We,Wf,Wg,Wh,Wi,Wj,Wk,Wl,Wm,Wn,Zo,Zp,evalT,Nat.reduceLT,Nat.reduceEqDiff,if_true,if_false,reduceIte,Ys,ofVal,ofCell,argT,resT,setT,Y0,Int.reduceEq,Int.reduceLT,Int.reduceLE,Int.reduceNeg,mb,Nat.reduceBEq,tys,stb,tys2,t1,t2,t3,t4,c1,e1,len_C hc,hx,agg44,load4_rptr,z44,heap_end,set_end,storeList,List.take_zero,List.drop_zero,List.take_succ_cons,List.drop_succ_cons,List.drop_nil,List.all_cons,List.all_nil,isCell_str,isCell_int,YG,hic,hiu,hcu,build_none one24,hA,load4_end,build_C,hE0,hB,Nat.reduceAdd,Nat.reduceLeDiff,List.getElem?_cons_succ,List.getElem?_cons_zero]
    have hset : ∀ o A : AObj, ((L ++ [o]).set 0 A)[0]? = some A := fun o A => by rw [List.getElem?_set_self (by simp)]
    have hset1 : ∀ o A : AObj, ((L ++ [o]).set 0 A)[1]? = some (.cells [.str [], .bool false, .int .i64 0, .nilsl] 29) := fun o A => by
      rw [List.getElem?_set_ne (by omega), List.getElem?_append_left hn1]; exact l1
    refine ⟨cs.length - (i + 1), by omega, _, _, i + 1, P ++ [c.cap cap], u', rfl, hset _ _, hset1 _ _, rfl, by omega, rfl, hg', by simp [hpl], ?_, ?_⟩
    · rw [List.map_append, hpm, List.take_add_one, List.map_append]
      congr 1
      have : cs[i]? = some c := by rw [← hcd]; simp [List.getD, hlt]
      rw [this]
      rfl
    · intro x hx
      rcases List.mem_append.1 hx with h | h
      · exact hpw x h
      · simp only [List.mem_singleton] at h
        subst h
        exact ⟨cap, rfl⟩
  · have hi2 : i = cs.length := by omega
    subst hi2
    have c1 : ¬ (cs.length : Int) < (cs.length : Int) := by omega
    have hiu := hg.cell
    have hset1 : ∀ A : AObj, (L.set 1 A)[1]? = some A := fun A => by rw [List.getElem?_set_self hn1]
    simp -implicitDefEqProofs only [Wa,Wb,Wc,Wd,We,Wf,Wg,Wh,Wi,Wj,Wk,Wl,Wm,Wn,Zo,Zp,evalT,Nat.reduceLT,Nat.reduceEqDiff,if_true,if_false,reduceIte,Ys,ofVal,ofCell,argT,resT,setT,Y0,Int.reduceEq,Int.reduceLT,Int.reduceLE,Int.reduceNeg,mb,Nat.reduceBEq,tys,stb,tys2,t1,t2,t3,t4,c1,len_C hc,agg29,load4_ptr l0,l1,storeList,List.take_zero,List.drop_zero,List.take_succ_cons,List.drop_succ_cons,List.drop_nil,List.all_cons,List.all_nil,isCell_str,isCell_int,isCell_bool,hiu,Nat.reduceAdd,Nat.reduceLeDiff,load4_ptr (hset1 _),YW]
    rw [List.take_length] at hpm
    simp only [oneOr, sealDepth, sealV_agg, mapM_seal_cons, mapM_seal_nil, sealV_str, sealV_bool, sealV_int, seal_copy hg hpw hpm, Option.bind_some, Option.map_some]
end Go.Proofs.YtbikmhpobflfeaaDoor
namespace Go.Proofs.YtbikmhpobflfeaaDoor
open Go.Ab
set_option maxHeartbeats 4000000
set_option maxRecDepth 100000
set_option linter.unusedSimpArgs false
set_option linter.unusedVariables false
set_option linter.unusedSectionVars false
def Twice (ws : List (List UInt8)) : Prop := ∃ k i, k < i ∧ i < ws.length ∧ ws.getD k [] = ws.getD i []
end Go.Proofs.YtbikmhpobflfeaaDoor
namespace Go.Proofs.YtbikmhpobflfeaaDoor
open Go.Ab
set_option maxHeartbeats 4000000
set_option maxRecDepth 100000
set_option linter.unusedSimpArgs false
set_option linter.unusedVariables false
set_option linter.unusedSectionVars false
open Classical in
noncomputable def colE (c : Col) : Int :=
  if c.ws.length = 0 then (if c.lo < -1000000 ∨ 1000000 < c.hi ∨ c.hi < c.lo then 2 else 0)
  else if 64 < c.ws.length then 4
  else if ∃ i, i < c.ws.length ∧ ¬ IsName (c.ws.getD i []) then 19
  else if Twice c.ws then 8
  else if c.lo ≠ 0 ∨ c.hi ≠ (c.ws.length : Int) - 1 then 2 else 0
def Short (c : Col) : Prop := c.name.length < 2 ^ 63 ∧ c.ws.length ≤ 1000 ∧ ∀ i, i < c.ws.length → (c.ws.getD i []).length < 2 ^ 63
end Go.Proofs.YtbikmhpobflfeaaDoor
namespace Go.Proofs.YtbikmhpobflfeaaDoor
open Go.Ab
set_option maxHeartbeats 4000000
set_option maxRecDepth 100000
set_option linter.unusedSimpArgs false
set_option linter.unusedVariables false
set_option linter.unusedSectionVars false
theorem len_snoc (L : List AObj) (o : AObj) : (L ++ [o]).length = L.length + 1 := by simp
open Classical in
noncomputable def colX (cs : List Col) (i : Nat) : Int :=
  if ¬ IsName (cs.getD i Col.none).name then 19
  else if ∃ k, k < i ∧ (cs.getD k Col.none).name = (cs.getD i Col.none).name then 8
  else colE (cs.getD i Col.none)
noncomputable def firstE (cs : List Col) : Nat → Nat → Int × Int
  | 0, _ => (0, -1)
  | m + 1, i => if colX cs i = 0 then firstE cs m (i + 1) else (colX cs i, i)
open Classical in
noncomputable def checkE (nm : List UInt8) (pb : Bool) (many : Int) (cs : List Col) : Int × Int :=
  if ¬ IsName nm then (19, -1)
  else if (pb = true ∧ many ≠ 0) ∨ (pb = false ∧ (many < 1 ∨ 50 < many)) then (2, -1)
  else if cs.length = 0 then (3, -1)
  else if 16 < cs.length then (4, -1)
  else firstE cs cs.length 0
end Go.Proofs.YtbikmhpobflfeaaDoor
