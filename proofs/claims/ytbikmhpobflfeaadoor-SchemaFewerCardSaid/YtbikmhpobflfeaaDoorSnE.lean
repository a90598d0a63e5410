/- Proved here: same schemas and copies. Conditions: those of each theorem; no statement of the seat is proved in this text. -/
import Derived.Test.YtbikmhpobflfeaaDoorSnD
namespace Go.Proofs.YtbikmhpobflfeaaDoor
open Go.Ab
set_option maxHeartbeats 4000000
set_option maxRecDepth 100000
set_option linter.unusedSimpArgs false
set_option linter.unusedVariables false
set_option linter.unusedSectionVars false
end Go.Proofs.YtbikmhpobflfeaaDoor
namespace Go.Proofs.YtbikmhpobflfeaaDoor
open Go.Ab
set_option maxHeartbeats 4000000
set_option maxRecDepth 100000
set_option linter.unusedSimpArgs false
set_option linter.unusedVariables false
set_option linter.unusedSectionVars false
theorem at59 : env.P.funcs[59]? = some Tryd.f59 := by kernel_rfl
theorem at62 : env.P.funcs[62]? = some Tryd.f62 := by kernel_rfl
theorem at26 : env.P.funcs[26]? = some Tryd.f26 := by kernel_rfl
theorem row_24 : rowO env 24 0 [] = some (.row [] 0 .full) := by kernel_rfl
theorem seal_row_strs (h : List AObj) (d : Nat) (ws : List (List UInt8)) (c : RCap) : sealV h (d + 2) (.row (ws.map V.str) ws.length c) = some (.row (ws.map V.str) ws.length .unk) := by
  rw [sealV_row, seal_strs]; rfl
theorem clone_call (w : V) (ws : List (List UInt8)) (h : IsW w ws) (hl : ws.length ≤ 1000) (σ : S) : callFn env (ev env) 59 [w] σ = some (w, σ) := by
  refine callFn_pure rfl rfl (by simp [closed_W h]) at59 rfl (by simp [Tryd.f59]) (by simp [Tryd.f59]) (G_start ?_) σ
  obtain ⟨cap, ts', hA, _⟩ := app_W h hl [] []
  rcases h with ⟨rfl, rfl⟩ | rfl
  · simp -implicitDefEqProofs only [Tryd.f59,Wa,Wb,Wc,Wd,We,Wf,Wg,Wh,Wi,Wj,Wk,Wl,Wm,Wn,Zo,Zp,evalT,Nat.reduceLT,Nat.reduceEqDiff,if_true,if_false,reduceIte,Ys,ofVal,ofCell,argT,resT,setT,Y0,Int.reduceEq,Int.reduceLT,Int.reduceLE,Int.reduceNeg,mb,Nat.reduceBEq,tys,stb,tys2,empty_mk,binO_nil_nil u24]
    rfl
  · simp -implicitDefEqProofs only [Tryd.f59,Wa,Wb,Wc,Wd,We,Wf,Wg,Wh,Wi,Wj,Wk,Wl,Wm,Wn,Zo,Zp,evalT,Nat.reduceLT,Nat.reduceEqDiff,if_true,if_false,reduceIte,Ys,ofVal,ofCell,argT,resT,setT,Y0,Int.reduceEq,Int.reduceLT,Int.reduceLE,Int.reduceNeg,mb,Nat.reduceBEq,tys,stb,tys2,empty_mk,binO_row_nil u24,opT_rowO,row_24,hA]
    simp only [oneOr, sealDepth, seal_row_strs]
theorem build_m {T : Tm} (L : List AObj) (ts : List Nat) : opT env true T ⟨L, ts⟩ (.buildSlice 27 0 #[]) = some (.hsl L.length 0 0 0 .exact, ⟨L ++ [.cells [] 44], ts⟩) := by
  unfold opT
  simp only [apure, aread, astate, partsO, el27, tys2, Option.bind_some]
  simp [vFill, V.cells, S.push, env]
theorem app_m (L : List AObj) (ts : List Nat) (cs : List Col) (hl : cs.length ≤ 1000) (hn : cs.length ≠ 0) (c : RCap) : appO env true ⟨L ++ [.cells [] 44], ts⟩ 27 27 (.hsl L.length 0 0 0 .exact) (.row (flatC cs) cs.length c) =
    some (.hsl (L.length + 1) 0 cs.length cs.length (.grow 4), ⟨L ++ [.cells [] 44, .cells (flatC cs) 44], ts⟩) := by
  have hnew : ∀ h, vCells h 4 cs.length (.row (flatC cs) cs.length c) = some (flatC cs) := fun h => by simp [vCells, flatC_len, List.take_of_length_le (Nat.le_of_eq (flatC_len cs))]
  have hl2 : cs.length * 56 ≤ lim ∧ cs.length ≤ lim := by have h : lim = 2 ^ 40 := rfl; rw [h]; omega
  unfold appO
  simp only [el27, tys2, by44, zn44, vLen, hnew, Option.bind_some, if_true]
  simp [aappend, hn, hl2, vCells, S.push]
theorem mb62 : env.mutb 62 3 = true := rfl
theorem seal_W (h : List AObj) (d : Nat) {w : V} {ws : List (List UInt8)} (hw : IsW w ws) : sealV h (d + 2) w = some w := by
  rcases hw with ⟨rfl, _⟩ | rfl
  · rfl
  · exact seal_row_strs h d ws _
theorem seal_flat2 (h : List AObj) (d : Nat) : ∀ {cs : List Col}, OkC cs → (flatC cs).mapM (sealV h (d + 2)) = some (flatC cs)
  | [], _ => rfl
  | c :: cs, ok => by
    rw [flatC_cons, mapM_seal_cons, mapM_seal_cons, mapM_seal_cons, mapM_seal_cons, seal_flat2 h d (cs := cs) fun x hx => ok x (by simp [hx]), seal_W h d (ok c (by simp)), sealV_str, sealV_int, sealV_int]
    rfl
theorem flatC_w {cs : List Col} {i : Nat} (hi : i < cs.length) : (flatC cs)[i * 4 + 3]? = some (cs.getD i Col.none).w := by
  have h := flatC_drop cs i
  rw [flatC_at hi] at h
  have h2 : ((flatC cs).drop (i * 4))[3]? = some (cs.getD i Col.none).w := by rw [h]; rfl
  rw [List.getElem?_drop] at h2
  exact h2
theorem storeList_same {cs : List V} {off : Nat} {v : V} (h : cs[off]? = some v) : storeList cs off [v] = cs := by
  have hlt := (List.getElem?_eq_some_iff.1 h).1
  have e : cs = cs.take off ++ v :: cs.drop (off + 1) := by
    conv => lhs; rw [← List.take_append_drop off cs, List.drop_eq_getElem_cons hlt]
    rw [(List.getElem?_eq_some_iff.1 h).2]
  unfold storeList
  simp only [List.length_cons, List.length_nil, Nat.zero_add]
  rw [List.append_assoc]
  exact e.symm
end Go.Proofs.YtbikmhpobflfeaaDoor
namespace Go.Proofs.YtbikmhpobflfeaaDoor
open Go.Ab
set_option maxHeartbeats 4000000
set_option maxRecDepth 100000
set_option linter.unusedSimpArgs false
set_option linter.unusedVariables false
set_option linter.unusedSectionVars false
end Go.Proofs.YtbikmhpobflfeaaDoor
