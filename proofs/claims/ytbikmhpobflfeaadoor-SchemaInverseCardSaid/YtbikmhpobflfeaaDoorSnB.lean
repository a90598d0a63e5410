/- Proved here: columns and words, copies, and the reference's check. Conditions: those of each theorem; no statement of the seat is proved in this text. -/
import Derived.Test.YtbikmhpobflfeaaDoorSnA
namespace Go.Proofs.YtbikmhpobflfeaaDoor
open Go.Ab
set_option maxHeartbeats 4000000
set_option maxRecDepth 100000
set_option linter.unusedSimpArgs false
set_option linter.unusedVariables false
set_option linter.unusedSectionVars false
structure Col where
  name : List UInt8
  lo : Int
  hi : Int
  w : V
  ws : List (List UInt8)
def Col.cells (c : Col) : List V := [.str c.name, .int .i64 c.lo, .int .i64 c.hi, c.w]
def Col.none : Col := ⟨[], 0, 0, .nilsl, []⟩
def IsW (w : V) (ws : List (List UInt8)) : Prop := (w = .nilsl ∧ ws = []) ∨ w = .row (ws.map V.str) ws.length .unk
def flatC (cs : List Col) : List V := (cs.map Col.cells).flatten
def IsC (v : V) (cs : List Col) : Prop := (v = .nilsl ∧ cs = []) ∨ v = .row (flatC cs) cs.length .unk
def OkC (cs : List Col) : Prop := ∀ c ∈ cs, IsW c.w c.ws
theorem OkC.at {cs : List Col} (h : OkC cs) {i : Nat} (hi : i < cs.length) : IsW (cs.getD i Col.none).w (cs.getD i Col.none).ws := h _ (by simp [List.getD, hi])
theorem flatC_cons (c : Col) (cs : List Col) : flatC (c :: cs) = .str c.name :: .int .i64 c.lo :: .int .i64 c.hi :: c.w :: flatC cs := rfl
theorem flatC_len : ∀ cs : List Col, (flatC cs).length = cs.length * 4
  | [] => rfl
  | c :: cs => by rw [flatC_cons]; simp only [List.length_cons, flatC_len cs]; omega
theorem flatC_drop : ∀ (cs : List Col) (i : Nat), (flatC cs).drop (i * 4) = flatC (cs.drop i)
  | cs, 0 => by simp
  | [], i + 1 => by simp [flatC]
  | c :: cs, i + 1 => by
    rw [flatC_cons, show (i + 1) * 4 = i * 4 + 1 + 1 + 1 + 1 by omega]
    simp only [List.drop_succ_cons]
    exact flatC_drop cs i
theorem flatC_at {cs : List Col} {i : Nat} (hi : i < cs.length) : flatC (cs.drop i) = .str (cs.getD i Col.none).name :: .int .i64 (cs.getD i Col.none).lo :: .int .i64 (cs.getD i Col.none).hi :: (cs.getD i Col.none).w :: flatC (cs.drop (i + 1)) := by
  have e : cs.drop i = cs.getD i Col.none :: cs.drop (i + 1) := by
    rw [List.drop_eq_getElem_cons hi]
    simp [List.getD, hi]
  rw [e, flatC_cons]
theorem len_C {v : V} {cs : List Col} (h : IsC v cs) : vLenT (some (.slice 44)) v = some (.int .i64 cs.length) := by
  rcases h with ⟨rfl, rfl⟩ | rfl <;> rfl
theorem len_W {v : V} {ws : List (List UInt8)} (h : IsW v ws) : vLenT (some (.slice 9)) v = some (.int .i64 ws.length) := by
  rcases h with ⟨rfl, rfl⟩ | rfl <;> rfl
theorem idx_C {v : V} {cs : List Col} (h : IsC v cs) {i : Nat} (hi : i < cs.length) : vIndexAddr 4 v (.int .i64 (i : Int)) = some (.rptr (.str (cs.getD i Col.none).name :: .int .i64 (cs.getD i Col.none).lo :: .int .i64 (cs.getD i Col.none).hi :: (cs.getD i Col.none).w :: flatC (cs.drop (i + 1)))) := by
  rcases h with ⟨rfl, rfl⟩ | rfl
  · simp at hi
  · rw [Ys, if_pos (by omega), Int.toNat_natCast, flatC_drop, flatC_at hi]
theorem idx_W {v : V} {ws : List (List UInt8)} (h : IsW v ws) {i : Nat} (hi : i < ws.length) : vIndexAddr 1 v (.int .i64 (i : Int)) = some (.rptr (.str (ws.getD i []) :: (ws.map V.str).drop (i + 1))) := by
  rcases h with ⟨rfl, rfl⟩ | rfl
  · simp at hi
  · rw [Ys, if_pos (by omega), Int.toNat_natCast, Nat.mul_one, List.drop_eq_getElem_cons (by simpa using hi)]
    simp [List.getD, hi]
theorem load_hd (h : List AObj) (v : V) (r : List V) : (loadCellsV h 1 (.rptr (v :: r))).bind (·[0]?) = some v := by
  have := Yz h (v :: r) 0
  simpa using this
theorem u27 : env.P.underlying 27 = some (.slice 44) := by kernel_rfl
theorem u32 : env.P.underlying 32 = some (.int .i64) := by kernel_rfl
theorem tys2 : env.P.underlying 27 = some (.slice 44) ∧ env.P.underlying 32 = some (.int .i64) ∧ sz env 27 = some 1 ∧ sz env 44 = some 4 ∧ sz env 29 = some 4 ∧ sz env 4 = some 1 ∧ fldOff env 29 0 = some 0 ∧ fldOff env 29 1 = some 1 ∧ fldOff env 29 2 = some 2 ∧ fldOff env 29 3 = some 3 ∧
    fldOff env 44 0 = some 0 ∧ fldOff env 44 1 = some 1 ∧ fldOff env 44 2 = some 2 ∧ fldOff env 44 3 = some 3 ∧ (∀ h p, aload env h 27 p = (loadCellsV h 1 p).bind (·[0]?)) ∧ (∀ h p, aload env h 4 p = (loadCellsV h 1 p).bind (·[0]?)) := by
  have g27 : aggT env 27 = some false := by kernel_rfl
  have g4 : aggT env 4 = some false := by kernel_rfl
  exact ⟨u27, u32, by kernel_rfl, by kernel_rfl, by kernel_rfl, by kernel_rfl, by kernel_rfl, by kernel_rfl, by kernel_rfl, by kernel_rfl, by kernel_rfl, by kernel_rfl, by kernel_rfl, by kernel_rfl, fun _ _ => aload_one g27, fun _ _ => aload_one g4⟩
theorem closed_W {w : V} {ws : List (List UInt8)} (h : IsW w ws) : w.closed = true := by
  rcases h with ⟨rfl, rfl⟩ | rfl
  · rfl
  · simp only [V.closed, closed_strs, Bool.and_self]
theorem closed_flat : ∀ {cs : List Col}, OkC cs → V.closed.closedL (flatC cs) = true
  | [], h => rfl
  | c :: cs, h => by
    rw [flatC_cons]
    simp only [V.closed.closedL, V.closed, closed_W (h c (by simp)), closed_flat (cs := cs) fun x hx => h x (by simp [hx]), Bool.and_self]
theorem closed_C {v : V} {cs : List Col} (h : IsC v cs) (ok : OkC cs) : v.closed = true := by
  rcases h with ⟨rfl, rfl⟩ | rfl
  · rfl
  · simp only [V.closed, closed_flat ok, Bool.and_self]
def Vast (cs : List Col) : Prop := (∃ i, i < cs.length ∧ 100 < (cs.getD i Col.none).ws.length) ∨ 100 < cs.length
end Go.Proofs.YtbikmhpobflfeaaDoor
namespace Go.Proofs.YtbikmhpobflfeaaDoor
open Go.Ab
set_option maxHeartbeats 4000000
set_option maxRecDepth 100000
set_option linter.unusedSimpArgs false
set_option linter.unusedVariables false
set_option linter.unusedSectionVars false
theorem heap_end (L : List AObj) (o : AObj) : (L ++ [o])[L.length]? = some o := by simp
theorem load4_rptr (h : List AObj) (a b c d : V) (r : List V) : loadCellsV h 4 (.rptr (a :: b :: c :: d :: r)) = some [a, b, c, d] := by simp [loadCellsV]
theorem load4_ptr {h : List AObj} {n : Nat} {a b c d : V} {t : TypeId} (hh : h[n]? = some (.cells [a, b, c, d] t)) : loadCellsV h 4 (.ptr n 0) = some [a, b, c, d] := by simp [loadCellsV, hh]
theorem agg44 (h : List AObj) (p : V) : aload env h 44 p = (loadCellsV h 4 p).map .agg := by
  unfold aload
  rw [show aggT env 44 = some true by kernel_rfl, show sz env 44 = some 4 by kernel_rfl]
  rfl
theorem z44 : zeroV env 44 = some (.agg [.str [], .int .i64 0, .int .i64 0, .nilsl]) := by kernel_rfl
theorem el27 : elemS env 27 = some 44 := by kernel_rfl
theorem by44 : bys env 44 = some 56 := by kernel_rfl
theorem zn44 : zeroN env 44 = some 4 := by kernel_rfl
def Col.cap (c : Col) (cap : RCap) : Col := { c with w := .row (c.ws.map V.str) c.ws.length cap }
inductive GrowC (ts : List Nat) : V → List Col → Prop
  | nil : GrowC ts .nilsl []
  | tok (cs : List Col) (k e : Nat) (h : ts[k]? = some e) (hne : cs ≠ []) : GrowC ts (.row (flatC cs) cs.length (.tok k e 4)) cs
theorem flatC_app (cs : List Col) (c : Col) : flatC (cs ++ [c]) = flatC cs ++ c.cells := by simp [flatC]
theorem GrowC.append {hp : List AObj} {ts : List Nat} {v : V} {cs : List Col} (g : GrowC ts v cs) (c : Col) (cap : RCap) (hc : c.cells.all V.isCell = true) (hb : cs.length + 1 ≤ 1000) :
    ∃ v' ts', appO env false ⟨hp, ts⟩ 27 27 v (.row c.cells 1 cap) = some (v', ⟨hp, ts'⟩) ∧ GrowC ts' v' (cs ++ [c]) := by
  have hnew : vCells hp 4 1 (.row c.cells 1 cap) = some c.cells := by simp [vCells, Col.cells]
  have hl1 : (1 : Nat) * 56 ≤ lim ∧ 1 ≤ lim := by decide
  have hl2 : (cs.length + 1) * 56 ≤ lim ∧ cs.length + 1 ≤ lim := by have h : lim = 2 ^ 40 := rfl; rw [h]; omega
  unfold appO
  simp only [el27, tys2, by44, zn44, vLen, hnew, Option.bind_some, if_true]
  cases g with
  | nil =>
    refine ⟨.row (flatC [c]) 1 (.tok ts.length 0 4), ts ++ [0], ?_, .tok [c] ts.length 0 (by simp) (by simp)⟩
    simp [aappend, hl1, flatC]
  | tok _ k e hk hne =>
    have hkl : k < ts.length := by
      rcases Nat.lt_or_ge k ts.length with h1 | h1
      · exact h1
      · rw [List.getElem?_eq_none h1] at hk; simp at hk
    refine ⟨.row (flatC (cs ++ [c])) (cs ++ [c]).length (.tok k (e + 1) 4), ts.set k (e + 1), ?_, .tok _ k (e + 1) (by simp [hkl]) (by simp)⟩
    have hl3 : (flatC cs).length = cs.length * 4 := flatC_len cs
    simp [aappend, hl2, hl3, hk, hc, flatC_app]
theorem isCell_W {w : V} {ws : List (List UInt8)} (h : IsW w ws) : w.isCell = true := by rcases h with ⟨rfl, _⟩ | rfl <;> rfl
theorem isCell_str (s : List UInt8) : (V.str s).isCell = true := rfl
theorem GrowC.keep {ts ts' : List Nat} {v : V} {cs : List Col} (g : GrowC ts v cs) (h : ∀ (k e : Nat), ts[k]? = some e → ts'[k]? = some e) : GrowC ts' v cs := by
  cases g with
  | nil => exact .nil
  | tok _ k e hk hne => exact .tok _ k e (h k e hk) hne
theorem GrowC.cells {ts : List Nat} {v : V} {cs : List Col} (g : GrowC ts v cs) : v.cells = [v] := by cases g <;> rfl
theorem GrowC.cell {ts : List Nat} {v : V} {cs : List Col} (g : GrowC ts v cs) : v.isCell = true := by cases g <;> rfl
theorem seal_strs (h : List AObj) (d : Nat) (ws : List (List UInt8)) : (ws.map V.str).mapM (sealV h (d + 1)) = some (ws.map V.str) :=
  mapM_seal_same h (d + 1) _ fun v hv => by
    obtain ⟨z, _, rfl⟩ := List.mem_map.1 hv
    rfl
end Go.Proofs.YtbikmhpobflfeaaDoor
namespace Go.Proofs.YtbikmhpobflfeaaDoor
open Go.Ab
set_option maxHeartbeats 4000000
set_option maxRecDepth 100000
set_option linter.unusedSimpArgs false
set_option linter.unusedVariables false
set_option linter.unusedSectionVars false
def Twice (ws : List (List UInt8)) : Prop := ∃ k i, k < i ∧ i < ws.length ∧ ws.getD k [] = ws.getD i []
end Go.Proofs.YtbikmhpobflfeaaDoor
namespace Go.Proofs.YtbikmhpobflfeaaDoor
open Go.Ab
set_option maxHeartbeats 4000000
set_option maxRecDepth 100000
set_option linter.unusedSimpArgs false
set_option linter.unusedVariables false
set_option linter.unusedSectionVars false
open Classical in
noncomputable def colE (c : Col) : Int :=
  if c.ws.length = 0 then (if c.lo < -1000000 ∨ 1000000 < c.hi ∨ c.hi < c.lo then 2 else 0)
  else if 64 < c.ws.length then 4
  else if ∃ i, i < c.ws.length ∧ ¬ IsName (c.ws.getD i []) then 19
  else if Twice c.ws then 8
  else if c.lo ≠ 0 ∨ c.hi ≠ (c.ws.length : Int) - 1 then 2 else 0
def Short (c : Col) : Prop := c.name.length < 2 ^ 63 ∧ c.ws.length ≤ 1000 ∧ ∀ i, i < c.ws.length → (c.ws.getD i []).length < 2 ^ 63
end Go.Proofs.YtbikmhpobflfeaaDoor
namespace Go.Proofs.YtbikmhpobflfeaaDoor
open Go.Ab
set_option maxHeartbeats 4000000
set_option maxRecDepth 100000
set_option linter.unusedSimpArgs false
set_option linter.unusedVariables false
set_option linter.unusedSectionVars false
open Classical in
noncomputable def colX (cs : List Col) (i : Nat) : Int :=
  if ¬ IsName (cs.getD i Col.none).name then 19
  else if ∃ k, k < i ∧ (cs.getD k Col.none).name = (cs.getD i Col.none).name then 8
  else colE (cs.getD i Col.none)
noncomputable def firstE (cs : List Col) : Nat → Nat → Int × Int
  | 0, _ => (0, -1)
  | m + 1, i => if colX cs i = 0 then firstE cs m (i + 1) else (colX cs i, i)
open Classical in
noncomputable def checkE (nm : List UInt8) (pb : Bool) (many : Int) (cs : List Col) : Int × Int :=
  if ¬ IsName nm then (19, -1)
  else if (pb = true ∧ many ≠ 0) ∨ (pb = false ∧ (many < 1 ∨ 50 < many)) then (2, -1)
  else if cs.length = 0 then (3, -1)
  else if 16 < cs.length then (4, -1)
  else firstE cs cs.length 0
end Go.Proofs.YtbikmhpobflfeaaDoor
