/- Proved here: the checks of schemas. Conditions: those of each theorem; no statement of the seat is proved in this text. -/
import Derived.Test.YtbikmhpobflfeaaDoorSnC
namespace Go.Proofs.YtbikmhpobflfeaaDoor
open Go.Ab
set_option maxHeartbeats 4000000
set_option maxRecDepth 100000
set_option linter.unusedSimpArgs false
set_option linter.unusedVariables false
set_option linter.unusedSectionVars false
end Go.Proofs.YtbikmhpobflfeaaDoor
namespace Go.Proofs.YtbikmhpobflfeaaDoor
open Go.Ab
set_option maxHeartbeats 4000000
set_option maxRecDepth 100000
set_option linter.unusedSimpArgs false
set_option linter.unusedVariables false
set_option linter.unusedSectionVars false
end Go.Proofs.YtbikmhpobflfeaaDoor
namespace Go.Proofs.YtbikmhpobflfeaaDoor
open Go.Ab
set_option maxHeartbeats 4000000
set_option maxRecDepth 100000
set_option linter.unusedSimpArgs false
set_option linter.unusedVariables false
set_option linter.unusedSectionVars false
structure Sch where
  name : List UInt8
  pub : Bool
  many : Int
  cv : V
  cs : List Col
def Sch.cells (s : Sch) : List V := [.str s.name, .bool s.pub, .int .i64 s.many, s.cv]
def Sch.none : Sch := ⟨[], false, 0, .nilsl, []⟩
def OkS (l : List Sch) : Prop := ∀ s ∈ l, IsC s.cv s.cs ∧ OkC s.cs
theorem OkS.at {l : List Sch} (h : OkS l) {i : Nat} (hi : i < l.length) : IsC (l.getD i Sch.none).cv (l.getD i Sch.none).cs ∧ OkC (l.getD i Sch.none).cs := h _ (by simp [List.getD, hi])
theorem at63 : env.P.funcs[63]? = some Tryd.f63 := by kernel_rfl
def foundV (x : Int) : V := .tup [.int .i64 (if 0 ≤ x then x else 0), .bool (decide (0 ≤ x))]
theorem found_call (x : Int) (σ : S) : callFn env (ev env) 63 [.int .i64 x] σ = some (foundV x, σ) := by
  refine callFn_eq rfl rfl at63 rfl (by simp [Tryd.f63]) (by simp [Tryd.f63]) ?_
  refine G_start ?_
  by_cases h : 0 ≤ x
  · have h2 : ¬ x < 0 := by omega
    simp -implicitDefEqProofs only [Tryd.f63,Wa,Wb,Wc,Wd,We,Wf,Wg,Wh,Wi,Wj,Wk,Wl,Wm,Wn,Zo,Zp,evalT,Nat.reduceLT,Nat.reduceEqDiff,if_true,if_false,reduceIte,Ys,ofVal,ofCell,argT,resT,setT,Y0,Int.reduceEq,Int.reduceLT,Int.reduceLE,Int.reduceNeg,mb,Nat.reduceBEq,tys,stb,h,h2]
    simp [oneOr, foundV, h]
  · have h2 : x < 0 := by omega
    simp -implicitDefEqProofs only [Tryd.f63,Wa,Wb,Wc,Wd,We,Wf,Wg,Wh,Wi,Wj,Wk,Wl,Wm,Wn,Zo,Zp,evalT,Nat.reduceLT,Nat.reduceEqDiff,if_true,if_false,reduceIte,Ys,ofVal,ofCell,argT,resT,setT,Y0,Int.reduceEq,Int.reduceLT,Int.reduceLE,Int.reduceNeg,mb,Nat.reduceBEq,tys,stb,h,h2]
    simp [oneOr, foundV, h]
end Go.Proofs.YtbikmhpobflfeaaDoor
namespace Go.Proofs.YtbikmhpobflfeaaDoor
open Go.Ab
set_option maxHeartbeats 4000000
set_option maxRecDepth 100000
set_option linter.unusedSimpArgs false
set_option linter.unusedVariables false
set_option linter.unusedSectionVars false
end Go.Proofs.YtbikmhpobflfeaaDoor
namespace Go.Proofs.YtbikmhpobflfeaaDoor
open Go.Ab
set_option maxHeartbeats 4000000
set_option maxRecDepth 100000
set_option linter.unusedSimpArgs false
set_option linter.unusedVariables false
set_option linter.unusedSectionVars false
def ShortS (s : Sch) : Prop := s.name.length < 2 ^ 63 ∧ s.cs.length ≤ 1000 ∧ ∀ i, i < s.cs.length → Short (s.cs.getD i Col.none)
end Go.Proofs.YtbikmhpobflfeaaDoor
namespace Go.Proofs.YtbikmhpobflfeaaDoor
open Go.Ab
set_option maxHeartbeats 4000000
set_option maxRecDepth 100000
set_option linter.unusedSimpArgs false
set_option linter.unusedVariables false
set_option linter.unusedSectionVars false
def rowW (ws : List (List UInt8)) : V := .row (ws.map V.str) ws.length .unk
theorem rowW_is (ws : List (List UInt8)) : IsW (rowW ws) ws := .inr rfl
def reds : List (List UInt8) := [[114, 101, 100], [103, 114, 101, 101, 110], [98, 108, 117, 101], [103, 114, 101, 121], [112, 105, 110, 107]]
def ages : List (List UInt8) := [[97, 103, 101], [99, 111, 108, 111, 117, 114], [104, 101, 105, 103, 104, 116], [112, 108, 97, 99, 101], [115, 99, 111, 114, 101]]
def tabs : List (List UInt8) := [[112, 101, 111, 112, 108, 101], [118, 105, 115, 105, 116, 115], [112, 108, 97, 99, 101, 115], [110, 111, 116, 101, 115]]
theorem not_resW : ∀ s ∈ tabs ++ ages ++ reds, s ∉ wordsW := by decide +kernel
theorem name_of {s : List UInt8} (h : s ∈ tabs ++ ages ++ reds) : IsName s := by
  have hn := not_resW s h
  revert hn
  revert h
  revert s
  decide +kernel
theorem ages_name : ∀ i, i < 5 → IsName (ages.getD i []) := fun i hi => name_of (by
  have : ages.getD i [] ∈ ages := by simp only [List.getD]; rw [List.getElem?_eq_getElem (by simpa [ages] using hi)]; exact List.getElem_mem _
  exact List.mem_append_left _ (List.mem_append_right _ this))
theorem reds_name : ∀ i, i < 5 → IsName (reds.getD i []) := fun i hi => name_of (by
  have : reds.getD i [] ∈ reds := by simp only [List.getD]; rw [List.getElem?_eq_getElem (by simpa [reds] using hi)]; exact List.getElem_mem _
  exact List.mem_append_right _ this)
theorem tabs_name : ∀ i, i < 4 → IsName (tabs.getD i []) := fun i hi => name_of (by
  have : tabs.getD i [] ∈ tabs := by simp only [List.getD]; rw [List.getElem?_eq_getElem (by simpa [tabs] using hi)]; exact List.getElem_mem _
  exact List.mem_append_left _ (List.mem_append_left _ this))
theorem reds_inj : ∀ i, i < 5 → ∀ j, j < 5 → reds.getD i [] = reds.getD j [] → i = j := by decide
theorem reds_take {k i : Nat} (hk : k ≤ 5) (hi : i < k) : (reds.take k).getD i [] = reds.getD i [] := by
  simp only [List.getD]; rw [List.getElem?_take_of_lt hi]
theorem reds_len {k : Nat} (hk : k ≤ 5) : (reds.take k).length = k := by simp [reds]; omega
def Kit (c : Col) : Prop := (∃ j, j < 5 ∧ c.name = ages.getD j []) ∧ c.w = rowW c.ws ∧ ((c.ws = [] ∧ -3 ≤ c.lo ∧ c.lo ≤ c.hi ∧ c.hi ≤ 20) ∨ ∃ k, 1 ≤ k ∧ k ≤ 5 ∧ c.ws = reds.take k ∧ c.lo = 0 ∧ c.hi = (k : Int) - 1)
theorem Kit.col {c : Col} (h : Kit c) : IsName c.name ∧ colE c = 0 ∧ Short c := by
  obtain ⟨⟨j, hj, hn⟩, hw, hv⟩ := h
  have hname : IsName c.name := by rw [hn]; exact ages_name j hj
  have hnl : c.name.length < 2 ^ 63 := by have := hname.2.1; omega
  rcases hv with ⟨h2, h3, h4, h5⟩ | ⟨k, h1, h2, h3, h4, h5⟩
  · refine ⟨hname, ?_, hnl, by rw [h2]; simp, fun i hi => by rw [h2] at hi; simp at hi⟩
    unfold colE
    rw [if_pos (show c.ws.length = 0 by rw [h2]; rfl), if_neg (by omega)]
  · have hl := reds_len h2
    refine ⟨hname, ?_, hnl, by rw [h3, hl]; omega, fun i hi => ?_⟩
    · unfold colE
      rw [if_neg (by rw [h3, hl]; omega), if_neg (by rw [h3, hl]; omega), if_neg, if_neg, if_neg (by rw [h3, hl]; omega)]
      · rw [h3]
        rintro ⟨i, i', hlt, hlt2, he⟩
        rw [hl] at hlt2
        rw [reds_take h2 (by omega), reds_take h2 hlt2] at he
        have := reds_inj i (by omega) i' (by omega) he
        omega
      · rw [h3]
        rintro ⟨i, hi, hn⟩
        rw [hl] at hi
        rw [reds_take h2 hi] at hn
        exact hn (reds_name i (by omega))
    · rw [h3] at hi ⊢
      rw [hl] at hi
      rw [reds_take h2 hi]
      have := (reds_name i (by omega)).2.1
      omega
structure Fine (cs : List Col) : Prop where
  kit : ∀ i, i < cs.length → Kit (cs.getD i Col.none)
  apart : ∀ k i, k < cs.length → i < cs.length → k ≠ i → (cs.getD k Col.none).name ≠ (cs.getD i Col.none).name
theorem Fine.x {cs : List Col} (h : Fine cs) {i : Nat} (hi : i < cs.length) : colX cs i = 0 := by
  unfold colX
  obtain ⟨h1, h2, _⟩ := (h.kit i hi).col
  rw [if_neg (by simpa using h1), if_neg, h2]
  rintro ⟨k, hk, e⟩
  exact h.apart k i (by omega) hi (by omega) e
theorem Fine.first {cs : List Col} (h : Fine cs) : ∀ m i, i + m = cs.length → firstE cs m i = (0, -1)
  | 0, i, _ => rfl
  | m + 1, i, e => by
    rw [firstE, if_pos (h.x (by omega))]
    exact h.first m (i + 1) (by omega)
theorem Fine.check {cs : List Col} (h : Fine cs) {nm : List UInt8} (hn : IsName nm) {pb : Bool} {many : Int} (hm : (pb = true ∧ many = 0) ∨ (pb = false ∧ 1 ≤ many ∧ many ≤ 50)) (hl : cs.length ≤ 16) : checkE nm pb many cs = if cs.length = 0 then (3, -1) else (0, -1) := by
  unfold checkE
  rw [if_neg (by simpa using hn), if_neg (by rcases hm with ⟨rfl, h⟩ | ⟨rfl, h1, h2⟩ <;> simp <;> omega)]
  split
  · rfl
  · rw [if_neg (by omega), h.first _ _ (by omega)]
theorem Fine.ok {cs : List Col} (h : Fine cs) : OkC cs := fun c hc => by
  obtain ⟨i, hi, rfl⟩ := List.mem_iff_getElem.1 hc
  have := (h.kit i hi).2.1
  rw [List.getD, List.getElem?_eq_getElem hi] at this
  simp only [Option.getD_some] at this
  rw [this]; exact rowW_is _
theorem Fine.row {cs : List Col} (h : Fine cs) : ∀ i, i < cs.length → (cs.getD i Col.none).w = rowW (cs.getD i Col.none).ws := fun i hi => (h.kit i hi).2.1
theorem Fine.short {cs : List Col} (h : Fine cs) : ∀ i, i < cs.length → Short (cs.getD i Col.none) := fun i hi => (h.kit i hi).col.2.2
theorem Fine.ws {cs : List Col} (h : Fine cs) : ∀ i, i < cs.length → (cs.getD i Col.none).ws.length ≤ 1000 := fun i hi => (h.short i hi).2.1
theorem Fine.move {cs ds : List Col} (h : Fine cs) (f : Nat → Nat) (hf : ∀ i, i < ds.length → f i < cs.length ∧ ds.getD i Col.none = cs.getD (f i) Col.none) (hi : ∀ k i, k < ds.length → i < ds.length → f k = f i → k = i) : Fine ds :=
  ⟨fun i hl => by rw [(hf i hl).2]; exact h.kit _ (hf i hl).1, fun k i hk hl hne => by rw [(hf i hl).2, (hf k hk).2]; exact h.apart _ _ (hf k hk).1 (hf i hl).1 fun e => hne (hi k i hk hl e)⟩
structure FineS (j : Nat) (s : Sch) : Prop where
  name : s.name = tabs.getD j []
  many : (s.pub = true ∧ s.many = 0) ∨ (s.pub = false ∧ 1 ≤ s.many ∧ s.many ≤ 50)
  one : 1 ≤ s.cs.length
  five : s.cs.length ≤ 5
  fine : Fine s.cs
theorem FineS.check {j : Nat} (hj : j < 4) {s : Sch} (h : FineS j s) : checkE s.name s.pub s.many s.cs = (0, -1) := by
  rw [h.fine.check (by rw [h.name]; exact tabs_name j hj) h.many (by have := h.five; omega), if_neg (by have := h.one; omega)]
end Go.Proofs.YtbikmhpobflfeaaDoor
namespace Go.Proofs.YtbikmhpobflfeaaDoor
open Go.Ab
set_option maxHeartbeats 4000000
set_option maxRecDepth 100000
set_option linter.unusedSimpArgs false
set_option linter.unusedVariables false
set_option linter.unusedSectionVars false
def GoodC (c : Col) : Prop := IsW c.w c.ws ∧ c.name.length < 2 ^ 63 ∧ c.ws.length < 2 ^ 63 ∧ ∀ i, i < c.ws.length → (c.ws.getD i []).length < 2 ^ 63
def GoodS (s : Sch) : Prop := IsC s.cv s.cs ∧ (∀ c ∈ s.cs, GoodC c) ∧ s.name.length < 2 ^ 63 ∧ s.cs.length < 2 ^ 63
theorem flat1 : ∀ ss : List (List UInt8), (ss.map fun s => [V.str s]).flatten = ss.map V.str
  | [] => rfl
  | s :: ss => by simp only [List.map_cons, List.flatten_cons, flat1 ss]; rfl
theorem maxLen_lt : maxLen < 2 ^ 63 := by decide
theorem tyd_W {w : V} {k : Nat} (h : Tyd env.P (k + 2) 24 [w]) : ∃ ws, IsW w ws ∧ ws.length < 2 ^ 63 ∧ ∀ i, i < ws.length → (ws.getD i []).length < 2 ^ 63 := by
  rcases tyd_slice h u24 with h | ⟨vss, h, hl, _, ht⟩
  · simp only [List.cons.injEq, and_true] at h
    exact ⟨[], .inl ⟨h, rfl⟩, by simp, fun i h => by simp at h⟩
  · simp only [List.cons.injEq, and_true] at h
    obtain ⟨ss, rfl⟩ := tyd_map (f := fun s : {s : List UInt8 // s.length ≤ maxLen} => [V.str s.1]) (fun x hx => by
      obtain ⟨s, rfl, hs⟩ := tyd_str hx u9; exact ⟨⟨s, hs⟩, rfl⟩) ht
    have e : (ss.map fun s => [V.str s.1]) = ((ss.map (·.1)).map fun s => [V.str s]) := by simp
    have hm := maxLen_lt
    refine ⟨ss.map (·.1), .inr ?_, by simp only [List.length_map] at hl ⊢; omega, fun i hi => ?_⟩
    · rw [h, e, flat1]; simp
    · simp only [List.length_map] at hi
      have := ss[i].2
      simp only [List.getD, List.getElem?_map, List.getElem?_eq_getElem hi, Option.map_some, Option.getD_some]
      omega
theorem fts44 : fieldTs env.P 44 = some [9, 3, 3, 24] := by kernel_rfl
theorem GoodS.okC {s : Sch} (h : GoodS s) : OkC s.cs := fun c hc => (h.2.1 c hc).1
theorem getD_mem {α : Type} {l : List α} {d : α} {i : Nat} (h : i < l.length) : l.getD i d ∈ l := by simp [List.getD, h]
theorem GoodS.short {s : Sch} (h : GoodS s) (hv : ¬ Vast s.cs) : ShortS s := by
  have h2 : ¬ 100 < s.cs.length := fun q => hv (.inr q)
  refine ⟨h.2.2.1, by omega, fun i hi => ?_⟩
  have hg := h.2.1 _ (getD_mem (d := Col.none) hi)
  have h3 : ¬ 100 < (s.cs.getD i Col.none).ws.length := fun q => hv (.inl ⟨i, hi, q⟩)
  exact ⟨hg.2.1, by omega, hg.2.2.2⟩
end Go.Proofs.YtbikmhpobflfeaaDoor
