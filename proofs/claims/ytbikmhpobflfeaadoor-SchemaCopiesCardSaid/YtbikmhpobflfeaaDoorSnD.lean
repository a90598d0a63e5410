/- Proved here: the checks of schemas. Conditions: those of each theorem; no statement of the seat is proved in this text. -/
import Derived.Test.YtbikmhpobflfeaaDoorSnC
namespace Go.Proofs.YtbikmhpobflfeaaDoor
open Go.Ab
set_option maxHeartbeats 4000000
set_option maxRecDepth 100000
set_option linter.unusedSimpArgs false
set_option linter.unusedVariables false
set_option linter.unusedSectionVars false
end Go.Proofs.YtbikmhpobflfeaaDoor
namespace Go.Proofs.YtbikmhpobflfeaaDoor
open Go.Ab
set_option maxHeartbeats 4000000
set_option maxRecDepth 100000
set_option linter.unusedSimpArgs false
set_option linter.unusedVariables false
set_option linter.unusedSectionVars false
end Go.Proofs.YtbikmhpobflfeaaDoor
namespace Go.Proofs.YtbikmhpobflfeaaDoor
open Go.Ab
set_option maxHeartbeats 4000000
set_option maxRecDepth 100000
set_option linter.unusedSimpArgs false
set_option linter.unusedVariables false
set_option linter.unusedSectionVars false
structure Sch where
  name : List UInt8
  pub : Bool
  many : Int
  cv : V
  cs : List Col
def Sch.cells (s : Sch) : List V := [.str s.name, .bool s.pub, .int .i64 s.many, s.cv]
def Sch.none : Sch := ⟨[], false, 0, .nilsl, []⟩
def OkS (l : List Sch) : Prop := ∀ s ∈ l, IsC s.cv s.cs ∧ OkC s.cs
theorem OkS.at {l : List Sch} (h : OkS l) {i : Nat} (hi : i < l.length) : IsC (l.getD i Sch.none).cv (l.getD i Sch.none).cs ∧ OkC (l.getD i Sch.none).cs := h _ (by simp [List.getD, hi])
end Go.Proofs.YtbikmhpobflfeaaDoor
namespace Go.Proofs.YtbikmhpobflfeaaDoor
open Go.Ab
set_option maxHeartbeats 4000000
set_option maxRecDepth 100000
set_option linter.unusedSimpArgs false
set_option linter.unusedVariables false
set_option linter.unusedSectionVars false
end Go.Proofs.YtbikmhpobflfeaaDoor
namespace Go.Proofs.YtbikmhpobflfeaaDoor
open Go.Ab
set_option maxHeartbeats 4000000
set_option maxRecDepth 100000
set_option linter.unusedSimpArgs false
set_option linter.unusedVariables false
set_option linter.unusedSectionVars false
theorem isCell_C {v : V} {cs : List Col} (h : IsC v cs) : v.isCell = true := by rcases h with ⟨rfl, _⟩ | rfl <;> rfl
end Go.Proofs.YtbikmhpobflfeaaDoor
namespace Go.Proofs.YtbikmhpobflfeaaDoor
open Go.Ab
set_option maxHeartbeats 4000000
set_option maxRecDepth 100000
set_option linter.unusedSimpArgs false
set_option linter.unusedVariables false
set_option linter.unusedSectionVars false
def GoodC (c : Col) : Prop := IsW c.w c.ws ∧ c.name.length < 2 ^ 63 ∧ c.ws.length < 2 ^ 63 ∧ ∀ i, i < c.ws.length → (c.ws.getD i []).length < 2 ^ 63
def GoodS (s : Sch) : Prop := IsC s.cv s.cs ∧ (∀ c ∈ s.cs, GoodC c) ∧ s.name.length < 2 ^ 63 ∧ s.cs.length < 2 ^ 63
theorem flat1 : ∀ ss : List (List UInt8), (ss.map fun s => [V.str s]).flatten = ss.map V.str
  | [] => rfl
  | s :: ss => by simp only [List.map_cons, List.flatten_cons, flat1 ss]; rfl
theorem maxLen_lt : maxLen < 2 ^ 63 := by decide
theorem tyd_W {w : V} {k : Nat} (h : Tyd env.P (k + 2) 24 [w]) : ∃ ws, IsW w ws ∧ ws.length < 2 ^ 63 ∧ ∀ i, i < ws.length → (ws.getD i []).length < 2 ^ 63 := by
  rcases tyd_slice h u24 with h | ⟨vss, h, hl, _, ht⟩
  · simp only [List.cons.injEq, and_true] at h
    exact ⟨[], .inl ⟨h, rfl⟩, by simp, fun i h => by simp at h⟩
  · simp only [List.cons.injEq, and_true] at h
    obtain ⟨ss, rfl⟩ := tyd_map (f := fun s : {s : List UInt8 // s.length ≤ maxLen} => [V.str s.1]) (fun x hx => by
      obtain ⟨s, rfl, hs⟩ := tyd_str hx u9; exact ⟨⟨s, hs⟩, rfl⟩) ht
    have e : (ss.map fun s => [V.str s.1]) = ((ss.map (·.1)).map fun s => [V.str s]) := by simp
    have hm := maxLen_lt
    refine ⟨ss.map (·.1), .inr ?_, by simp only [List.length_map] at hl ⊢; omega, fun i hi => ?_⟩
    · rw [h, e, flat1]; simp
    · simp only [List.length_map] at hi
      have := ss[i].2
      simp only [List.getD, List.getElem?_map, List.getElem?_eq_getElem hi, Option.map_some, Option.getD_some]
      omega
theorem fts44 : fieldTs env.P 44 = some [9, 3, 3, 24] := by kernel_rfl
theorem fts29 : fieldTs env.P 29 = some [9, 4, 3, 27] := by kernel_rfl
theorem tyd_C {x : List V} {k : Nat} (h : Tyd env.P (k + 3) 44 x) : ∃ c : {c : Col // GoodC c}, x = c.1.cells := by
  have h := tyd_struct h fts44
  obtain ⟨a, r, rfl, ha, b, r2, rfl, hb, c, r3, rfl, hc, d, r4, rfl, hd, rfl⟩ := h
  obtain ⟨s, rfl, hs⟩ := tyd_str ha u9
  obtain ⟨n, rfl, _⟩ := tyd_int hb u3
  obtain ⟨m, rfl, _⟩ := tyd_int hc u3
  have hd1 : ∃ w, d = [w] := by
    rcases tyd_slice hd u24 with h | ⟨_, h, _⟩ <;> exact ⟨_, h⟩
  obtain ⟨w, rfl⟩ := hd1
  obtain ⟨ws, hw, h1, h2⟩ := tyd_W hd
  have hm := maxLen_lt
  exact ⟨⟨⟨s, n, m, w, ws⟩, hw, by simp only; omega, h1, h2⟩, rfl⟩
theorem flatCg (cs : List {c : Col // GoodC c}) : (cs.map fun c => c.1.cells).flatten = flatC (cs.map (·.1)) := by simp only [flatC, List.map_map]; rfl
theorem tyd_CS {v : V} {k : Nat} (h : Tyd env.P (k + 4) 27 [v]) : ∃ cs, IsC v cs ∧ (∀ c ∈ cs, GoodC c) ∧ cs.length < 2 ^ 63 := by
  rcases tyd_slice h u27 with h | ⟨vss, h, hl, _, ht⟩
  · simp only [List.cons.injEq, and_true] at h
    exact ⟨[], .inl ⟨h, rfl⟩, fun c h => by simp at h, by simp⟩
  · simp only [List.cons.injEq, and_true] at h
    obtain ⟨cs, rfl⟩ := tyd_map (f := fun c : {c : Col // GoodC c} => c.1.cells) (fun x hx => tyd_C hx) ht
    have hm := maxLen_lt
    refine ⟨cs.map (·.1), .inr ?_, fun c hc => ?_, by simp only [List.length_map] at hl ⊢; omega⟩
    · rw [h, flatCg]; simp
    · obtain ⟨a, _, rfl⟩ := List.mem_map.1 hc; exact a.2
theorem tyd_S {x : List V} {k : Nat} (h : Tyd env.P (k + 5) 29 x) : ∃ s : {s : Sch // GoodS s}, x = s.1.cells := by
  have h := tyd_struct h fts29
  obtain ⟨a, r, rfl, ha, b, r2, rfl, hb, c, r3, rfl, hc, d, r4, rfl, hd, rfl⟩ := h
  obtain ⟨s, rfl, hs⟩ := tyd_str ha u9
  obtain ⟨n, rfl⟩ := tyd_bool hb u4
  obtain ⟨m, rfl, _⟩ := tyd_int hc u3
  have hd1 : ∃ w, d = [w] := by
    rcases tyd_slice hd u27 with h | ⟨_, h, _⟩ <;> exact ⟨_, h⟩
  obtain ⟨w, rfl⟩ := hd1
  obtain ⟨ws, hw, h1, h2⟩ := tyd_CS hd
  have hm := maxLen_lt
  exact ⟨⟨⟨s, n, m, w, ws⟩, hw, h1, by simp only; omega, h2⟩, rfl⟩
theorem GoodS.okC {s : Sch} (h : GoodS s) : OkC s.cs := fun c hc => (h.2.1 c hc).1
end Go.Proofs.YtbikmhpobflfeaaDoor
