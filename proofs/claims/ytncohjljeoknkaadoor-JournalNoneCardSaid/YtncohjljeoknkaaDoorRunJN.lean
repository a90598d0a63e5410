/- Proved here: whatever record comes in, a run of JournalNone gives true. Conditions: none. -/
import Derived.Test.YtncohjljeoknkaaDoorEvJ
namespace Go.Proofs.YtncohjljeoknkaaDoor
open Go.Ab
set_option maxRecDepth 100000
theorem found10 (k : Int) (b : V) : Go.Ab.Found env 10 [.agg [.int .i64 k, b]] := found_of_F (k := 1000) (by kernel_rfl)
/-- a record that came in -/
theorem rec_shape {vs : List V} (h : Tyd Tryd.prog 4 55 vs) : ∃ k b, vs = [.int .i64 k, b] := by
  obtain ⟨a, r, rfl, h1, h⟩ := tyd_struct (ts := [3, 53]) h (by kernel_rfl)
  obtain ⟨c, r, rfl, h3, rfl⟩ := h
  obtain ⟨k, rfl, _⟩ := tyd_int (kk := .i64) h1 (by kernel_rfl)
  rcases tyd_slice (e := 9) h3 (by kernel_rfl) with rfl | ⟨vss, rfl, _⟩
  · exact ⟨k, .nilsl, rfl⟩
  · exact ⟨k, _, rfl⟩
theorem found10t {u : List V} (h : Tyd Tryd.prog 4 55 u) : Go.Ab.Found env 10 [.agg u] := by
  obtain ⟨k, b, rfl⟩ := rec_shape h
  exact found10 k b
end Go.Proofs.YtncohjljeoknkaaDoor
