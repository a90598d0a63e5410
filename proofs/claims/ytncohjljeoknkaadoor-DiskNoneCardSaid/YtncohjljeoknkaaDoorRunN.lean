/- Proved here: whatever act comes in, a run of DiskNone gives true. Conditions: none. -/
import Derived.Test.YtncohjljeoknkaaDoorEv
namespace Go.Proofs.YtncohjljeoknkaaDoor
open Go.Ab
set_option maxRecDepth 100000
theorem found7 (k n : Int) (b : V) : Go.Ab.Found env 7 [.agg [.int .i64 k, .int .i64 n, b]] := found_of_F (k := 1000) (by kernel_rfl)
theorem plain34 : plainT Tryd.prog 4 34 = true := by kernel_rfl
/-- an act that came in -/
theorem act_shape {vs : List V} (h : Tyd Tryd.prog 4 34 vs) : ∃ k n b, vs = [.int .i64 k, .int .i64 n, b] := by
  obtain ⟨a, r, rfl, h1, h⟩ := tyd_struct (ts := [3, 3, 26]) h (by kernel_rfl)
  obtain ⟨b, r, rfl, h2, h⟩ := h
  obtain ⟨c, r, rfl, h3, rfl⟩ := h
  obtain ⟨k, rfl, _⟩ := tyd_int (kk := .i64) h1 (by kernel_rfl)
  obtain ⟨n, rfl, _⟩ := tyd_int (kk := .i64) h2 (by kernel_rfl)
  rcases tyd_slice (e := 5) h3 (by kernel_rfl) with rfl | ⟨vss, rfl, _⟩
  · exact ⟨k, n, .nilsl, rfl⟩
  · exact ⟨k, n, _, rfl⟩
theorem found7t {u : List V} (h : Tyd Tryd.prog 4 34 u) : Go.Ab.Found env 7 [.agg u] := by
  obtain ⟨k, n, b, rfl⟩ := act_shape h
  exact found7 k n b
end Go.Proofs.YtncohjljeoknkaaDoor
