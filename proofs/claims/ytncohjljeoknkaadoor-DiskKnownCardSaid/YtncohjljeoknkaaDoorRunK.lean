/- Proved here: a run of DiskKnown gives true. Conditions: none. -/
import Derived.Test.YtncohjljeoknkaaDoorEv
namespace Go.Proofs.YtncohjljeoknkaaDoor
open Go.Ab
set_option maxRecDepth 100000
theorem found3 : Go.Ab.Found env 3 [] := found_of_F (k := 1000) (by kernel_rfl)
end Go.Proofs.YtncohjljeoknkaaDoor
