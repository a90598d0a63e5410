/- Proved here: a run of SchemaKnown gives true. Conditions: none. -/
import Derived.Test.YtbikmhpobflfeaaDoorEv
namespace Go.Proofs.YtbikmhpobflfeaaDoor
open Go.Ab
set_option maxRecDepth 100000
theorem found8 : Go.Ab.Found env 8 [] := found_of_F (k := 1000) (by kernel_rfl)
end Go.Proofs.YtbikmhpobflfeaaDoor
