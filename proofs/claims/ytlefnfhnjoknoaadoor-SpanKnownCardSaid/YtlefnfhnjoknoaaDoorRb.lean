/- Proved here: rows of the tables. Conditions: those of each theorem; no statement of the seat is proved in this text. -/
import Derived.Test.YtlefnfhnjoknoaaDoorEnv
namespace Go.Proofs.YtlefnfhnjoknoaaDoor
open Go.Ab
set_option maxRecDepth 100000
theorem s4_row : ∀ σ, callFn env0 (ev env0) 5 s4 σ = some (.bool true, σ) := row_of_F (k := 1000) rfl rfl (by kernel_rfl) (by kernel_rfl)
end Go.Proofs.YtlefnfhnjoknoaaDoor

namespace Go.Proofs.YtlefnfhnjoknoaaDoor
open Go.Ab
set_option maxRecDepth 100000
theorem s5_row : ∀ σ, callFn env0 (ev env0) 5 s5 σ = some (.bool true, σ) := row_of_F (k := 1000) rfl rfl (by kernel_rfl) (by kernel_rfl)
end Go.Proofs.YtlefnfhnjoknoaaDoor

namespace Go.Proofs.YtlefnfhnjoknoaaDoor
open Go.Ab
set_option maxRecDepth 100000
theorem s6_row : ∀ σ, callFn env0 (ev env0) 5 s6 σ = some (.bool true, σ) := row_of_F (k := 1000) rfl rfl (by kernel_rfl) (by kernel_rfl)
end Go.Proofs.YtlefnfhnjoknoaaDoor

namespace Go.Proofs.YtlefnfhnjoknoaaDoor
open Go.Ab
set_option maxRecDepth 100000
theorem s7_row : ∀ σ, callFn env0 (ev env0) 5 s7 σ = some (.bool true, σ) := row_of_F (k := 1000) rfl rfl (by kernel_rfl) (by kernel_rfl)
end Go.Proofs.YtlefnfhnjoknoaaDoor
