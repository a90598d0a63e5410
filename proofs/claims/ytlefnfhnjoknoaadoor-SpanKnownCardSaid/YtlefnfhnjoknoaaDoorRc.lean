/- Proved here: rows of the tables. Conditions: those of each theorem; no statement of the seat is proved in this text. -/
import Derived.Test.YtlefnfhnjoknoaaDoorEnv
namespace Go.Proofs.YtlefnfhnjoknoaaDoor
open Go.Ab
set_option maxRecDepth 100000
theorem c1_row : ∀ σ, callFn env0 (ev env0) 8 c1 σ = some (.bool true, σ) := row_of_F (k := 1000) rfl rfl (by kernel_rfl) (by kernel_rfl)
end Go.Proofs.YtlefnfhnjoknoaaDoor

namespace Go.Proofs.YtlefnfhnjoknoaaDoor
open Go.Ab
set_option maxRecDepth 100000
theorem c2_row : ∀ σ, callFn env0 (ev env0) 8 c2 σ = some (.bool true, σ) := row_of_F (k := 1000) rfl rfl (by kernel_rfl) (by kernel_rfl)
end Go.Proofs.YtlefnfhnjoknoaaDoor

namespace Go.Proofs.YtlefnfhnjoknoaaDoor
open Go.Ab
set_option maxRecDepth 100000
theorem c3_row : ∀ σ, callFn env0 (ev env0) 8 c3 σ = some (.bool true, σ) := row_of_F (k := 1000) rfl rfl (by kernel_rfl) (by kernel_rfl)
end Go.Proofs.YtlefnfhnjoknoaaDoor

namespace Go.Proofs.YtlefnfhnjoknoaaDoor
open Go.Ab
set_option maxRecDepth 100000
theorem c4_row : ∀ σ, callFn env0 (ev env0) 8 c4 σ = some (.bool true, σ) := row_of_F (k := 1000) rfl rfl (by kernel_rfl) (by kernel_rfl)
end Go.Proofs.YtlefnfhnjoknoaaDoor

namespace Go.Proofs.YtlefnfhnjoknoaaDoor
open Go.Ab
set_option maxRecDepth 100000
theorem c5_row : ∀ σ, callFn env0 (ev env0) 8 c5 σ = some (.bool true, σ) := row_of_F (k := 1000) rfl rfl (by kernel_rfl) (by kernel_rfl)
end Go.Proofs.YtlefnfhnjoknoaaDoor
