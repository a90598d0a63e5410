/- Proved here: batches of some lengths. Conditions: those of each theorem; no statement of the seat is proved in this text. -/
import Derived.Test.YtpclebdkhpapjaaGreatDoorLnA
set_option linter.unusedSimpArgs false
set_option linter.unusedVariables false
set_option linter.unusedSectionVars false
namespace Go.Proofs.YtpclebdkhpapjaaGreatDoor.T
open Go.Ab
set_option maxHeartbeats 8000000
set_option maxRecDepth 1000000
theorem okBat_55 (itoa mk):okBat itoa mk 55=true:=by kernel_rfl
theorem okBat_56 (itoa mk):okBat itoa mk 56=true:=by kernel_rfl
theorem okBat_57 (itoa mk):okBat itoa mk 57=true:=by kernel_rfl
theorem okBat_58 (itoa mk):okBat itoa mk 58=true:=by kernel_rfl
theorem okBat_59 (itoa mk):okBat itoa mk 59=true:=by kernel_rfl
theorem okBat_60 (itoa mk):okBat itoa mk 60=true:=by kernel_rfl
theorem okBat_61 (itoa mk):okBat itoa mk 61=true:=by kernel_rfl
theorem okBat_62 (itoa mk):okBat itoa mk 62=true:=by kernel_rfl
theorem okBat_63 (itoa mk):okBat itoa mk 63=true:=by kernel_rfl
theorem okBat_64 (itoa mk):okBat itoa mk 64=true:=by kernel_rfl
theorem okBat_65 (itoa mk):okBat itoa mk 65=true:=by kernel_rfl
theorem okBat_66 (itoa mk):okBat itoa mk 66=true:=by kernel_rfl
theorem okBat_67 (itoa mk):okBat itoa mk 67=true:=by kernel_rfl
theorem okBat_68 (itoa mk):okBat itoa mk 68=true:=by kernel_rfl
theorem okBat_69 (itoa mk):okBat itoa mk 69=true:=by kernel_rfl
theorem okBat_70 (itoa mk):okBat itoa mk 70=true:=by kernel_rfl
theorem okBat_71 (itoa mk):okBat itoa mk 71=true:=by kernel_rfl
theorem okBat_72 (itoa mk):okBat itoa mk 72=true:=by kernel_rfl
theorem okBat_73 (itoa mk):okBat itoa mk 73=true:=by kernel_rfl
theorem okBat_74 (itoa mk):okBat itoa mk 74=true:=by kernel_rfl
end Go.Proofs.YtpclebdkhpapjaaGreatDoor.T
