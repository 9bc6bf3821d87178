/- A closed fact of the row's, on its maps. -/
import Derived.Test.YtfdbffopcdpfeaaGreatDoorFacts0
set_option linter.unusedVariables false
namespace Go.Proofs.YtfdbffopcdpfeaaGreatDoor
open Go
theorem jf2 : (fun (P : Program) (f : FuncId) (fn : Func) (s : ChangeSpec) (c : OpenClaim) => (mapsRowed P : Bool)) Tryz.prog 3 Tryz.f3 Rows.auditNobodySpec Rows.auditNobodyRow = true := by kernel_rfl
end Go.Proofs.YtfdbffopcdpfeaaGreatDoor
