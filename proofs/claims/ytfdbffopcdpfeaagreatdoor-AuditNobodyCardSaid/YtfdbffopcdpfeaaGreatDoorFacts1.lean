/- The row's facts on all that its function comes to. -/
import Derived.Test.YtfdbffopcdpfeaaGreatDoorClo
set_option linter.unusedVariables false
namespace Go.Proofs.YtfdbffopcdpfeaaGreatDoor
open Go

theorem jf9 : (fun (P : Program) (f : FuncId) (_ : Func) (_ : ChangeSpec) (c : OpenClaim) => ((c.inPlace == P.inPlace f) : Bool)) Tryz.prog 3 Tryz.f3 Rows.auditNobodySpec Rows.auditNobodyRow = true := by
  show (Rows.auditNobodyRow.inPlace == Tryz.prog.inPlace 3) = true
  rw [inPlace_is]; kernel_rfl
theorem jf10 : (fun (P : Program) (f : FuncId) (_ : Func) (_ : ChangeSpec) (c : OpenClaim) => ((c.unfollowed == P.unfollowed f) : Bool)) Tryz.prog 3 Tryz.f3 Rows.auditNobodySpec Rows.auditNobodyRow = true := by
  show (Rows.auditNobodyRow.unfollowed == Tryz.prog.unfollowed 3) = true
  rw [unfollowed_is]; kernel_rfl
theorem jf11 : (fun (P : Program) (f : FuncId) (_ : Func) (_ : ChangeSpec) (c : OpenClaim) => ((c.recurses == P.recurses f) : Bool)) Tryz.prog 3 Tryz.f3 Rows.auditNobodySpec Rows.auditNobodyRow = true := by
  show (Rows.auditNobodyRow.recurses == Tryz.prog.recurses 3) = true
  rw [recurses_is]; kernel_rfl
theorem jf12 : (fun (P : Program) (f : FuncId) (_ : Func) (_ : ChangeSpec) (c : OpenClaim) => ((c.named == P.varsNamed f) : Bool)) Tryz.prog 3 Tryz.f3 Rows.auditNobodySpec Rows.auditNobodyRow = true := by
  show (Rows.auditNobodyRow.named == Tryz.prog.varsNamed 3) = true
  rw [varsNamed_is]; kernel_rfl
end Go.Proofs.YtfdbffopcdpfeaaGreatDoor
