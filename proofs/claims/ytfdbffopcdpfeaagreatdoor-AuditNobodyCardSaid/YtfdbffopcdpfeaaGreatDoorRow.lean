/- The row of AuditNobody. -/
import Derived.Test.YtfdbffopcdpfeaaGreatDoorRowX
import Derived.Test.YtfdbffopcdpfeaaGreatDoorNobody
set_option linter.unusedVariables false
namespace Go.Proofs.YtfdbffopcdpfeaaGreatDoor
open Go
open Go.ChangeShapes Go.WideShapes Go.ChangeAt Go.RowKit Go.Joins
noncomputable abbrev laidL : List (String × DataW Unit) := Rows.auditNobodyRow.laid
theorem witness_laid (os : Os) : laidMetH Tryz.prog laidL ((World.laidAll Tryz.prog os laidL).forCall (fun _ _ => 0) ⟨#[], #[.agg #[.string ⟨#[]⟩, .string ⟨#[]⟩]], []⟩).memory := by
  rw [MakeChecks.laidMetH_plain _ _ _ (by kernel_rfl)]
  exact laidMet_laidAll _ (by kernel_rfl) (by kernel_rfl)
theorem witness_shaped (os : Os) : ((World.laidAll Tryz.prog os laidL).forCall (fun _ _ => 0) ⟨#[], #[.agg #[.string ⟨#[]⟩, .string ⟨#[]⟩]], []⟩).Shaped Tryz.prog := World.shaped_of_ZipB (by kernel_rfl) (by kernel_rfl)
end Go.Proofs.YtfdbffopcdpfeaaGreatDoor
