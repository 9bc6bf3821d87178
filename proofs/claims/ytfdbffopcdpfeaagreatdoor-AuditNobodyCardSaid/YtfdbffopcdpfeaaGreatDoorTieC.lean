/- The row's tie. -/
import Derived.Test.YtfdbffopcdpfeaaGreatDoorTieA
import Derived.Test.YtfdbffopcdpfeaaGreatDoorTieB0
import Derived.Test.YtfdbffopcdpfeaaGreatDoorTieB1
import Derived.Test.YtfdbffopcdpfeaaGreatDoorTieB2
set_option linter.unusedVariables false
namespace Go.Proofs.YtfdbffopcdpfeaaGreatDoor
open Go
theorem listFits : Tryz.pinned.checked.prog.listedFits Rows.auditNobodyRow.laid = true := by
  unfold Program.listedFits
  rw [noUnsafe]
  kernel_rfl
theorem tieT : Tryz.prog.laidByTextLater laidT [.sentinel, .sentinel, .data, .data, .data, .data] true :=
  Program.laidByTextLater_by_run 400 8 tw1 tw2 tw3 tw4 tw5 tw6 tw7 tw8 tw9 (by kernel_rfl)
theorem pinBytes : Rows.laid_unicode_utf8_first = Pinned.utf8First := rfl
theorem row_tie : Rows.auditNobodyRow.laidByTextAt .later Tryz.pinned [.sentinel, .sentinel, .data, .data, .data, .pinned, .data] true :=
  OpenClaim.laidByTextAt_pinned rfl rfl tieT rfl rfl rfl rfl (fun y hy _e => by
    simp only [Rows.auditNobodyRow, List.zip_cons_cons, List.zip_nil_right, List.mem_cons, List.mem_nil_iff, or_false] at hy
    rcases hy with rfl | rfl | rfl | rfl | rfl | rfl | rfl
    · cases _e
    · cases _e
    · cases _e
    · cases _e
    · cases _e
    · exact ⟨pinFirst, by kernel_rfl⟩
    · cases _e) listFits
end Go.Proofs.YtfdbffopcdpfeaaGreatDoor
