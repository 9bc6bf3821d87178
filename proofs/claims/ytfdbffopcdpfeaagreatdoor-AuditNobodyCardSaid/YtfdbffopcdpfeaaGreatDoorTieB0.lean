/- The ties of what the row lists, fact by fact. -/
import Derived.Test.YtfdbffopcdpfeaaGreatDoorTieA
import Derived.LaidByTextLater
import Derived.SevenTiedAt
import Derived.KernelRfl
set_option linter.unusedVariables false
namespace Go.Proofs.YtfdbffopcdpfeaaGreatDoor
open Go
theorem tw7 (os : Os) (tape : Tape) : varsDone Tryz.prog 400 (varsId Tryz.prog) os tape = true := by kernel_rfl
end Go.Proofs.YtfdbffopcdpfeaaGreatDoor
