/-
  'pigeonloftlaw38.AuditNobody' returns true for every input, and the input reads afterwards as before: a book that is nil, or that no call made, says so. Conditions: none beyond the row's own cells (the listed variables of Go's library start as the program's text lays them; the card ties them).
-/
import Derived.Test.YtfdbffopcdpfeaaGreatDoorRow3
import Derived.Test.YtfdbffopcdpfeaaGreatDoorGoes
import Derived.Test.YtfdbffopcdpfeaaGreatDoorCards
import Derived.Test.YtfdbffopcdpfeaaGreatDoorTieC
import Derived.SevenTiedAt
set_option linter.unusedVariables false
namespace Go.Proofs.YtfdbffopcdpfeaaGreatDoor
open Go
theorem wants_not : Tryz.prog.wantsStandIn 23 = false := by kernel_rfl
theorem looks_now : true = Tryz.prog.looks [] := by kernel_rfl
theorem main_is : Tryz.prog.mainIs = some (true, "d528e4482938fc2bb23a1bb1604672aaed082a5268bfe3d19175a68489f637ef".toList) := by kernel_rfl
theorem wf_text : Rows.auditNobodyRow.wfByText (OpenSpec.ofChange Rows.auditNobodySpec) = true := by kernel_rfl
theorem named_is : Tryz.prog.funcNamed "pigeonloft/pigeonloftlaw38.AuditNobody" = some 3 := by kernel_rfl
theorem goes_not : false = Rows.auditNobodyRow.goesBy Tryz.prog := by
  unfold OpenClaim.goesBy Program.goesAt
  rw [prog_goesFrom]; rfl
theorem card_holds : Rows.AuditNobodyCardSaid :=
  Claim7.holds_tied_plain_at .later [] [.sentinel, .sentinel, .data, .data, .data, .pinned, .data] true (true, "d528e4482938fc2bb23a1bb1604672aaed082a5268bfe3d19175a68489f637ef") true
    auditNobody_holds (fun _ h => by cases h) wf_text (fun _ h => by cases h) row_tie rfl ⟨rfl, rfl⟩ main_is rfl
    (fun f fn hf hfn => by
      obtain rfl : f = 3 := Option.some.inj (named_is.symm.trans hf) |>.symm
      obtain rfl : fn = Tryz.f3 := (Option.some.inj (Tryz.func3.symm.trans hfn)).symm
      exact ⟨looks_now, fun j t ht => by
        rw [Tryz.params3] at ht
        obtain rfl : t = 23 := by
          rcases j with _ | j
          · simpa using ht.symm
          · simp at ht
        exact wants_not⟩)
    goes_not
end Go.Proofs.YtfdbffopcdpfeaaGreatDoor
