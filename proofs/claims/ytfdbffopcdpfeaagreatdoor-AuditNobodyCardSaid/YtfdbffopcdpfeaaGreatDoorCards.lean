/-
  DERIVED. GIVEN WITH THE SEED: THE CARDS: each row of YtfdbffopcdpfeaaGreatDoorRows.lean that lists a variable, with what it lists TIED to the program's text (the seventh form; the later family's looks); each row that meets fmt, with fmt's text TOLD by the authors' own Lean function (tested against real Go, not proved from fmt's source: count such statements apart). THE CARD IS WHAT COUNTS. Prove the row's statement (the work); the ties are given (YtfdbffopcdpfeaaGreatDoorTie.lean); close each card by the builder's one call (the guide's Derived/Test/ToyasCard.lean, 'card_holds'). Laid BY PROGRAM, IN A SANDBOX (cutbox-door.mjs). By AI agents, Wed Nov 11 2026. No macro, syntax, notation, axiom, sorry.
-/
import Derived.Test.YtfdbffopcdpfeaaGreatDoorRows
import GoSem.ClaimSeven
namespace Go.Proofs.YtfdbffopcdpfeaaGreatDoor
namespace Rows

/-- THE TIED CARD OF 'pigeonloftlaw38.AuditNobody'. -/
def auditNobodyCard : Claim7 := { stood := { row := auditNobodyRow, standIns := [], harness := (true, "d528e4482938fc2bb23a1bb1604672aaed082a5268bfe3d19175a68489f637ef"), looks := true }, kinds := [], alts := [], laidByText := true, laidKinds := [.sentinel, .sentinel, .data, .data, .data, .pinned, .data], laidTests := true, laidLooks := .later }
def AuditNobodyCardSaid : Prop := Claim7.holds Tryz.pinned (.plain (OpenSpec.ofChange auditNobodySpec)) auditNobodyCard

/-- THE SECOND FORM's CARD OF 'pigeonloftlaw38.AuditNobody'. -/
def auditNobodyUptoCard : Claim7 := { stood := { row := auditNobodyUptoRow, standIns := [], harness := (true, "d528e4482938fc2bb23a1bb1604672aaed082a5268bfe3d19175a68489f637ef"), looks := true }, kinds := [], alts := [], laidByText := true, laidKinds := [.sentinel, .sentinel, .data, .data, .data, .pinned, .data], laidTests := true, laidLooks := .later }
def AuditNobodyUptoCardSaid : Prop := Claim7.holds Tryz.pinned (.plain (OpenSpec.upto auditNobodySpec)) auditNobodyUptoCard
end Rows
end Go.Proofs.YtfdbffopcdpfeaaGreatDoor
