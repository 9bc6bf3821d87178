/- What the judge hears of the fixed lines that told ok. -/
import Derived.Test.YtfdbffopcdpfeaaGreatDoorProg
import Derived.WalkKit
import Derived.WalkSpells
import Derived.WalkLawsBesides
import Derived.Deep.QuietTactic
import Derived.BigQuiet
import Derived.Lib.Hide
import Derived.Deep.RegionHeld3
import Derived.Deep.DrawnRows
import Derived.Deep.AppendLies
import Derived.Deep.RegionLaw
import Derived.Lib.AppendZerosOnto
import Derived.Lib.SlBytesConst
import Derived.Test.YtfdbffopcdpfeaaGreatDoorShelf
import Derived.Test.YtfdbffopcdpfeaaGreatDoorBase
import Derived.Test.YtfdbffopcdpfeaaGreatDoorJour
import Derived.Test.YtfdbffopcdpfeaaGreatDoorWords
import Derived.Test.YtfdbffopcdpfeaaGreatDoorRead
import Derived.Test.YtfdbffopcdpfeaaGreatDoorInts
import Derived.Test.YtfdbffopcdpfeaaGreatDoorLine
import Derived.Test.YtfdbffopcdpfeaaGreatDoorBook
set_option linter.unusedVariables false
set_option linter.unusedSimpArgs false
namespace Go.Proofs.YtfdbffopcdpfeaaGreatDoor
open Go.RowKit
attribute [local go_sem ↓] Go.wp_at_zero Go.wp_at_succ

open Go
set_option maxRecDepth 100000 in
theorem ok_connect_0 {w : World} {b g c gl cl : Nat} (h : Int) (n : Int) (hb : BookAt w b false h n 0) (hgb : g ≠ b) (hc : w.cell? ⟨g, 1, none⟩ = some (.string ⟨#[49]⟩)) (hl : w.cell? ⟨gl, 0, none⟩ = some (.string ⟨#[99, 111, 110, 110, 101, 99, 116]⟩)) :
    Calls Tryz.prog 15 #[.pointer (some ⟨b, 0, none⟩), .slice (some ⟨gl, 0, none⟩) 1 cl, .slice (some ⟨g, 1, none⟩) 1 c] w (Heard b (.bool true) false h n 1 w) := by
  go_enter Tryz.func15, Tryz.ntmps15
  go_wp2_with fail
  refine (connect_0 h n hb hgb hc).mono ?_
  rintro e w1 ⟨rfl, hB, hC⟩
  go_wp2_with fail
  go_ret
  exact ⟨rfl, hB, hC⟩
set_option maxRecDepth 100000 in
theorem ok_connect_1 {w : World} {b g c gl cl : Nat} (h : Int) (n : Int) (hb : BookAt w b false h n 1) (hgb : g ≠ b) (hc : w.cell? ⟨g, 1, none⟩ = some (.string ⟨#[49]⟩)) (hl : w.cell? ⟨gl, 0, none⟩ = some (.string ⟨#[99, 111, 110, 110, 101, 99, 116]⟩)) :
    Calls Tryz.prog 15 #[.pointer (some ⟨b, 0, none⟩), .slice (some ⟨gl, 0, none⟩) 1 cl, .slice (some ⟨g, 1, none⟩) 1 c] w (Heard b (.bool false) false h n 2 w) := by
  go_enter Tryz.func15, Tryz.ntmps15
  go_wp2_with fail
  refine (connect_1 h n hb hgb hc).mono ?_
  rintro e w1 ⟨rfl, hB, hC⟩
  go_wp2_with fail
  go_ret
  exact ⟨rfl, hB, hC⟩
set_option maxRecDepth 100000 in
set_option maxHeartbeats 400000 in
theorem ok_now_5 {w : World} {b g c gl cl : Nat} (h k : Int) (hb : BookAt w b false h 5 k) (hc : w.cell? ⟨g, 1, none⟩ = some (.string ⟨#[53]⟩)) (hl : w.cell? ⟨gl, 0, none⟩ = some (.string ⟨#[110, 111, 119]⟩)) :
    Calls Tryz.prog 15 #[.pointer (some ⟨b, 0, none⟩), .slice (some ⟨gl, 0, none⟩) 1 cl, .slice (some ⟨g, 1, none⟩) 1 c] w (Heard b (.bool true) false h 5 k w) := by
  have c3 := blkCell hb 3 (v := .int .i64 5) rfl
  go_enter Tryz.func15, Tryz.ntmps15
  go_wp2_with fail
  go_quiet ((go_at_call 23; exact Calls.quiet_of_same ((itoa_lit 5 (by omega) [53] dec5 _).mono fun e w' ⟨h1, h2⟩ => ⟨h1, h2.symm⟩)))
  go_wp2_with fail
  go_ret
  exact ⟨rfl, hb, (Chg.refl _ w).drewN _⟩
set_option maxRecDepth 100000 in
set_option maxHeartbeats 400000 in
theorem ok_now_0 {w : World} {b g c gl cl : Nat} (h k : Int) (hb : BookAt w b false h 0 k) (hc : w.cell? ⟨g, 1, none⟩ = some (.string ⟨#[53]⟩)) (hl : w.cell? ⟨gl, 0, none⟩ = some (.string ⟨#[110, 111, 119]⟩)) :
    Calls Tryz.prog 15 #[.pointer (some ⟨b, 0, none⟩), .slice (some ⟨gl, 0, none⟩) 1 cl, .slice (some ⟨g, 1, none⟩) 1 c] w (Heard b (.bool false) false h 0 k w) := by
  have c3 := blkCell hb 3 (v := .int .i64 0) rfl
  go_enter Tryz.func15, Tryz.ntmps15
  go_wp2_with fail
  go_quiet ((go_at_call 23; exact Calls.quiet_of_same ((itoa_lit 0 (by omega) [48] dec0 _).mono fun e w' ⟨h1, h2⟩ => ⟨h1, h2.symm⟩)))
  go_wp2_with fail
  go_ret
  exact ⟨rfl, hb, (Chg.refl _ w).drewN _⟩
theorem atoi5 (w : World) : Calls Tryz.prog 22 #[.string ⟨#[53]⟩] w fun e w' => e = .returned (.tuple #[.int .i64 5, .nilIface]) ∧ Below w.heap.size w w' := by
  have h := atoi_ds 5 (by rw [ds5]; decide) (by rw [dec5]; decide) w
  rw [ds5] at h; exact h
set_option maxRecDepth 100000 in
theorem ok_tick {w : World} {b g o c gl cl : Nat} (h k : Int) (hb : BookAt w b false h 0 k) (hl : w.cell? ⟨gl, 0, none⟩ = some (.string ⟨#[116, 105, 99, 107]⟩)) (hl1 : w.cell? ⟨gl, 1, none⟩ = some (.string ⟨#[53]⟩)) :
    Calls Tryz.prog 15 #[.pointer (some ⟨b, 0, none⟩), .slice (some ⟨gl, 0, none⟩) 2 cl, .slice (some ⟨g, o, none⟩) 0 c] w (Heard b (.bool true) false h 5 k w) := by
  go_enter Tryz.func15, Tryz.ntmps15
  go_wp2_with fail
  refine (atoi5 w).mono ?_
  rintro e w1 ⟨rfl, hB1⟩
  have hb1 : BookAt w1 b false h 0 k := blkBelow hb hB1 (blkLt hb)
  have c3 := blkCell hb1 3 (v := .int .i64 0) rfl
  have f3 := blkFree hb1 3
  have hb2 := blkSet hb1 3 (.int .i64 5)
  clear hl hl1
  go_wp2_with fail
  go_ret
  exact ⟨rfl, hb2, (Chg.ofBelow (S := fun k => k = b) hB1).set (b := b) (.inl rfl) 3 _⟩
end Go.Proofs.YtfdbffopcdpfeaaGreatDoor
