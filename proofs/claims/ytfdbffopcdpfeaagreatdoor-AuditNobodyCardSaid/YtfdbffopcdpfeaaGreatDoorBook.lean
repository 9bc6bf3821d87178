/- What a book of the judge's does with the fixed entries. -/
import Derived.Test.YtfdbffopcdpfeaaGreatDoorProg
import Derived.WalkKit
import Derived.WalkSpells
import Derived.WalkLawsBesides
import Derived.Deep.QuietTactic
import Derived.BigQuiet
import Derived.Lib.Hide
import Derived.Deep.RegionHeld3
import Derived.Deep.DrawnRows
import Derived.Deep.AppendLies
import Derived.Deep.RegionLaw
import Derived.Lib.AppendZerosOnto
import Derived.Lib.SlBytesConst
import Derived.Test.YtfdbffopcdpfeaaGreatDoorShelf
import Derived.Test.YtfdbffopcdpfeaaGreatDoorBase
import Derived.Test.YtfdbffopcdpfeaaGreatDoorJour
import Derived.Test.YtfdbffopcdpfeaaGreatDoorWords
import Derived.Test.YtfdbffopcdpfeaaGreatDoorRead
import Derived.Test.YtfdbffopcdpfeaaGreatDoorInts
import Derived.Test.YtfdbffopcdpfeaaGreatDoorLine
set_option linter.unusedVariables false
set_option linter.unusedSimpArgs false
namespace Go.Proofs.YtfdbffopcdpfeaaGreatDoor
open Go.RowKit
attribute [local go_sem ↓] Go.wp_at_zero Go.wp_at_succ

open Go
def bookC (n c : Int) (wrong : Bool) (h : Int) : Array Value := #[.bool true, .bool wrong, .int .i64 h, .int .i64 n, .int .i64 c, .int .i64 0, .int .i64 0, .int .i64 0]
/-- A book, by its cells. -/
def BookAt (w : World) (b : Nat) (wrong : Bool) (h n c : Int) : Prop := w.heap[b]? = some (.cells #[.bool true, .bool wrong, .int .i64 h, .int .i64 n, .int .i64 c, .int .i64 0, .int .i64 0, .int .i64 0] 30 (0, 0))
/-- What hearing leaves: an answer; the book; all else. -/
def Heard (b : Nat) (v : Value) (wrong : Bool) (h n c : Int) (w : World) (e : Ending) (w' : World) : Prop := e = .returned v ∧ BookAt w' b wrong h n c ∧ Chg (fun k => k = b) w w'
theorem ds1 : ds 1 = ⟨#[49]⟩ := by unfold ds; rw [dec1]
theorem fine1 : Fine [1] := by
  intro n hn
  simp only [List.mem_cons, List.mem_nil_iff, or_false] at hn
  subst hn; rw [ds1, dec1]; decide
theorem ds5 : ds 5 = ⟨#[53]⟩ := by unfold ds; rw [dec5]
theorem fine5 : Fine [5] := by
  intro n hn
  simp only [List.mem_cons, List.mem_nil_iff, or_false] at hn
  subst hn; rw [ds5, dec5]; decide
theorem dec2 : Lib.decDigits 2 = [50] := by kernel_rfl
theorem chgSetDrew (w : World) (b j : Nat) (v : Value) : Chg (fun k => k = b) w (w.setCell ⟨b, j, none⟩ v).drew := ((Chg.refl (fun k => k = b) w).set (b := b) (.inl rfl) j v).drewN 1
set_option maxHeartbeats 400000 in
theorem connect_0 {w : World} {b g o c : Nat} (h : Int) (n : Int) (hb : BookAt w b false h n 0) (hgb : g ≠ b) (hc : w.cell? ⟨g, o, none⟩ = some (.string ⟨#[49]⟩)) :
    Calls Tryz.prog 20 #[.pointer (some ⟨b, 0, none⟩), .slice (some ⟨g, o, none⟩) 1 c] w (Heard b (.bool true) false h n 1 w) := by
  have hb' := blkSet hb 4 (.int .i64 1)
  have c4 := blkCell hb 4 (v := .int .i64 0) rfl
  have f4 := blkFree hb 4
  have hc' : (w.setCell ⟨b, 4, none⟩ (.int .i64 1)).cell? ⟨g, o, none⟩ = some (.string ⟨#[49]⟩) := (cellFar hgb.symm).trans hc
  have hb4 : (w.setCell ⟨b, 4, none⟩ (.int .i64 1)).cell? ⟨b, 4, none⟩ = some (.int .i64 1) := blkCell hb' 4 rfl
  have ho := one_any g o c 1 1 fine1 (by decide) (w.setCell ⟨b, 4, none⟩ (.int .i64 1)).drew (by rw [ds1]; exact hc')
  go_enter Tryz.func20, Tryz.ntmps20
  go_wp2_with fail
  go_region_held3 (fun X : World => X.cell? ⟨g, o, none⟩ = some (.string ⟨#[49]⟩) ∧ X.cell? ⟨b, 4, none⟩ = some (.int .i64 1)) (first | go_keep | (refine ⟨?_, ?_⟩ <;> assumption)) (first | ((go_at_call 13; refine ho.mono ?_; rintro e w1 ⟨rfl, hB1⟩; have k0 := cellBelow (w := (w.setCell ⟨b, 4, none⟩ (.int .i64 1)).drew) hc' hB1; have k1 := cellBelow (w := (w.setCell ⟨b, 4, none⟩ (.int .i64 1)).drew) hb4 hB1)) | (go_at_call 23; refine (itoa_lit 1 (by omega) [49] dec1 _).mono ?_; rintro e w' ⟨rfl, rfl⟩))
  all_goals
    go_wp2_with fail
    go_ret
    refine ⟨rfl, (hB1.block b ?_).trans hb', (chgSetDrew w b 4 (.int .i64 1)).trans (Chg.ofBelow hB1)⟩
    exact blkLt hb'
set_option maxHeartbeats 400000 in
theorem connect_1 {w : World} {b g o c : Nat} (h : Int) (n : Int) (hb : BookAt w b false h n 1) (hgb : g ≠ b) (hc : w.cell? ⟨g, o, none⟩ = some (.string ⟨#[49]⟩)) :
    Calls Tryz.prog 20 #[.pointer (some ⟨b, 0, none⟩), .slice (some ⟨g, o, none⟩) 1 c] w (Heard b (.bool false) false h n 2 w) := by
  have hb' := blkSet hb 4 (.int .i64 2)
  have c4 := blkCell hb 4 (v := .int .i64 1) rfl
  have f4 := blkFree hb 4
  have hc' : (w.setCell ⟨b, 4, none⟩ (.int .i64 2)).cell? ⟨g, o, none⟩ = some (.string ⟨#[49]⟩) := (cellFar hgb.symm).trans hc
  have hb4 : (w.setCell ⟨b, 4, none⟩ (.int .i64 2)).cell? ⟨b, 4, none⟩ = some (.int .i64 2) := blkCell hb' 4 rfl
  have ho := one_any g o c 1 2 fine1 (by decide) (w.setCell ⟨b, 4, none⟩ (.int .i64 2)).drew (by rw [ds1]; exact hc')
  go_enter Tryz.func20, Tryz.ntmps20
  go_wp2_with fail
  go_region_held3 (fun X : World => X.cell? ⟨g, o, none⟩ = some (.string ⟨#[49]⟩) ∧ X.cell? ⟨b, 4, none⟩ = some (.int .i64 2)) (first | go_keep | (refine ⟨?_, ?_⟩ <;> assumption)) (first | ((go_at_call 13; refine ho.mono ?_; rintro e w1 ⟨rfl, hB1⟩; have k0 := cellBelow (w := (w.setCell ⟨b, 4, none⟩ (.int .i64 2)).drew) hc' hB1; have k1 := cellBelow (w := (w.setCell ⟨b, 4, none⟩ (.int .i64 2)).drew) hb4 hB1)) | (go_at_call 23; refine (itoa_lit 2 (by omega) [50] dec2 _).mono ?_; rintro e w' ⟨rfl, rfl⟩))
  all_goals
    go_wp2_with fail
    go_ret
    refine ⟨rfl, (hB1.block b ?_).trans hb', (chgSetDrew w b 4 (.int .i64 2)).trans (Chg.ofBelow hB1)⟩
    exact blkLt hb'
end Go.Proofs.YtfdbffopcdpfeaaGreatDoor
