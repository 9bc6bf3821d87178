/- A reply's words, as the judge hears those of the fixed line. -/
import Derived.Test.YtfdbffopcdpfeaaGreatDoorProg
import Derived.WalkKit
import Derived.WalkSpells
import Derived.WalkLawsBesides
import Derived.Deep.QuietTactic
import Derived.BigQuiet
import Derived.Lib.Hide
import Derived.Deep.RegionHeld3
import Derived.Deep.DrawnRows
import Derived.Deep.AppendLies
import Derived.Deep.RegionLaw
import Derived.Lib.AppendZerosOnto
import Derived.Lib.SlBytesConst
import Derived.Test.YtfdbffopcdpfeaaGreatDoorShelf
import Derived.Test.YtfdbffopcdpfeaaGreatDoorBase
import Derived.Test.YtfdbffopcdpfeaaGreatDoorJour
import Derived.Test.YtfdbffopcdpfeaaGreatDoorWords
import Derived.Test.YtfdbffopcdpfeaaGreatDoorRead
import Derived.Test.YtfdbffopcdpfeaaGreatDoorInts
import Derived.Test.YtfdbffopcdpfeaaGreatDoorLine
import Derived.Test.YtfdbffopcdpfeaaGreatDoorBook
set_option linter.unusedVariables false
set_option linter.unusedSimpArgs false
namespace Go.Proofs.YtfdbffopcdpfeaaGreatDoor
open Go.RowKit
attribute [local go_sem ↓] Go.wp_at_zero Go.wp_at_succ

open Go
theorem above_any (n : Int) (w : World) (h : (n > 0)) : Calls Tryz.prog 39 #[.int .i64 n] w fun e w' => e = .returned (.bool true) ∧ w = w' := by
  go_enter Tryz.func39, Tryz.ntmps39
  go_wp2; go_ret; exact ⟨rfl, rfl⟩
theorem index_first (g o n c : Nat) (hn : (0 : Int) < n) (w : World) (hc : w.cell? ⟨g, o, none⟩ = some (.int .i64 1)) (f : Value) (hf : f = .func (.func 39) #[] #[]) : Calls Tryz.prog 81 #[.slice (some ⟨g, o, none⟩) n c, f] w fun e w' => e = .returned (.int .i64 0) ∧ w = w' := by
  subst hf
  have hn0 : 0 < n := by omega
  go_enter Tryz.func81, Tryz.ntmps81
  go_wp2
  refine wp_loop_rounds 1 ?_
  rw [rounds_succ]
  go_wp2_with (go_at_call 39; refine (above_any 1 _ (by decide)).mono ?_; rintro e w' ⟨rfl, rfl⟩)
  go_ret; exact ⟨rfl, rfl⟩
theorem contains_first (g o n c : Nat) (hn : (0 : Int) < n) (w : World) (hc : w.cell? ⟨g, o, none⟩ = some (.int .i64 1)) : Calls Tryz.prog 40 #[.slice (some ⟨g, o, none⟩) n c, .func (.func 39) #[] #[]] w fun e w' => e = .returned (.bool true) ∧ w = w' := by
  go_enter Tryz.func40, Tryz.ntmps40
  go_wp2_with (go_at_call 81; refine (index_first g o n c hn _ hc _ rfl).mono ?_; rintro e w' ⟨rfl, rfl⟩)
  go_ret; exact ⟨rfl, rfl⟩
theorem isWord_dash (w : World) : Calls Tryz.prog 24 #[.string ⟨#[45]⟩] w fun e w' => e = .returned (.bool true) ∧ w = w' := by
  go_enter Tryz.func24, Tryz.ntmps24
  go_wp2; go_ret; exact ⟨rfl, rfl⟩
theorem dec3 : Lib.decDigits 3 = [51] := by kernel_rfl
theorem ds3 : ds 3 = ⟨#[51]⟩ := by unfold ds; rw [dec3]
theorem ds4 : ds 4 = ⟨#[52]⟩ := by unfold ds; rw [dec4]
theorem ds0 : ds 0 = ⟨#[48]⟩ := by unfold ds; rw [dec0]
theorem fine34100 : Fine [3, 4, 1, 0, 0] := by
  intro n hn
  simp only [List.mem_cons, List.mem_nil_iff, or_false] at hn
  rcases hn with rfl | rfl | rfl | rfl | rfl
  · rw [ds3, dec3]; decide
  · rw [ds4, dec4]; decide
  · rw [ds1, dec1]; decide
  · rw [ds0, dec0]; decide
  · rw [ds0, dec0]; decide
/-- The words of the reply. -/
def RepWords (w : World) (g : Nat) : Prop := w.cell? ⟨g, 1, none⟩ = some (.string ⟨#[51]⟩) ∧ w.cell? ⟨g, 2, none⟩ = some (.string ⟨#[52]⟩) ∧ w.cell? ⟨g, 3, none⟩ = some (.string ⟨#[49]⟩) ∧ w.cell? ⟨g, 4, none⟩ = some (.string ⟨#[48]⟩) ∧ w.cell? ⟨g, 5, none⟩ = some (.string ⟨#[48]⟩) ∧ w.cell? ⟨g, 6, none⟩ = some (.string ⟨#[45]⟩)
theorem reply_no {w : World} {g : Nat} (h : RepWords w g) : Calls Tryz.prog 25 #[.slice (some ⟨g, 1, none⟩) 6 6, .bool true] w fun e w' => e = .returned (.bool false) ∧ Below w.heap.size w w' := by
  obtain ⟨h1, h2, h3, h4, h5, h6⟩ := h
  have hi := ints_any g 1 6 [3, 4, 1, 0, 0] (by decide) fine34100 w (World.block_lt_of_cell? w _ h1) (by
    intro j hj
    have hj' : j < 5 := by simpa using hj
    match j, hj' with
    | 0, _ => rw [show ([3, 4, 1, 0, 0] : List Nat)[0] = 3 from rfl, ds3]; exact h1
    | 1, _ => rw [show ([3, 4, 1, 0, 0] : List Nat)[1] = 4 from rfl, ds4]; exact h2
    | 2, _ => rw [show ([3, 4, 1, 0, 0] : List Nat)[2] = 1 from rfl, ds1]; exact h3
    | 3, _ => rw [show ([3, 4, 1, 0, 0] : List Nat)[3] = 0 from rfl, ds0]; exact h4
    | 4, _ => rw [show ([3, 4, 1, 0, 0] : List Nat)[4] = 0 from rfl, ds0]; exact h5)
  clear h1 h2 h3 h4 h5
  go_enter Tryz.func25, Tryz.ntmps25
  go_wp2_with (go_at_call 24; refine (isWord_dash _).mono ?_; rintro e w' ⟨rfl, rfl⟩)
  refine hi.mono ?_
  rintro e w1 ⟨v, rfl, hown, hB⟩
  obtain ⟨g', cap, cur, rfl, hgs, hge, _, hcap, hcm, _, _⟩ := ownN (by simp [iv]) hown
  have c1 := hgs 1 (.int .i64 4) rfl
  have c2 := hgs 2 (.int .i64 1) rfl
  have hx := cellBelow h6 hB
  clear hown hgs h6
  simp only [List.length_cons, List.length_nil] at hcap ⊢
  unfold maxLen at hcm
  have k1 : (2 : Int) ≤ cap := by omega
  have k2 : ¬ ((cap : Int) = 2) := by omega
  have k3 : ¬ (cap = 2) := by omega
  have k4 : (cap : Int) ≤ 9223372036854775807 := by omega
  have k5 : ((5 : Nat) : Int) ≤ cap := by omega
  have k6 : 2 ≤ cap := by omega
  go_wp2_with (first | (go_at_call 40; refine (contains_first _ _ _ _ (by decide) _ c2).mono ?_; rintro e w' ⟨rfl, rfl⟩))
  go_ret
  exact ⟨rfl, hB⟩
end Go.Proofs.YtfdbffopcdpfeaaGreatDoor
