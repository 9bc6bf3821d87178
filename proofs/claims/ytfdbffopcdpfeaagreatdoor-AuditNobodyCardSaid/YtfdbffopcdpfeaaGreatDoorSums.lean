/- The long sum ends, with some number. -/
import Derived.Test.YtfdbffopcdpfeaaGreatDoorProg
import Derived.WalkKit
import Derived.WalkSpells
import Derived.WalkLawsBesides
import Derived.Deep.QuietTactic
import Derived.BigQuiet
import Derived.Lib.Hide
import Derived.Deep.RegionHeld3
import Derived.Deep.DrawnRows
import Derived.Deep.AppendLies
import Derived.Deep.RegionLaw
import Derived.Lib.AppendZerosOnto
import Derived.Lib.SlBytesConst
import Derived.Test.YtfdbffopcdpfeaaGreatDoorBase
set_option linter.unusedVariables false
set_option linter.unusedSimpArgs false
namespace Go.Proofs.YtfdbffopcdpfeaaGreatDoor
open Go.RowKit
attribute [local go_sem ↓] Go.wp_at_zero Go.wp_at_succ

open Go
/-- Some number of a kind, and the world as it was. -/
def SomeN (k : IntKind) (w : World) (e : Ending) (w' : World) : Prop := ∃ n : Int, e = .returned (.int k n) ∧ w = w'
theorem halve_some (s p : Int) (w : World) : Calls Tryz.prog 566 #[.int .u32 s, .int .u32 p] w (SomeN .u32 w) := by
  go_enter Tryz.func566, Tryz.ntmps566
  go_wp2
  all_goals (go_ret; exact ⟨_, rfl, rfl⟩)
theorem byteOn_some (s c p : Int) (w : World) : Calls Tryz.prog 543 #[.int .u32 s, .int .u8 c, .int .u32 p] w (SomeN .u32 w) := by
  go_enter Tryz.func543, Tryz.ntmps543
  go_wp2
  go_loop [0, 11] (fun s i => ∃ (n : Int) (k : Nat), k ≤ 8 ∧ s = .int .u32 n ∧ i = .int .i64 k) (fun _ i => 8 - (intOf i).toNat)
  case atStart => exact ⟨_, 0, by omega, rfl, rfl⟩
  case round =>
    obtain ⟨n, k, hk, rfl, rfl⟩ := hrel
    by_cases hlt : k < 8
    · go_wp2_with (go_at_call 566; refine (halve_some _ _ _).mono ?_; rintro e w' ⟨m, rfl, rfl⟩)
      go_round
      case rel => exact ⟨_, k + 1, by omega, rfl, by go_num⟩
      case measure => simp [intOf]; omega
    · go_wp2
      go_ret; exact ⟨_, rfl, rfl⟩
theorem run_some (s p : Int) (b o n cap : Nat) (xs : List Int) (w : World) (hn : n ≤ 1000000000) (hx : xs.length = n) (hc : ∀ k, k < n → w.cell? ⟨b, o + k, none⟩ = some (.int .u8 (xs.getD k 0))) :
    Calls Tryz.prog 479 #[.int .u32 s, .slice (some ⟨b, o, none⟩) n cap, .int .u32 p] w (SomeN .u32 w) := by
  go_enter Tryz.func479, Tryz.ntmps479
  go_wp2
  go_loop [0, 8, 11] (fun s _ i => ∃ (m : Int) (k : Nat), k ≤ n ∧ s = .int .u32 m ∧ i = .int .i64 k) (fun _ _ i => n - (intOf i).toNat)
  case atStart => exact ⟨_, 0, by omega, rfl, rfl⟩
  case round =>
    obtain ⟨m, k, hk, rfl, rfl⟩ := hrel
    by_cases hlt : k < n
    · have hck := hc k hlt
      go_wp2_with (go_at_call 543; refine (byteOn_some _ _ _ _).mono ?_; rintro e w' ⟨q, rfl, rfl⟩)
      go_round
      case rel => exact ⟨_, k + 1, by omega, rfl, by go_num⟩
      case measure => simp [intOf]; omega
    · go_wp2
      go_ret; exact ⟨_, rfl, rfl⟩
theorem Long_some (b o n cap : Nat) (xs : List Int) (w : World) (hn : n ≤ 1000000000) (hx : xs.length = n) (hc : ∀ k, k < n → w.cell? ⟨b, o + k, none⟩ = some (.int .u8 (xs.getD k 0))) :
    Calls Tryz.prog 422 #[.slice (some ⟨b, o, none⟩) n cap] w (SomeN .u32 w) := by
  have hr := fun s p => run_some s p b o n cap xs w hn hx hc
  have Hr := Lib.hid hr
  clear hr hc
  go_enter Tryz.func422, Tryz.ntmps422
  go_wp2_with (go_at_call 479; refine (Hr.out _ _).mono ?_; rintro e w' ⟨q, rfl, rfl⟩)
  go_ret; exact ⟨_, rfl, rfl⟩
end Go.Proofs.YtfdbffopcdpfeaaGreatDoor
