/- A counter for all goes up. -/
import Derived.Test.YtfdbffopcdpfeaaGreatDoorProg
import Derived.WalkKit
import Derived.WalkSpells
import Derived.WalkLawsBesides
import Derived.Deep.QuietTactic
import Derived.BigQuiet
import Derived.Lib.Hide
import Derived.Deep.RegionHeld3
import Derived.Deep.DrawnRows
import Derived.Deep.AppendLies
import Derived.Deep.RegionLaw
import Derived.Lib.AppendZerosOnto
import Derived.Lib.SlBytesConst
import Derived.Test.YtfdbffopcdpfeaaGreatDoorBase
set_option linter.unusedVariables false
set_option linter.unusedSimpArgs false
namespace Go.Proofs.YtfdbffopcdpfeaaGreatDoor
open Go.RowKit
attribute [local go_sem ↓] Go.wp_at_zero Go.wp_at_succ

open Go
theorem atomic_Add (b j : Nat) (x y s : Int) (w : World) (hc : w.cell? ⟨b, j, none⟩ = some (.int .i64 x)) (hz : w.frozen? ⟨b, j, none⟩ = false) (hs : IntKind.i64.wrap (x + y) = s) :
    Calls Tryz.prog 359 #[.pointer (some ⟨b, j, none⟩), .int .i64 y] w fun e w' => e = .returned (.int .i64 s) ∧ w.setCell ⟨b, j, none⟩ (.int .i64 s) = w' := by
  have hadd := run_call_add (P := Tryz.prog) (f := 423) (fn := Tryz.f423) (w := w) Tryz.func423 (by kernel_rfl) rfl (by kernel_rfl) .i64 (y := y) (s := s) (by kernel_rfl) hc hz (by subst hs; rfl)
  clear hs
  go_enter Tryz.func359, Tryz.ntmps359
  go_wp2
  go_ret
  exact ⟨rfl, rfl⟩
end Go.Proofs.YtfdbffopcdpfeaaGreatDoor
