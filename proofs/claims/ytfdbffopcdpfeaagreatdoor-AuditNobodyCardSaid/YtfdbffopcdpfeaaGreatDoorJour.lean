/- The journal at a start on a new disk. -/
import Derived.Test.YtfdbffopcdpfeaaGreatDoorProg
import Derived.WalkKit
import Derived.WalkSpells
import Derived.WalkLawsBesides
import Derived.Deep.QuietTactic
import Derived.BigQuiet
import Derived.Lib.Hide
import Derived.Deep.RegionHeld3
import Derived.Deep.DrawnRows
import Derived.Deep.AppendLies
import Derived.Deep.RegionLaw
import Derived.Lib.AppendZerosOnto
import Derived.Lib.SlBytesConst
import Derived.Test.YtfdbffopcdpfeaaGreatDoorBase
import Derived.Test.YtfdbffopcdpfeaaGreatDoorSt
import Derived.Test.YtfdbffopcdpfeaaGreatDoorDisk
import Derived.Test.YtfdbffopcdpfeaaGreatDoorDisk2
import Derived.Test.YtfdbffopcdpfeaaGreatDoorDisk3
import Derived.Test.YtfdbffopcdpfeaaGreatDoorDisk4
import Derived.Test.YtfdbffopcdpfeaaGreatDoorSums
import Derived.Test.YtfdbffopcdpfeaaGreatDoorSuper
import Derived.Test.YtfdbffopcdpfeaaGreatDoorZero
import Derived.Test.YtfdbffopcdpfeaaGreatDoorSuper2
import Derived.Test.YtfdbffopcdpfeaaGreatDoorSuper3
import Derived.Test.YtfdbffopcdpfeaaGreatDoorSuper4
set_option linter.unusedVariables false
set_option linter.unusedSimpArgs false
namespace Go.Proofs.YtfdbffopcdpfeaaGreatDoor
open Go.RowKit
attribute [local go_sem ↓] Go.wp_at_zero Go.wp_at_succ

open Go
theorem cellBelow {w w' : World} {a : Addr} {v : Value} (h : w.cell? a = some v) (hb : Below w.heap.size w w') : w'.cell? a = some v := (hb.cell (World.block_lt_of_cell? w _ h)).trans h
theorem area_Halves {w : World} {d g n : Nat} (h : w.cell? ⟨d, 0, none⟩ = some (.slice (some ⟨g, 0, none⟩) n n)) (h4 : 4 ≤ n) (h5 : n ≤ 4096) (k : Nat) (hk : (n - 2) / 2 = k) :
    Calls Tryz.prog 293 #[.pointer (some ⟨d, 0, none⟩)] w fun e w' => e = .returned (.tuple #[.agg #[.int .i64 2, .int .i64 k], .agg #[.int .i64 (2 + (k : Int)), .int .i64 k], .int .i64 0]) ∧
      (w.alloc (.cells #[.int .i64 2, .int .i64 k] 333)).alloc (.cells #[.int .i64 (2 + (k : Int)), .int .i64 k] 333) = w' := by
  have hh := cellBelow h (Below.alloc (Below.alloc (Below.refl _ w) (Nat.le_refl _) (.cells #[.int .i64 0, .int .i64 0] 333)) (by simp) (.cells #[.int .i64 0, .int .i64 0] 333))
  have e2 : IntKind.i64.wrap ((n : Int) - 2) = ((n - 2 : Nat) : Int) := by rw [IntKind.wrap_i64]; omega
  have e3 : ((n - 2 : Nat) : Int).tdiv 2 = k := by rw [← hk]; rfl
  have e3' : ((n - 2 : Nat) : Int) / 2 = k := by rw [← hk]; rfl
  have e4 : IntKind.i64.wrap (k : Int) = k := by rw [IntKind.wrap_i64]; omega
  have e5 : IntKind.i64.wrap (2 + (k : Int)) = 2 + (k : Int) := by rw [IntKind.wrap_i64]; omega
  have e6 : ¬ ((n : Int) = 0) := by omega
  go_enter Tryz.func293, Tryz.ntmps293
  go_wp2_with (go_at_call 82; refine (disk_Sectors' hh).mono ?_; rintro e w' ⟨rfl, rfl⟩)
  refine bodyPost_ret (v := .tuple #[.agg #[.int .i64 2, .int .i64 k], .agg #[.int .i64 (2 + (k : Int)), .int .i64 k], .int .i64 0]) (by simp [results, Tryz.results293, go_sem]) rfl ⟨rfl, rfl⟩
/-- A new journal's cells. -/
def jourCells (d k : Nat) (gen : Int) : Array Value := #[.pointer (some ⟨d, 0, none⟩), .int .i64 2, .int .i64 k, .int .i64 (2 + (k : Int)), .int .i64 k, .int .u64 gen, .int .i64 0, .int .i64 0, .slice none 0 0, .int .i64 0, .int .i64 0, .int .i64 0, .int .i64 0, .int .i64 0, .int .i64 0, .int .i64 0]
theorem journal_made1 {w : World} {d g n : Nat} {C : Array Value} {wr sy : Int} (h : DiskAt w d g n C wr sy) (k : Nat) (hk : (n - 2) / 2 = k) :
    Calls Tryz.prog 285 #[.pointer (some ⟨d, 0, none⟩), .agg #[.int .u64 1, .int .i64 0, .int .i64 0]] w (Made w (.pointer (some ⟨w.heap.size + 5, 0, none⟩)) [(w.heap.size + 5, .cells (jourCells d k 1) 340)] 6) := by
  have hh := cellBelow (blkCell h.hd 0 rfl) (Below.alloc (Below.refl _ w) (Nat.le_refl _) (.cells #[.int .u64 1, .int .i64 0, .int .i64 0] 336))
  go_enter Tryz.func285, Tryz.ntmps285
  go_wp2_with (go_at_call 293; refine (area_Halves hh h.lo h.hi k hk).mono ?_; rintro e w' ⟨rfl, rfl⟩)
  go_ret
  exact madeFrom w _ [.cells #[.int .u64 1, .int .i64 0, .int .i64 0] 336, .cells #[.int .i64 2, .int .i64 k] 333, .cells #[.int .i64 (2 + (k : Int)), .int .i64 k] 333, .cells #[.int .i64 2, .int .i64 k] 333, .cells #[.int .i64 (2 + (k : Int)), .int .i64 k] 333, .cells (jourCells d k 1) 340] rfl (by simp [objsFrom, jourCells])
theorem area_Room (i k : Nat) (h1 : 1 ≤ k) (h2 : k ≤ 4096) (w : World) : Calls Tryz.prog 294 #[.agg #[.int .i64 i, .int .i64 k]] w fun e w' => e = .returned (.int .i64 ((k : Int) * 128)) ∧ w.alloc (.cells #[.int .i64 i, .int .i64 k] 333) = w' := by
  have e1 : IntKind.i64.wrap ((k : Int) * 128) = (k : Int) * 128 := by rw [IntKind.wrap_i64]; omega
  have e2 : ¬ ((k : Int) < 1) := by omega
  have e3 : ¬ (4096 < (k : Int)) := by omega
  go_enter Tryz.func294, Tryz.ntmps294
  go_wp2
  go_ret; exact ⟨rfl, rfl⟩
theorem flush_half {w : World} {d g n : Nat} (h : w.cell? ⟨d, 0, none⟩ = some (.slice (some ⟨g, 0, none⟩) n n)) (h4 : 4 ≤ n) (h5 : n ≤ 4096) (k : Nat) (hk : (n - 2) / 2 = k) :
    Calls Tryz.prog 214 #[.pointer (some ⟨d, 0, none⟩)] w fun e w' => e = .returned (.int .i64 ((k : Int) * 128)) ∧ Below w.heap.size w w' ∧ w'.heap.size = w.heap.size + 5 := by
  go_enter Tryz.func214, Tryz.ntmps214
  go_wp2_with (first | (go_at_call 293; refine (area_Halves h h4 h5 k hk).mono ?_; rintro e w' ⟨rfl, rfl⟩) | (go_at_call 294; refine (area_Room 2 k (by omega) (by omega) _).mono ?_; rintro e w' ⟨rfl, rfl⟩))
  go_ret
  refine ⟨rfl, ?_, ?_⟩
  · (repeat first | assumption | exact Below.refl _ _ | refine Below.drew ?_ | refine Below.alloc ?_ (by first | omega | (simp; done) | (simp; omega) | (simp [*] <;> omega)) _ | refine Below.setCell ?_ (by first | omega | (simp; done) | (simp; omega) | (simp [*] <;> omega)) _)
  · simp
end Go.Proofs.YtfdbffopcdpfeaaGreatDoor
