/- The first super is put; no super is read off a new disk. -/
import Derived.Test.YtfdbffopcdpfeaaGreatDoorProg
import Derived.WalkKit
import Derived.WalkSpells
import Derived.WalkLawsBesides
import Derived.Deep.QuietTactic
import Derived.BigQuiet
import Derived.Lib.Hide
import Derived.Deep.RegionHeld3
import Derived.Deep.DrawnRows
import Derived.Deep.AppendLies
import Derived.Deep.RegionLaw
import Derived.Lib.AppendZerosOnto
import Derived.Lib.SlBytesConst
import Derived.Test.YtfdbffopcdpfeaaGreatDoorBase
import Derived.Test.YtfdbffopcdpfeaaGreatDoorDisk
import Derived.Test.YtfdbffopcdpfeaaGreatDoorDisk2
import Derived.Test.YtfdbffopcdpfeaaGreatDoorDisk3
import Derived.Test.YtfdbffopcdpfeaaGreatDoorDisk4
import Derived.Test.YtfdbffopcdpfeaaGreatDoorSums
import Derived.Test.YtfdbffopcdpfeaaGreatDoorSuper
import Derived.Test.YtfdbffopcdpfeaaGreatDoorZero
import Derived.Test.YtfdbffopcdpfeaaGreatDoorSuper2
set_option linter.unusedVariables false
set_option linter.unusedSimpArgs false
namespace Go.Proofs.YtfdbffopcdpfeaaGreatDoor
open Go.RowKit
attribute [local go_sem ↓] Go.wp_at_zero Go.wp_at_succ

open Go
theorem bytes_one {X : Array Value} (h : IsBytes X.toList) : X.all (·.oneCell') = true := by
  rw [Array.all_eq_true_iff_forall_mem]; intro v hv; obtain ⟨i, rfl⟩ := h v (by simpa using hv); rfl
theorem own_range {w : World} {base g n cap : Nat} {xs : List Value} (h : w.ownsRow base 5 1 (.slice (some ⟨g, 0, none⟩) n cap) n xs) : w.rangeAt g 0 xs := fun j v hv => by
  have := h.cells (g := g) rfl j v hv
  rwa [Addr.add_mid] at this
theorem own_cap {w : World} {base g n cap : Nat} {e : TypeId} {size : Nat} {xs : List Value} (h : w.ownsRow base e size (.slice (some ⟨g, 0, none⟩) n cap) n xs) : n ≤ cap := by
  rcases h.2 with ⟨h, _⟩ | ⟨_, _, _, h, _, _, hc, _⟩
  · cases h
  · cases h; exact hc
theorem own_lt' {w : World} {base g n cap : Nat} {e : TypeId} {size : Nat} {xs : List Value} (h : w.ownsRow base e size (.slice (some ⟨g, 0, none⟩) n cap) n xs) : g < w.heap.size := by
  rcases h.2 with ⟨h, _⟩ | ⟨_, _, _, h, _, hh, _⟩
  · cases h
  · cases h; exact blkLt hh
set_option maxHeartbeats 400000 in
theorem super_Put1 {w : World} {d g n : Nat} {C : Array Value} {wr sy : Int} (h : DiskAt w d g n C wr sy) :
    Calls Tryz.prog 295 #[.pointer (some ⟨d, 0, none⟩), .agg #[.int .u64 1, .int .i64 0, .int .i64 0]] w fun e w' => e = .returned (.int .i64 0) ∧ ∃ (ws cw : Nat) (X : Array Value),
    w'.heap[d]? = some (.cells #[.slice (some ⟨g, 0, none⟩) n n, .slice (some ⟨ws, 0, none⟩) 1 cw, .int .i64 (IntKind.i64.wrap (wr + 1)), .int .i64 sy] 147 (0, 0)) ∧
    w'.rangeAt ws 0 (.int .i64 1 :: X.toList) ∧ X.size = 128 ∧ IsBytes X.toList ∧ Chg (· = d) w w' := by
  have hdl := blkLt h.hd
  have h4 := h.lo
  go_enter Tryz.func295, Tryz.ntmps295
  go_wp2_with fail
  refine (Write_1 _).mono ?_
  rintro e w1 ⟨gb, cap, xs, rfl, hO, hby, hB⟩
  have hA : Below w.heap.size w (w.alloc (.cells #[.int .u64 1, .int .i64 0, .int .i64 0] 336)) := (Below.refl _ _).alloc (Nat.le_refl _) _
  have hbx := blkBelow (blkNew w (.cells #[.int .u64 1, .int .i64 0, .int .i64 0] 336)) hB (by simp)
  have hB1 : Below w.heap.size w w1 := hA.trans ⟨hB.os, hB.tape, hB.output, hB.size, fun k hk => hB.block k (by simp; omega)⟩
  have hsz : w.heap.size < w1.heap.size := blkLt hbx
  have c0 : w1.cell? ⟨w.heap.size, 0, none⟩ = some (.int .u64 1) := blkCell hbx 0 rfl
  have c1 : w1.cell? ⟨w.heap.size, 1, none⟩ = some (.int .i64 0) := blkCell hbx 1 rfl
  have c2 : w1.cell? ⟨w.heap.size, 2, none⟩ = some (.int .i64 0) := blkCell hbx 2 rfl
  have hxl : xs.length = 128 := by have := hO.1; simpa using this
  have hgb : w.heap.size < gb := by have := own_base' hO gb rfl; simp at this; omega
  have hd1 := (h.below hB1).below ((Below.refl w1.heap.size w1).alloc (Nat.le_refl _) (.cells #[.int .u64 1, .int .i64 0, .int .i64 0] 336))
  have hO1 := hO.alloc (.cells #[.int .u64 1, .int .i64 0, .int .i64 0] 336)
  go_wp2_with (go_at_call 348; refine (slot_1 _).mono ?_; rintro e w' ⟨rfl, rfl⟩)
  have hw := disk_Write hd1 1 (by omega) gb cap xs.toArray 0 (by simpa using own_range hO1) (by simp [hxl]) (bytes_one (by simpa using hby)) (own_cap hO1) (by omega) (own_lt' hO1)
  refine hw.mono ?_
  rintro e w2 ⟨rfl, ws, cw, h1, h2, h3, h4⟩
  clear hw
  go_wp2
  go_ret
  refine ⟨rfl, ws, cw, xs.toArray, h1, h2, by simp [hxl], by simpa using hby, ?_⟩
  exact (Chg.ofBelow (hB1.alloc (by omega) _)).trans h4
end Go.Proofs.YtfdbffopcdpfeaaGreatDoor
