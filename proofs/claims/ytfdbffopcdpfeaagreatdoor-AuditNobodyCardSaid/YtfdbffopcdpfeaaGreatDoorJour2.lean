/- The journal at a start on a new disk: it is opened (none is there), and laid. -/
import Derived.Test.YtfdbffopcdpfeaaGreatDoorProg
import Derived.WalkKit
import Derived.WalkSpells
import Derived.WalkLawsBesides
import Derived.Deep.QuietTactic
import Derived.BigQuiet
import Derived.Lib.Hide
import Derived.Deep.RegionHeld3
import Derived.Deep.DrawnRows
import Derived.Deep.AppendLies
import Derived.Deep.RegionLaw
import Derived.Lib.AppendZerosOnto
import Derived.Lib.SlBytesConst
import Derived.Test.YtfdbffopcdpfeaaGreatDoorBase
import Derived.Test.YtfdbffopcdpfeaaGreatDoorSt
import Derived.Test.YtfdbffopcdpfeaaGreatDoorDisk
import Derived.Test.YtfdbffopcdpfeaaGreatDoorDisk2
import Derived.Test.YtfdbffopcdpfeaaGreatDoorDisk3
import Derived.Test.YtfdbffopcdpfeaaGreatDoorDisk4
import Derived.Test.YtfdbffopcdpfeaaGreatDoorSums
import Derived.Test.YtfdbffopcdpfeaaGreatDoorSuper
import Derived.Test.YtfdbffopcdpfeaaGreatDoorZero
import Derived.Test.YtfdbffopcdpfeaaGreatDoorSuper2
import Derived.Test.YtfdbffopcdpfeaaGreatDoorSuper3
import Derived.Test.YtfdbffopcdpfeaaGreatDoorSuper4
import Derived.Test.YtfdbffopcdpfeaaGreatDoorJour
set_option linter.unusedVariables false
set_option linter.unusedSimpArgs false
namespace Go.Proofs.YtfdbffopcdpfeaaGreatDoor
open Go.RowKit
attribute [local go_sem ↓] Go.wp_at_zero Go.wp_at_succ

open Go
theorem journal_Open0 {w : World} {d g n : Nat} {C : Array Value} {wr sy : Int} (h : DiskAt w d g n C wr sy) (hC : ∀ k, k < 256 → C[k]? = some (.int .u8 0)) :
    Calls Tryz.prog 212 #[.pointer (some ⟨d, 0, none⟩)] w fun e w' => e = .returned (.tuple #[.pointer none, .slice none 0 0, .int .i64 4]) ∧ Below w.heap.size w w' := by
  have hB0 : Below w.heap.size w (((w.alloc (.cells #[.pointer none] 230)).alloc (.cells #[.slice none 0 0] 163)).alloc (.cells #[.int .i64 0] 31)) := by (repeat first | assumption | exact Below.refl _ _ | refine Below.drew ?_ | refine Below.alloc ?_ (by first | omega | (simp; done) | (simp; omega) | (simp [*] <;> omega)) _ | refine Below.setCell ?_ (by first | omega | (simp; done) | (simp; omega) | (simp [*] <;> omega)) _)
  go_enter Tryz.func212, Tryz.ntmps212
  go_wp2_with fail
  refine (Newest_0 (h.below hB0) hC).mono ?_
  rintro e w1 ⟨rfl, hB1⟩
  have b2 := blkBelow (blkOld (blkOld (blkNew w (.cells #[.pointer none] 230)) (.cells #[.slice none 0 0] 163)) (.cells #[.int .i64 0] 31)) hB1 (by simp; omega)
  have b3 := blkBelow (blkOld (blkNew (w.alloc (.cells #[.pointer none] 230)) (.cells #[.slice none 0 0] 163)) (.cells #[.int .i64 0] 31)) hB1 (by simp)
  have b4 := blkBelow (blkNew ((w.alloc (.cells #[.pointer none] 230)).alloc (.cells #[.slice none 0 0] 163)) (.cells #[.int .i64 0] 31)) hB1 (by simp)
  simp only [sizeAlloc] at b3 b4
  have c2 := blkCell b2 0 (v := .pointer none) rfl
  have c3 := blkCell b3 0 (v := .slice none 0 0) rfl
  have c4 := blkCell b4 0 (v := .int .i64 0) rfl
  have f2 := blkFree b2 0
  have f3 := blkFree b3 0
  have f4 := blkFree b4 0
  have l2 := blkLt b2
  have l3 := blkLt b3
  have l4 := blkLt b4
  have hB2 : Below w.heap.size w w1 := hB0.trans (hB1.mono (by simp; omega))
  have n2 : w.heap.size ≠ w1.heap.size := by omega
  have n3 : w.heap.size + 1 ≠ w1.heap.size := by omega
  have n4 : w.heap.size + 1 + 1 ≠ w1.heap.size := by omega
  clear hB0 hB1
  go_wp2_with fail
  have r2 := blkCell (blkOld (blkFar (blkFar (blkSet b2 0 (.pointer none)) (by omega : w.heap.size ≠ w.heap.size + 1) 0 (.slice none 0 0)) (by omega : w.heap.size ≠ w.heap.size + 1 + 1) 0 (.int .i64 4)) (.cells #[.int .u64 0, .int .i64 0, .int .i64 0] 336)) 0 (v := .pointer none) rfl
  have r3 := blkCell (blkOld (blkFar (blkSet (blkFar b3 (by omega : w.heap.size + 1 ≠ w.heap.size) 0 (.pointer none)) 0 (.slice none 0 0)) (by omega : w.heap.size + 1 ≠ w.heap.size + 1 + 1) 0 (.int .i64 4)) (.cells #[.int .u64 0, .int .i64 0, .int .i64 0] 336)) 0 (v := .slice none 0 0) rfl
  have r4 := blkCell (blkOld (blkSet (blkFar (blkFar b4 (by omega : w.heap.size + 1 + 1 ≠ w.heap.size) 0 (.pointer none)) (by omega : w.heap.size + 1 + 1 ≠ w.heap.size + 1) 0 (.slice none 0 0)) 0 (.int .i64 4)) (.cells #[.int .u64 0, .int .i64 0, .int .i64 0] 336)) 0 (v := .int .i64 4) rfl
  refine bodyPost_ret (v := .tuple #[.pointer none, .slice none 0 0, .int .i64 4]) (by simp [results, Tryz.results212, go_sem, r2, r3, r4]) rfl ⟨rfl, ?_⟩
  have hs : w.heap.size ≤ (((w1.setCell ⟨w.heap.size, 0, none⟩ (.pointer none)).setCell ⟨w.heap.size + 1, 0, none⟩ (.slice none 0 0)).setCell ⟨w.heap.size + 1 + 1, 0, none⟩ (.int .i64 4)).heap.size := by simp; omega
  exact (((hB2.setCell (by simp) _).setCell (by simp) _).setCell (by simp; omega) _).alloc hs _
set_option maxHeartbeats 400000 in
theorem journal_Format1 {w : World} {d g n : Nat} {C : Array Value} {wr sy : Int} (h : DiskAt w d g n C wr sy) (k : Nat) (hk : (n - 2) / 2 = k) :
    Calls Tryz.prog 215 #[.pointer (some ⟨d, 0, none⟩)] w fun e w' => e = .returned (.tuple #[.pointer (some ⟨w.heap.size + 5, 0, none⟩), .int .i64 0]) ∧ w'.heap[w.heap.size + 5]? = some (.cells (jourCells d k 1) 340 (0, 0)) ∧
      (∃ wr' sy', w'.heap[d]? = some (.cells #[.slice (some ⟨g, 0, none⟩) n n, .slice none 0 0, .int .i64 wr', .int .i64 sy'] 147 (0, 0))) ∧ Chg (fun k => k = d ∨ k = g) w w' := by
  have hdl := blkLt h.hd
  have hgl := blkLt h.hg
  have h4 := h.lo
  go_enter Tryz.func215, Tryz.ntmps215
  go_wp2_with (go_at_call 82; refine (disk_Sectors h).mono ?_; rintro e w' ⟨rfl, rfl⟩)
  refine (journal_made1 h k hk).mono ?_
  rintro e w1 ⟨rfl, hH1, hs1, hB1⟩
  have hj1 := hH1.get (b := w.heap.size + 5) (o := .cells (jourCells d k 1) 340) (by simp)
  have hd1 := h.below hB1
  have c5 : w1.cell? ⟨w.heap.size + 5, 5, none⟩ = some (.int .u64 1) := blkCell hj1 5 rfl
  have c6 : w1.cell? ⟨w.heap.size + 5, 6, none⟩ = some (.int .i64 0) := blkCell hj1 6 rfl
  have c7 : w1.cell? ⟨w.heap.size + 5, 7, none⟩ = some (.int .i64 0) := blkCell hj1 7 rfl
  go_wp2_with fail
  refine (super_Put1 hd1).mono ?_
  rintro e w2 ⟨rfl, ws, cw, X, hd2, hr2, hX, hby, hC2⟩
  have hj2 := (hC2.block _ (blkLt hj1) (by omega)).trans hj1
  have hg2 := (hC2.block _ (blkLt hd1.hg) (fun e => h.ne e.symm)).trans hd1.hg
  clear c5 c6 c7
  go_wp2_with fail
  refine (disk_Sync1 (i := 1) hd2 hg2 h.size (by omega) h4 h.hi hX hr2 h.ne hby.one).mono ?_
  rintro e w3 ⟨rfl, hd3, hg3, hC3⟩
  have hj3 := (hC3.block _ (blkLt hj2) (by omega)).trans hj2
  go_wp2_with fail
  go_ret2
  refine ⟨rfl, hj3, ⟨_, _, hd3⟩, ?_⟩
  exact ((Chg.ofBelow hB1).trans (hC2.mono (fun k _ hk => .inl hk))).trans hC3
end Go.Proofs.YtfdbffopcdpfeaaGreatDoor
