/- The law's walk. -/
import Derived.Test.YtfdbffopcdpfeaaGreatDoorProg
import Derived.WalkKit
import Derived.WalkSpells
import Derived.WalkLawsBesides
import Derived.Deep.QuietTactic
import Derived.BigQuiet
import Derived.Lib.Hide
import Derived.Deep.RegionHeld3
import Derived.Deep.DrawnRows
import Derived.Deep.AppendLies
import Derived.Deep.RegionLaw
import Derived.Lib.AppendZerosOnto
import Derived.Lib.SlBytesConst
import Derived.Test.YtfdbffopcdpfeaaGreatDoorShelf
import Derived.Test.YtfdbffopcdpfeaaGreatDoorBase
import Derived.Test.YtfdbffopcdpfeaaGreatDoorJour
import Derived.Test.YtfdbffopcdpfeaaGreatDoorWords
import Derived.Test.YtfdbffopcdpfeaaGreatDoorRead
import Derived.Test.YtfdbffopcdpfeaaGreatDoorInts
import Derived.Test.YtfdbffopcdpfeaaGreatDoorLine
import Derived.Test.YtfdbffopcdpfeaaGreatDoorBook
import Derived.Test.YtfdbffopcdpfeaaGreatDoorOks
import Derived.Test.YtfdbffopcdpfeaaGreatDoorReply
import Derived.Test.YtfdbffopcdpfeaaGreatDoorFits
import Derived.Test.YtfdbffopcdpfeaaGreatDoorHear
import Derived.Test.YtfdbffopcdpfeaaGreatDoorHears
import Derived.Test.YtfdbffopcdpfeaaGreatDoorAlive
set_option linter.unusedVariables false
set_option linter.unusedSimpArgs false
namespace Go.Proofs.YtfdbffopcdpfeaaGreatDoor
open Go.RowKit
attribute [local go_sem ↓] Go.wp_at_zero Go.wp_at_succ

open Go
theorem hear_nil (s t : ByteArray) (w : World) : Calls Tryz.prog 6 #[.pointer none, .agg #[.string s, .string t]] w fun e w' => e = .returned (.tuple #[.bool false, .int .i64 6]) ∧ w.alloc (.cells #[.string s, .string t] 23) = w' := by
  go_enter Tryz.func6, Tryz.ntmps6
  go_wp2
  go_ret2; exact ⟨rfl, rfl⟩
theorem hear_zero (b : Nat) (s t : ByteArray) (w : World) (hb : w.cell? ⟨b, 0, none⟩ = some (.bool false)) : Calls Tryz.prog 6 #[.pointer (some ⟨b, 0, none⟩), .agg #[.string s, .string t]] w fun e w' => e = .returned (.tuple #[.bool false, .int .i64 6]) ∧ w.alloc (.cells #[.string s, .string t] 23) = w' := by
  have hb1 := cellBelow hb ((Below.refl _ w).alloc (Nat.le_refl _) (.cells #[.string s, .string t] 23))
  go_enter Tryz.func6, Tryz.ntmps6
  go_wp2
  go_ret2; exact ⟨rfl, rfl⟩
theorem heard_nil (w : World) : Calls Tryz.prog 7 #[.pointer none] w fun e w' => e = .returned (.int .i64 0) ∧ w = w' := by
  go_enter Tryz.func7, Tryz.ntmps7
  go_wp2
  go_ret; exact ⟨rfl, rfl⟩
theorem heard_zero (b : Nat) (w : World) (hb : w.cell? ⟨b, 2, none⟩ = some (.int .i64 0)) : Calls Tryz.prog 7 #[.pointer (some ⟨b, 0, none⟩)] w fun e w' => e = .returned (.int .i64 0) ∧ w = w' := by
  go_enter Tryz.func7, Tryz.ntmps7
  go_wp2
  go_ret; exact ⟨rfl, rfl⟩
set_option maxRecDepth 100000 in
set_option maxHeartbeats 1000000 in
theorem nobody_any (s t : ByteArray) (hs : s.size ≤ 9223372036854775807) (ht : t.size ≤ 9223372036854775807) (w : World) (m : Int) (h0 : w.cell? ⟨0, 0, none⟩ = some (.int .i64 m)) :
    Calls Tryz.prog 3 #[.agg #[.string s, .string t]] w fun e w' => e = .returned (.bool true) ∧ Below w.heap.size w w' := by
  have b0 : ((w.alloc (.cells #[.string s, .string t] 23)).alloc (.cells #[.string s, .string t] 23)).heap[w.heap.size + 1]? = some (.cells #[.string s, .string t] 23 (0, 0)) := by
    have h7 := blkNew (w.alloc (.cells #[.string s, .string t] 23)) (.cells #[.string s, .string t] 23)
    simpa only [sizeAlloc] using h7
  have hB0 : Below w.heap.size w ((w.alloc (.cells #[.string s, .string t] 23)).alloc (.cells #[.string s, .string t] 23)) := by (repeat first | assumption | exact Below.refl _ _ | refine Below.drew ?_ | refine Below.alloc ?_ (by first | omega | (simp; done) | (simp; omega) | (simp [*] <;> omega)) _ | refine Below.setCell ?_ (by first | omega | (simp; done) | (simp; omega) | (simp [*] <;> omega)) _)
  have hG := great_one (w.heap.size + 1) s t _ (blkCell b0 0 rfl) (blkCell b0 1 rfl) hs ht
  clear b0
  go_enter Tryz.func3, Tryz.ntmps3
  go_wp2_with fail
  refine hG.mono ?_
  rintro e w' ⟨r, rfl, rfl⟩
  clear hG
  cases r
  · go_wp2_with fail
    refine (hear_nil s t _).mono ?_
    rintro e w' ⟨rfl, rfl⟩
    have b2 : ((((w.alloc (.cells #[.string s, .string t] 23)).alloc (.cells #[.string s, .string t] 23)).alloc (.cells #[.bool false, .bool false, .int .i64 0, .int .i64 0, .int .i64 0, .int .i64 0, .int .i64 0, .int .i64 0] 30)).alloc (.cells #[.string s, .string t] 23)).heap[w.heap.size + 1 + 1]? = some (.cells #[.bool false, .bool false, .int .i64 0, .int .i64 0, .int .i64 0, .int .i64 0, .int .i64 0, .int .i64 0] 30) := by
      refine blkOld ?_ _
      have h7 := blkNew ((w.alloc (.cells #[.string s, .string t] 23)).alloc (.cells #[.string s, .string t] 23)) (.cells #[.bool false, .bool false, .int .i64 0, .int .i64 0, .int .i64 0, .int .i64 0, .int .i64 0, .int .i64 0] 30)
      simpa only [sizeAlloc] using h7
    have z0 := blkCell b2 0 (v := .bool false) rfl
    go_wp2_with fail
    refine (hear_zero (w.heap.size + 1 + 1) s t _ z0).mono ?_
    rintro e w' ⟨rfl, rfl⟩
    have b3 := blkOld b2 (.cells #[.string s, .string t] 23)
    have hB3 : Below w.heap.size w (((((w.alloc (.cells #[.string s, .string t] 23)).alloc (.cells #[.string s, .string t] 23)).alloc (.cells #[.bool false, .bool false, .int .i64 0, .int .i64 0, .int .i64 0, .int .i64 0, .int .i64 0, .int .i64 0] 30)).alloc (.cells #[.string s, .string t] 23)).alloc (.cells #[.string s, .string t] 23)) := by (repeat first | assumption | exact Below.refl _ _ | refine Below.drew ?_ | refine Below.alloc ?_ (by first | omega | (simp; done) | (simp; omega) | (simp [*] <;> omega)) _ | refine Below.setCell ?_ (by first | omega | (simp; done) | (simp; omega) | (simp [*] <;> omega)) _)
    clear b2 z0 hB0
    have hA := alive_any _ m (cellBelow h0 hB3)
    go_wp2_with fail
    refine hA.mono ?_
    rintro e w1 ⟨rfl, hB1⟩
    have b4 := blkBelow b3 hB1 (blkLt b3)
    have z2 := blkCell b4 2 (v := .int .i64 0) rfl
    clear hA b3 b4
    go_wp2_with fail
    refine (heard_nil _).mono ?_
    rintro e w' ⟨rfl, rfl⟩
    go_wp2_with fail
    refine (heard_zero _ _ z2).mono ?_
    rintro e w' ⟨rfl, rfl⟩
    go_wp2_with fail
    go_ret
    exact ⟨rfl, hB3.trans (hB1.mono hB3.size)⟩
  · have hA := alive_any _ m (cellBelow h0 hB0)
    go_wp2_with fail
    refine hA.mono ?_
    rintro e w1 ⟨rfl, hB1⟩
    go_wp2_with fail
    go_ret
    exact ⟨rfl, hB0.trans (hB1.mono hB0.size)⟩
end Go.Proofs.YtfdbffopcdpfeaaGreatDoor
