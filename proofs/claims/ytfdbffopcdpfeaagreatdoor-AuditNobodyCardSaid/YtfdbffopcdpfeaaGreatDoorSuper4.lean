/- No super is read off a new disk. -/
import Derived.Test.YtfdbffopcdpfeaaGreatDoorProg
import Derived.WalkKit
import Derived.WalkSpells
import Derived.WalkLawsBesides
import Derived.Deep.QuietTactic
import Derived.BigQuiet
import Derived.Lib.Hide
import Derived.Deep.RegionHeld3
import Derived.Deep.DrawnRows
import Derived.Deep.AppendLies
import Derived.Deep.RegionLaw
import Derived.Lib.AppendZerosOnto
import Derived.Lib.SlBytesConst
import Derived.Test.YtfdbffopcdpfeaaGreatDoorBase
import Derived.Test.YtfdbffopcdpfeaaGreatDoorDisk
import Derived.Test.YtfdbffopcdpfeaaGreatDoorDisk2
import Derived.Test.YtfdbffopcdpfeaaGreatDoorDisk3
import Derived.Test.YtfdbffopcdpfeaaGreatDoorDisk4
import Derived.Test.YtfdbffopcdpfeaaGreatDoorSums
import Derived.Test.YtfdbffopcdpfeaaGreatDoorSuper
import Derived.Test.YtfdbffopcdpfeaaGreatDoorZero
import Derived.Test.YtfdbffopcdpfeaaGreatDoorSuper2
import Derived.Test.YtfdbffopcdpfeaaGreatDoorSuper3
set_option linter.unusedVariables false
set_option linter.unusedSimpArgs false
namespace Go.Proofs.YtfdbffopcdpfeaaGreatDoor
open Go.RowKit
attribute [local go_sem ↓] Go.wp_at_zero Go.wp_at_succ

open Go
theorem get_0 (b o n cap : Nat) (w : World) (hn : n ≤ 1000) (hc : ∀ k, k < n → w.cell? ⟨b, o + k, none⟩ = some (.int .u8 0)) :
    Calls Tryz.prog 408 #[.slice (some ⟨b, o, none⟩) n cap] w fun e w' => e = .returned (.int .u64 0) ∧ w = w' := by
  go_enter Tryz.func408, Tryz.ntmps408
  go_wp2
  go_loop [3, 5, 8] (fun s _ i => s = .int .u64 0 ∧ ∃ (k : Nat), k ≤ n ∧ i = .int .i64 k) (fun _ _ i => n - (intOf i).toNat)
  case atStart => exact ⟨rfl, 0, by omega, rfl⟩
  case round =>
    obtain ⟨rfl, k, hk, rfl⟩ := hrel
    by_cases hlt : k < n
    · have hck := hc k hlt
      go_wp2
      go_round
      case rel => exact ⟨by go_num, k + 1, by omega, by go_num⟩
      case measure => simp [intOf]; omega
    · go_wp2
      go_ret; exact ⟨rfl, rfl⟩
set_option maxHeartbeats 400000 in
theorem Read_0 (b : Nat) (w : World) (hc : ∀ k, k < 128 → w.cell? ⟨b, k, none⟩ = some (.int .u8 0)) :
    Calls Tryz.prog 347 #[.slice (some ⟨b, 0, none⟩) 128 128] w fun e w' => e = .returned (.tuple #[.agg #[.int .u64 0, .int .i64 0, .int .i64 0], .int .i64 3]) ∧ Below w.heap.size w w' := by
  have hbl : b < w.heap.size := World.block_lt_of_cell? w _ (hc 0 (by omega))
  have h12 := hc 12 (by omega)
  have hg : ∀ (o m cap : Nat), o + m ≤ 128 → ∀ W : World, Below w.heap.size w W → Calls Tryz.prog 408 #[.slice (some ⟨b, o, none⟩) m cap] W fun e w' => e = .returned (.int .u64 0) ∧ W = w' := fun o m cap ho W hB =>
    get_0 b o m cap W (by omega) (fun k hk => (hB.cell (p := ⟨b, o + k, none⟩) hbl).trans (hc _ (by omega)))
  have Hg := Lib.hid hg
  clear hg hc
  go_enter Tryz.func347, Tryz.ntmps347
  go_wp2_with fail
  have hB0 : Below w.heap.size w (w.alloc (.cells #[.int .u64 0, .int .i64 0, .int .i64 0] 336)) := (Below.refl _ _).alloc (Nat.le_refl _) _
  go_region_held3 (fun W : World => Below w.heap.size w W ∧ w.heap.size < W.heap.size ∧ W.cell? ⟨b, 12, none⟩ = some (.int .u8 0)) (refine ⟨?_, ?_, ?_⟩ <;> first | ((repeat first | assumption | exact Below.refl _ _ | refine Below.drew ?_ | refine Below.alloc ?_ (by first | omega | (simp; done) | (simp; omega) | (simp [*] <;> omega)) _ | refine Below.setCell ?_ (by first | omega | (simp; done) | (simp; omega) | (simp [*] <;> omega)) _); done) | (go_keep; done) | (simp; omega)) (first | (go_at_call 408; refine (Hg.out _ _ _ (by omega) _ (by first | assumption | (repeat first | assumption | exact Below.refl _ _ | refine Below.drew ?_ | refine Below.alloc ?_ (by first | omega | (simp; done) | (simp; omega) | (simp [*] <;> omega)) _ | refine Below.setCell ?_ (by first | omega | (simp; done) | (simp; omega) | (simp [*] <;> omega)) _))).mono ?_; rintro e w' ⟨rfl, rfl⟩))
  all_goals
    go_wp2_with (go_at_call 357; refine (Write_0 _).mono ?_; rintro e w' ⟨rfl, rfl⟩)
    refine bodyPost_ret (v := .tuple #[.agg #[.int .u64 0, .int .i64 0, .int .i64 0], .int .i64 3]) (by simp [results, Tryz.results347, go_sem]) rfl ⟨rfl, ?_⟩
    (repeat first | assumption | exact Below.refl _ _ | refine Below.drew ?_ | refine Below.alloc ?_ (by first | omega | (simp; done) | (simp; omega) | (simp [*] <;> omega)) _ | refine Below.setCell ?_ (by first | omega | (simp; done) | (simp; omega) | (simp [*] <;> omega)) _)
theorem zcells {w : World} {b i : Nat} {C : Array Value} {t : TypeId} (hb : w.heap[b]? = some (.cells (C.extract (i * 128) (i * 128 + 128)) t (0, 0))) (hs : i * 128 + 128 ≤ C.size) (hC : ∀ k, k < 128 → C[i * 128 + k]? = some (.int .u8 0)) :
    ∀ k, k < 128 → w.cell? ⟨b, k, none⟩ = some (.int .u8 0) := fun k hk => blkCell hb k (by rw [Array.getElem?_extract, if_pos (by omega)]; exact hC k hk)
set_option maxRecDepth 100000 in
set_option maxHeartbeats 1000000 in
theorem Newest_0 {w : World} {d g n : Nat} {C : Array Value} {wr sy : Int} (h : DiskAt w d g n C wr sy) (hC : ∀ k, k < 256 → C[k]? = some (.int .u8 0)) :
    Calls Tryz.prog 284 #[.pointer (some ⟨d, 0, none⟩)] w fun e w' => e = .returned (.tuple #[.agg #[.int .u64 0, .int .i64 0, .int .i64 0], .int .i64 4]) ∧ Below w.heap.size w w' := by
  have h4 := h.lo
  go_enter Tryz.func284, Tryz.ntmps284
  go_wp2_with fail
  refine wp_loop_rounds 3 ?_
  rw [rounds_succ]
  have hB0 : Below w.heap.size w ((w.alloc (.cells #[.int .u64 0, .int .i64 0, .int .i64 0] 336)).alloc (.cells #[.int .u64 0, .int .i64 0, .int .i64 0] 336)) := by (repeat first | assumption | exact Below.refl _ _ | refine Below.drew ?_ | refine Below.alloc ?_ (by first | omega | (simp; done) | (simp; omega) | (simp [*] <;> omega)) _ | refine Below.setCell ?_ (by first | omega | (simp; done) | (simp; omega) | (simp [*] <;> omega)) _)
  have h0 := h.below hB0
  go_wp2_with fail
  refine (disk_Read h0 0 (by omega)).mono ?_
  rintro e w1 ⟨rfl, hb1, hs1, hB1⟩
  have h1 := h0.below hB1
  simp only [sizeAlloc] at hb1
  have hz1 := Read_0 _ _ (zcells hb1 (by rw [h.size]; omega) (fun k hk => hC _ (by omega)))
  have hb4 : ((w.alloc (.cells #[.int .u64 0, .int .i64 0, .int .i64 0] 336)).alloc (.cells #[.int .u64 0, .int .i64 0, .int .i64 0] 336)).heap[w.heap.size + 1]? = some (.cells #[.int .u64 0, .int .i64 0, .int .i64 0] 336 (0, 0)) := by simpa [sizeAlloc] using blkNew (w.alloc (.cells #[.int .u64 0, .int .i64 0, .int .i64 0] 336)) (.cells #[.int .u64 0, .int .i64 0, .int .i64 0] 336)
  have hb2 : ((w.alloc (.cells #[.int .u64 0, .int .i64 0, .int .i64 0] 336)).alloc (.cells #[.int .u64 0, .int .i64 0, .int .i64 0] 336)).heap[w.heap.size]? = some (.cells #[.int .u64 0, .int .i64 0, .int .i64 0] 336 (0, 0)) := blkOld (blkNew _ _) _
  have hb41 := blkBelow hb4 hB1 (by simp)
  have hb21 := blkBelow hb2 hB1 (by simp; omega)
  have hB01 : Below w.heap.size w w1 := hB0.trans (hB1.mono (by simp; omega))
  clear hb4 hb2 hB1 h0 hB0
  have hl1 := blkLt hb41
  go_wp2_with fail
  refine hz1.mono ?_
  rintro e w2 ⟨rfl, hB2⟩
  have h2 := h1.below hB2
  have hb42 := blkBelow hb41 hB2 hl1
  have hb22 := blkBelow hb21 hB2 (by omega)
  have hB02 : Below w.heap.size w w2 := hB01.trans (hB2.mono (by omega))
  have hs2 := hB2.size
  clear hz1 hb1 hb41 hb21 hB2 hB01 h1
  have hB03 : Below w.heap.size w (w2.alloc (.cells #[.int .u64 0, .int .i64 0, .int .i64 0] 336)) := hB02.alloc (by omega) _
  have h3 := h2.below ((Below.refl w2.heap.size w2).alloc (Nat.le_refl _) (.cells #[.int .u64 0, .int .i64 0, .int .i64 0] 336))
  have hb43 := blkOld hb42 (.cells #[.int .u64 0, .int .i64 0, .int .i64 0] 336)
  have hb23 := blkOld hb22 (.cells #[.int .u64 0, .int .i64 0, .int .i64 0] 336)
  have hl3 := blkLt hb43
  go_wp2_with fail
  rw [rounds_succ]
  go_wp2_with fail
  refine (disk_Read h3 1 (by omega)).mono ?_
  rintro e w4 ⟨rfl, hb4, hs4, hB4⟩
  have h4 := h3.below hB4
  simp only [sizeAlloc] at hb4
  have hz4 := Read_0 _ _ (zcells hb4 (by rw [h.size]; omega) (fun k hk => hC _ (by omega)))
  have hb44 := blkBelow hb43 hB4 hl3
  have hb24 := blkBelow hb23 hB4 (by omega)
  have hB04 : Below w.heap.size w w4 := hB03.trans (hB4.mono (by simp; omega))
  have hl4 := blkLt hb44
  go_wp2_with fail
  refine hz4.mono ?_
  rintro e w5 ⟨rfl, hB5⟩
  have hb45 := blkBelow hb44 hB5 hl4
  have hb25 := blkBelow hb24 hB5 (by omega)
  have hB05 : Below w.heap.size w w5 := hB04.trans (hB5.mono (by omega))
  have hs5 := hB5.size
  clear hz4 hb4 hb44 hb24 hB5 hB04 hb43 hb23 hb42 hb22 hB03 hB02 h3 h2 h4 hB4
  have c0 := blkCell hb45 0 (v := .int .u64 0) rfl
  have c1 := blkCell hb45 1 (v := .int .i64 0) rfl
  have c2 := blkCell hb45 2 (v := .int .i64 0) rfl
  have c3 := blkFree hb25 0
  have c4 := blkFree hb25 1
  have c5 := blkFree hb25 2
  have c6 := blkCell hb25 0 (v := .int .u64 0) rfl
  have c7 := blkCell hb25 1 (v := .int .i64 0) rfl
  have c8 := blkCell hb25 2 (v := .int .i64 0) rfl
  have hl5 := blkLt hb45
  have hl6 := blkLt hb25
  have hl7 : w.heap.size ≠ w5.heap.size := by omega
  go_wp2_with fail
  rw [rounds_succ]
  go_wp2_with fail
  have hX := blkOld (blkSet (blkSet (blkSet hb25 0 (.int .u64 0)) 1 (.int .i64 0)) 2 (.int .i64 0)) (.cells #[.int .u64 0, .int .i64 0, .int .i64 0] 336)
  have r0 := blkCell hX 0 (v := .int .u64 0) rfl
  have r1 := blkCell hX 1 (v := .int .i64 0) rfl
  have r2 := blkCell hX 2 (v := .int .i64 0) rfl
  refine bodyPost_ret (v := .tuple #[.agg #[.int .u64 0, .int .i64 0, .int .i64 0], .int .i64 4]) (by simp [results, Tryz.results284, go_sem, r0, r1, r2]) rfl ⟨rfl, ?_⟩
  (repeat first | assumption | exact Below.refl _ _ | refine Below.drew ?_ | refine Below.alloc ?_ (by first | omega | (simp; done) | (simp; omega) | (simp [*] <;> omega)) _ | refine Below.setCell ?_ (by first | omega | (simp; done) | (simp; omega) | (simp [*] <;> omega)) _)
end Go.Proofs.YtfdbffopcdpfeaaGreatDoor
