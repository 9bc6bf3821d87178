/- Reading a sector. -/
import Derived.Test.YtfdbffopcdpfeaaGreatDoorProg
import Derived.WalkKit
import Derived.WalkSpells
import Derived.WalkLawsBesides
import Derived.Deep.QuietTactic
import Derived.BigQuiet
import Derived.Lib.Hide
import Derived.Deep.RegionHeld3
import Derived.Deep.DrawnRows
import Derived.Deep.AppendLies
import Derived.Deep.RegionLaw
import Derived.Lib.AppendZerosOnto
import Derived.Lib.SlBytesConst
import Derived.Test.YtfdbffopcdpfeaaGreatDoorBase
import Derived.Test.YtfdbffopcdpfeaaGreatDoorDisk
set_option linter.unusedVariables false
set_option linter.unusedSimpArgs false
namespace Go.Proofs.YtfdbffopcdpfeaaGreatDoor
open Go.RowKit
attribute [local go_sem ↓] Go.wp_at_zero Go.wp_at_succ

open Go
theorem sector_info : (Tryz.prog.info? 380).map (·.size) = some 128 := by kernel_rfl
theorem zero_sector_size : Tryz.zeroCells380.size = 128 := by kernel_rfl
theorem thereBlk {w : World} {b : Nat} {cs : Array Value} {t : TypeId} (h : w.heap[b]? = some (.cells cs t (0, 0))) (o n : Nat) (hn : o + n ≤ cs.size) : w.there b o n := fun j hj =>
  ⟨by rw [blkCell h (o + j) (Array.getElem?_eq_getElem (by omega))]; rfl, blkFree h _⟩
theorem sector_all {C : Array Value} (h : ∀ (k : Nat) (v : Value), C[k]? = some v → ∃ i : Int, v = Value.int .u8 i ∧ 0 ≤ i ∧ i ≤ 255) (a b : Nat) : (C.extract a b).all (·.oneCell') = true := by
  rw [Array.all_eq_true_iff_forall_mem]
  intro v hv
  obtain ⟨k, hk, rfl⟩ := Array.mem_iff_getElem.1 hv
  have hk' := hk
  simp only [Array.size_extract] at hk'
  obtain ⟨i, hi, _⟩ := h (a + k) (C.extract a b)[k] (by rw [Array.getElem_extract, Array.getElem?_eq_getElem (by omega)])
  rw [hi]; rfl
set_option maxRecDepth 100000 in
set_option maxHeartbeats 400000 in
theorem disk_Read {w : World} {d g n : Nat} {C : Array Value} {wr sy : Int} (h : DiskAt w d g n C wr sy) (i : Nat) (i1 : i < n) : Calls Tryz.prog 346 #[.pointer (some ⟨d, 0, none⟩), .int .i64 i] w fun e w' => e = .returned (.tuple #[.slice (some ⟨w.heap.size, 0, none⟩) 128 128, .int .i64 0]) ∧
    w'.heap[w.heap.size]? = some (.cells (C.extract (i * 128) (i * 128 + 128)) 380 (0, 0)) ∧ w'.heap.size = w.heap.size + 1 ∧ Below w.heap.size w w' := by
  have h0 := blkCell h.hd 0 rfl
  have h1 := blkCell h.hd 1 rfl
  have h4 := h.lo
  have h5 := h.hi
  have hr := World.rangeAt_of_block h.hg (i * 128) 128
  generalize hX : C.extract (i * 128) (i * 128 + 128) = X at hr ⊢
  have hXs : X.size = 128 := by rw [← hX]; simp [h.size]; omega
  have hXl : X.toList.length = 128 := by simpa using hXs
  have hall : X.all (·.oneCell') = true := by rw [← hX]; exact sector_all h.one _ _
  have hth : (w.alloc (.cells Tryz.zeroCells380 380)).there w.heap.size 0 X.size := thereBlk (blkNew w _) 0 _ (by rw [hXs, zero_sector_size]; omega)
  have hfin := blkSetCells X.toList 0 (blkNew w (.cells Tryz.zeroCells380 380))
  rw [splice_full _ _ (by rw [hXl, zero_sector_size])] at hfin
  have hsz := sizeSetCells X.toList (w.alloc (.cells Tryz.zeroCells380 380)) w.heap.size 0
  rw [sizeAlloc] at hsz
  have hchg := chgSetCells (S := fun _ => False) X.toList (b := w.heap.size) 0 ((Chg.refl (fun _ => False) w).alloc (.cells Tryz.zeroCells380 380)) (.inr (Nat.le_refl _))
  have hd1 : ((w.alloc (.cells Tryz.zeroCells380 380)).setCells w.heap.size 0 X.toList).cell? ⟨d, 1, none⟩ = some (.slice none 0 0) := by
    refine blkCell ((hchg.block d (blkLt h.hd) (fun x => x)).trans h.hd) 1 rfl
  generalize hW : (w.alloc (.cells Tryz.zeroCells380 380)).setCells w.heap.size 0 X.toList = W at hfin hsz hchg hd1
  have HW := Lib.hid hW
  clear hX hW
  go_enter Tryz.func346, Tryz.ntmps346
  have hinf : (Tryz.prog.info? 380).map (·.size) = some X.toList.length := by rw [hXl]; exact sector_info
  go_wp2_with (first | (go_at_call 407; refine (disk_ask h _ (by omega) (by omega)).mono ?_; rintro e w' ⟨rfl, rfl⟩) | (refine wpList_load_mid rfl 380 _ rfl g (i * 128) rfl X.toList _ hr Tryz.underlying380 rfl hinf ?_) | (refine wpList_store_mid rfl 380 _ _ rfl w.heap.size 0 X rfl rfl hth (by rw [hXs]; exact sector_info) hall ?_; rw [HW.out]))
  refine wp_loop_rounds 1 ?_
  rw [rounds_succ]
  go_wp2
  go_ret2
  refine ⟨rfl, ?_, hsz, hchg.below (Nat.le_refl _) (fun _ _ x => x)⟩
  simpa using hfin
end Go.Proofs.YtfdbffopcdpfeaaGreatDoor
