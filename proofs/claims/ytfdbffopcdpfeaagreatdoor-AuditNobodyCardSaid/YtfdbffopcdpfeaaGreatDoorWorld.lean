/- A new desk's world, and what the lines do to it. -/
import Derived.MapKept
import Derived.Test.YtfdbffopcdpfeaaGreatDoorProg
import Derived.WalkKit
import Derived.WalkSpells
import Derived.WalkLawsBesides
import Derived.Deep.QuietTactic
import Derived.BigQuiet
import Derived.Lib.Hide
import Derived.Deep.RegionHeld3
import Derived.Deep.DrawnRows
import Derived.Deep.AppendLies
import Derived.Deep.RegionLaw
import Derived.Lib.AppendZerosOnto
import Derived.Lib.SlBytesConst
import Derived.Test.YtfdbffopcdpfeaaGreatDoorBase
import Derived.Test.YtfdbffopcdpfeaaGreatDoorSt
import Derived.Test.YtfdbffopcdpfeaaGreatDoorDisk
import Derived.Test.YtfdbffopcdpfeaaGreatDoorDisk2
import Derived.Test.YtfdbffopcdpfeaaGreatDoorDisk3
import Derived.Test.YtfdbffopcdpfeaaGreatDoorDisk4
import Derived.Test.YtfdbffopcdpfeaaGreatDoorSums
import Derived.Test.YtfdbffopcdpfeaaGreatDoorSuper
import Derived.Test.YtfdbffopcdpfeaaGreatDoorZero
import Derived.Test.YtfdbffopcdpfeaaGreatDoorSuper2
import Derived.Test.YtfdbffopcdpfeaaGreatDoorSuper3
import Derived.Test.YtfdbffopcdpfeaaGreatDoorSuper4
import Derived.Test.YtfdbffopcdpfeaaGreatDoorJour
import Derived.Test.YtfdbffopcdpfeaaGreatDoorJour2
import Derived.Test.YtfdbffopcdpfeaaGreatDoorFlush
import Derived.Test.YtfdbffopcdpfeaaGreatDoorBoot
set_option linter.unusedVariables false
set_option linter.unusedSimpArgs false
namespace Go.Proofs.YtfdbffopcdpfeaaGreatDoor
open Go.RowKit
attribute [local go_sem ↓] Go.wp_at_zero Go.wp_at_succ

open Go
/-- A world that is new. -/
structure WorldAt (w : World) (W D M : Nat) : Prop where
  wd : ∃ d H : Nat, w.heap[W]? = some (.cells #[.pointer (some ⟨D, 0, none⟩), .pointer (some ⟨d, 0, none⟩), .bool true, .int .u64 7, .int .u64 0, .string ⟨#[]⟩, .string ⟨#[]⟩, .pointer (some ⟨H, 0, none⟩), .int .i64 0, .slice none 0 0] 93 (0, 0))
  dm : DaemonAt w D M
theorem WorldAt.below {w w' : World} {W D M : Nat} (h : WorldAt w W D M) (hb : Below w.heap.size w w') : WorldAt w' W D M :=
  ⟨by obtain ⟨d, H, hd⟩ := h.wd; exact ⟨d, H, blkBelow hd hb (blkLt hd)⟩, h.dm.below hb⟩
theorem desk_self (w : World) : Calls Tryz.prog 29 #[] w fun e w' => e = .returned (.agg #[.bool true, .int .u64 7, .int .u64 0, .string ⟨#[]⟩, .string ⟨#[]⟩]) ∧ w.alloc (.cells #[.bool true, .int .u64 7, .int .u64 0, .string ⟨#[]⟩, .string ⟨#[]⟩] 63) = w' := by
  go_enter Tryz.func29, Tryz.ntmps29
  go_wp2
  refine bodyPost_ret (v := .agg #[.bool true, .int .u64 7, .int .u64 0, .string ⟨#[]⟩, .string ⟨#[]⟩]) (by simp [results, Tryz.results29, go_sem]) rfl ⟨rfl, rfl⟩
theorem world_New (w : World) : Calls Tryz.prog 28 #[.int .i64 100, .agg #[.bool true, .int .u64 7, .int .u64 0, .string ⟨#[]⟩, .string ⟨#[]⟩]] w fun e w' => ∃ W D M, e = .returned (.tuple #[.pointer (some ⟨W, 0, none⟩), .int .i64 0]) ∧ WorldAt w' W D M ∧ w.heap.size ≤ W ∧ w.heap.size ≤ D ∧ w.heap.size ≤ M ∧ D ≠ M ∧ Below w.heap.size w w' := by
  have hB0 : Below w.heap.size w (w.alloc (.cells #[.bool true, .int .u64 7, .int .u64 0, .string ⟨#[]⟩, .string ⟨#[]⟩] 63)) := by (repeat first | assumption | exact Below.refl _ _ | refine Below.drew ?_ | refine Below.alloc ?_ (by first | omega | (simp; done) | (simp; omega) | (simp [*] <;> omega)) _ | refine Below.setCell ?_ (by first | omega | (simp; done) | (simp; omega) | (simp [*] <;> omega)) _)
  have b0 := blkNew w (.cells #[.bool true, .int .u64 7, .int .u64 0, .string ⟨#[]⟩, .string ⟨#[]⟩] 63)
  go_enter Tryz.func28, Tryz.ntmps28
  go_wp2_with fail
  refine (disk_New 100 _ (by omega) (by omega)).mono ?_
  rintro e w1 ⟨rfl, hd1, hs1, hB1⟩
  simp only [sizeAlloc] at hd1 hs1
  have hB01 : Below w.heap.size w w1 := hB0.trans (hB1.mono (by simp))
  have b1 := blkBelow b0 hB1 (by simp)
  have c0 := blkCell b1 0 (v := .bool true) rfl
  have c1 := blkCell b1 1 (v := .int .u64 7) rfl
  have c2 := blkCell b1 2 (v := .int .u64 0) rfl
  have c3 := blkCell b1 3 (v := .string ⟨#[]⟩) rfl
  have c4 := blkCell b1 4 (v := .string ⟨#[]⟩) rfl
  clear hB0 hB1 b0
  go_wp2_with fail
  refine (boot_Start hd1 (fun k hk => by rw [Array.getElem?_replicate, if_pos (by omega)]) 49 rfl).mono ?_
  rintro e w2 ⟨D, M, rfl, hD, hD1, hM1, hne, hC2⟩
  have b2 := (hC2.block _ (blkLt b1) (by omega)).trans b1
  have hB02 : Below w.heap.size w w2 := hB01.trans (hC2.below (by omega) (fun k hk => by omega))
  have hs2 := hC2.size
  clear hd1 hC2 hB01 c0 c1 c2 c3 c4
  have c0 := blkCell b2 0 (v := .bool true) rfl
  have c1 := blkCell b2 1 (v := .int .u64 7) rfl
  have c2 := blkCell b2 2 (v := .int .u64 0) rfl
  have c3 := blkCell b2 3 (v := .string ⟨#[]⟩) rfl
  have c4 := blkCell b2 4 (v := .string ⟨#[]⟩) rfl
  have hl2 := blkLt b2
  have hl3 : w.heap.size ≠ w2.heap.size := by omega
  have hl4 : w.heap.size ≠ w2.heap.size + 1 := by omega
  go_wp2_with fail
  go_region_held3 (fun X : World => X.cell? ⟨w.heap.size, 0, none⟩ = some (.bool true) ∧ X.cell? ⟨w.heap.size, 1, none⟩ = some (.int .u64 7) ∧ X.cell? ⟨w.heap.size, 2, none⟩ = some (.int .u64 0) ∧ X.cell? ⟨w.heap.size, 3, none⟩ = some (.string ⟨#[]⟩) ∧ X.cell? ⟨w.heap.size, 4, none⟩ = some (.string ⟨#[]⟩)) (go_keep) (first | (go_at_call 43; refine (history_New _).mono ?_; rintro e w' ⟨rfl, rfl⟩))
  all_goals
    go_wp2_with fail
    go_ret2
    refine ⟨w2.heap.size + 1, D, M, rfl, ⟨⟨w.heap.size + 1 + 1, w2.heap.size, ?_⟩, hD.below ?_⟩, by omega, by omega, by omega, hne, ?_⟩
    · show ((w2.alloc _).alloc _).heap[w2.heap.size + 1]? = _
      simp only [heapAlloc, sizeAlloc]; simp
    · (repeat first | assumption | exact Below.refl _ _ | refine Below.drew ?_ | refine Below.alloc ?_ (by first | omega | (simp; done) | (simp; omega) | (simp [*] <;> omega)) _ | refine Below.setCell ?_ (by first | omega | (simp; done) | (simp; omega) | (simp [*] <;> omega)) _)
    · (repeat first | assumption | exact Below.refl _ _ | refine Below.drew ?_ | refine Below.alloc ?_ (by first | omega | (simp; done) | (simp; omega) | (simp [*] <;> omega)) _ | refine Below.setCell ?_ (by first | omega | (simp; done) | (simp; omega) | (simp [*] <;> omega)) _)
theorem desk_New (w : World) : Calls Tryz.prog 16 #[] w fun e w' => ∃ d W D M, e = .returned (.pointer (some ⟨d, 0, none⟩)) ∧ w'.heap[d]? = some (.cells #[.pointer (some ⟨W, 0, none⟩)] 66 (0, 0)) ∧ WorldAt w' W D M ∧ w.heap.size ≤ d ∧ w.heap.size ≤ W ∧ w.heap.size ≤ D ∧ w.heap.size ≤ M ∧ D ≠ M ∧ Below w.heap.size w w' := by
  go_enter Tryz.func16, Tryz.ntmps16
  go_wp2_with (go_at_call 29; refine (desk_self _).mono ?_; rintro e w' ⟨rfl, rfl⟩)
  refine (world_New _).mono ?_
  rintro e w1 ⟨W, D, M, rfl, hW, h1, h2, h3, hne, hB⟩
  simp only [sizeAlloc] at h1 h2 h3
  have hB1 : Below w.heap.size w w1 := ((Below.refl w.heap.size w).alloc (Nat.le_refl _) _).trans (hB.mono (by simp))
  have hs := hB1.size
  go_wp2_with fail
  go_ret
  refine ⟨w1.heap.size, W, D, M, rfl, blkNew _ _, hW.below ?_, hs, by omega, by omega, by omega, hne, ?_⟩
  · (repeat first | assumption | exact Below.refl _ _ | refine Below.drew ?_ | refine Below.alloc ?_ (by first | omega | (simp; done) | (simp; omega) | (simp [*] <;> omega)) _ | refine Below.setCell ?_ (by first | omega | (simp; done) | (simp; omega) | (simp [*] <;> omega)) _)
  · (repeat first | assumption | exact Below.refl _ _ | refine Below.drew ?_ | refine Below.alloc ?_ (by first | omega | (simp; done) | (simp; omega) | (simp [*] <;> omega)) _ | refine Below.setCell ?_ (by first | omega | (simp; done) | (simp; omega) | (simp [*] <;> omega)) _)
theorem world_daemon {w : World} {W D M : Nat} (h : WorldAt w W D M) : Calls Tryz.prog 95 #[.pointer (some ⟨W, 0, none⟩)] w fun e w' => e = .returned (.pointer (some ⟨D, 0, none⟩)) ∧ w = w' := by
  obtain ⟨d, H, hw⟩ := h.wd
  have c0 := blkCell hw 0 (v := .pointer (some ⟨D, 0, none⟩)) rfl
  go_enter Tryz.func95, Tryz.ntmps95
  go_wp2; go_ret; exact ⟨rfl, rfl⟩
theorem world_Daemon {w : World} {W D M : Nat} (h : WorldAt w W D M) : Calls Tryz.prog 125 #[.pointer (some ⟨W, 0, none⟩)] w fun e w' => e = .returned (.pointer (some ⟨D, 0, none⟩)) ∧ w = w' := by
  go_enter Tryz.func125, Tryz.ntmps125
  go_wp2_with (go_at_call 95; refine (world_daemon h).mono ?_; rintro e w' ⟨rfl, rfl⟩)
  go_ret; exact ⟨rfl, rfl⟩
theorem und_int : Tryz.prog.underlying 3 = some (.int .i64) := Tryz.underlying3
theorem check_int (w : World) (e : Bool) (n : Int) : (Instr.checkKey e 10000 3 (.int .i64 n)).run Tryz.prog w = .ok () w := MapKept.run_checkKey und_int (show MapKept.IsKey (.int .i64) (.int .i64 n) from rfl) e 9999
theorem find_int (w : World) (n : Int) : (Instr.findKey 3 (.int .i64 n) []).run Tryz.prog w = .ok none w := MapKept.run_findKey und_int (show Instr.findNow (.int .i64) (.int .i64 n) [] 0 = some none from rfl)
theorem map_lookup0 {w : World} {M : Nat} (hm : w.heap[M]? = some (.map #[] 0)) (n : Int) : (Instr.lookup 244 (.map (some M)) (.int .i64 n) false).run Tryz.prog w = .ok (.pointer none) w := by
  have hz : (zeroValue 249).run Tryz.prog w = .ok (.pointer none) w := by simp [go_sem]
  unfold Instr.lookup
  simp only [Sem.run_bind, run_underlying Tryz.underlying244, Result.andThen_ok, MapKept.run_getObj_map hm, Sem.run_pure, check_int, find_int, hz]
  rfl
theorem map_put0 {w : World} {M : Nat} (hm : w.heap[M]? = some (.map #[] 0)) (n : Int) (v : Value) : (Instr.mapUpdate 244 (.map (some M)) (.int .i64 n) v).run Tryz.prog w = .ok () { w with heap := w.heap.setIfInBounds M (.map #[{ key := .int .i64 n, val := v, born := 0 }] 1) } := by
  unfold Instr.mapUpdate
  simp only [Sem.run_bind, run_underlying Tryz.underlying244, Result.andThen_ok, MapKept.run_getObj_map hm, Sem.run_pure, check_int, find_int, MapKept.run_setObj_map _ hm]
  rfl
set_option maxRecDepth 10000 in
theorem daemon_made {w : World} {D M : Nat} (h : DaemonAt w D M) : Calls Tryz.prog 161 #[.pointer (some ⟨D, 0, none⟩)] w fun e w' => e = .returned (.bool true) ∧ w = w' := by
  obtain ⟨L, Q, hd⟩ := h.dm
  have c1 := blkCell hd 1 (v := .map (some M)) rfl
  have hne := run_neq_map_nil w 244 _ _ (some M) Tryz.underlying244
  go_enter Tryz.func161, Tryz.ntmps161
  go_wp2; go_ret; exact ⟨rfl, rfl⟩
theorem daemon_Now {w : World} {D M : Nat} (h : DaemonAt w D M) : Calls Tryz.prog 127 #[.pointer (some ⟨D, 0, none⟩)] w fun e w' => e = .returned (.int .u64 0) ∧ w = w' := by
  obtain ⟨L, Q, hd⟩ := h.dm
  have c1 := blkCell hd 4 (v := .int .u64 0) rfl
  go_enter Tryz.func127, Tryz.ntmps127
  go_wp2; go_ret; exact ⟨rfl, rfl⟩
set_option maxRecDepth 10000 in
theorem daemon_find {w : World} {D M : Nat} (h : DaemonAt w D M) (n : Int) : Calls Tryz.prog 165 #[.pointer (some ⟨D, 0, none⟩), .int .i64 n] w fun e w' => e = .returned (.tuple #[.pointer none, .int .i64 4]) ∧ w = w' := by
  obtain ⟨L, Q, hd⟩ := h.dm
  have c1 := blkCell hd 1 (v := .map (some M)) rfl
  have hm := h.mp
  have hrun := map_lookup0 hm n
  go_enter Tryz.func165, Tryz.ntmps165
  go_wp2_with (go_at_call 161; refine (daemon_made h).mono ?_; rintro e w' ⟨rfl, rfl⟩)
  go_ret2; exact ⟨rfl, rfl⟩
theorem daemon_Tick {w : World} {D M : Nat} (h : DaemonAt w D M) : Calls Tryz.prog 117 #[.pointer (some ⟨D, 0, none⟩), .int .u64 5] w fun e w' => e = .returned (.int .i64 0) ∧ w.setCell ⟨D, 4, none⟩ (.int .u64 5) = w' := by
  obtain ⟨L, Q, hd⟩ := h.dm
  have c1 := blkCell hd 4 (v := .int .u64 0) rfl
  have f1 := blkFree hd 4
  go_enter Tryz.func117, Tryz.ntmps117
  go_wp2_with (go_at_call 161; refine (daemon_made h).mono ?_; rintro e w' ⟨rfl, rfl⟩)
  go_ret; exact ⟨rfl, rfl⟩
theorem conn_New (w : World) : Calls Tryz.prog 162 #[] w fun e w' => e = .returned (.pointer (some ⟨w.heap.size + 1, 0, none⟩)) ∧ Below w.heap.size w w' := by
  go_enter Tryz.func162, Tryz.ntmps162
  go_wp2_with (go_at_call 233; refine (frame_New _).mono ?_; rintro e w' ⟨rfl, rfl⟩)
  go_ret
  refine ⟨rfl, ?_⟩
  (repeat first | assumption | exact Below.refl _ _ | refine Below.drew ?_ | refine Below.alloc ?_ (by first | omega | (simp; done) | (simp; omega) | (simp [*] <;> omega)) _ | refine Below.setCell ?_ (by first | omega | (simp; done) | (simp; omega) | (simp [*] <;> omega)) _)
end Go.Proofs.YtfdbffopcdpfeaaGreatDoor
