/- A start on a new disk. -/
import Derived.Test.YtfdbffopcdpfeaaGreatDoorProg
import Derived.WalkKit
import Derived.WalkSpells
import Derived.WalkLawsBesides
import Derived.Deep.QuietTactic
import Derived.BigQuiet
import Derived.Lib.Hide
import Derived.Deep.RegionHeld3
import Derived.Deep.DrawnRows
import Derived.Deep.AppendLies
import Derived.Deep.RegionLaw
import Derived.Lib.AppendZerosOnto
import Derived.Lib.SlBytesConst
import Derived.Test.YtfdbffopcdpfeaaGreatDoorBase
import Derived.Test.YtfdbffopcdpfeaaGreatDoorSt
import Derived.Test.YtfdbffopcdpfeaaGreatDoorDisk
import Derived.Test.YtfdbffopcdpfeaaGreatDoorDisk2
import Derived.Test.YtfdbffopcdpfeaaGreatDoorDisk3
import Derived.Test.YtfdbffopcdpfeaaGreatDoorDisk4
import Derived.Test.YtfdbffopcdpfeaaGreatDoorSums
import Derived.Test.YtfdbffopcdpfeaaGreatDoorSuper
import Derived.Test.YtfdbffopcdpfeaaGreatDoorZero
import Derived.Test.YtfdbffopcdpfeaaGreatDoorSuper2
import Derived.Test.YtfdbffopcdpfeaaGreatDoorSuper3
import Derived.Test.YtfdbffopcdpfeaaGreatDoorSuper4
import Derived.Test.YtfdbffopcdpfeaaGreatDoorJour
import Derived.Test.YtfdbffopcdpfeaaGreatDoorJour2
import Derived.Test.YtfdbffopcdpfeaaGreatDoorFlush
set_option linter.unusedVariables false
set_option linter.unusedSimpArgs false
namespace Go.Proofs.YtfdbffopcdpfeaaGreatDoor
open Go.RowKit
attribute [local go_sem ↓] Go.wp_at_zero Go.wp_at_succ

open Go
theorem boot_log {w : World} {d g n : Nat} {C : Array Value} {wr sy : Int} (h : DiskAt w d g n C wr sy) (hC : ∀ k, k < 256 → C[k]? = some (.int .u8 0)) (k : Nat) (hk : (n - 2) / 2 = k) :
    Calls Tryz.prog 84 #[.pointer (some ⟨d, 0, none⟩), .agg #[.bool true, .int .u64 7, .int .u64 0, .string ⟨#[]⟩, .string ⟨#[]⟩]] w fun e w' => ∃ L K, e = .returned (.tuple #[.pointer (some ⟨L, 0, none⟩), .int .i64 0]) ∧ LogAt w' L K d g n k ∧ w.heap.size ≤ K ∧ Chg (fun k => k = d ∨ k = g) w w' := by
  have hB0 : Below w.heap.size w (w.alloc (.cells #[.bool true, .int .u64 7, .int .u64 0, .string ⟨#[]⟩, .string ⟨#[]⟩] 63)) := by (repeat first | assumption | exact Below.refl _ _ | refine Below.drew ?_ | refine Below.alloc ?_ (by first | omega | (simp; done) | (simp; omega) | (simp [*] <;> omega)) _ | refine Below.setCell ?_ (by first | omega | (simp; done) | (simp; omega) | (simp [*] <;> omega)) _)
  have hdl := blkLt h.hd
  have hgl := blkLt h.hg
  have b0 := blkNew w (.cells #[.bool true, .int .u64 7, .int .u64 0, .string ⟨#[]⟩, .string ⟨#[]⟩] 63)
  go_enter Tryz.func84, Tryz.ntmps84
  go_wp2_with fail
  refine (flush_Open0 (h.below hB0) hC).mono ?_
  rintro e w1 ⟨rfl, hB1⟩
  have hB01 : Below w.heap.size w w1 := hB0.trans (hB1.mono (by simp))
  have b1 := blkBelow b0 hB1 (by simp)
  have hs1 := hB01.size
  have c0 := blkCell b1 0 (v := .bool true) rfl
  have c1 := blkCell b1 1 (v := .int .u64 7) rfl
  have c2 := blkCell b1 2 (v := .int .u64 0) rfl
  have c3 := blkCell b1 3 (v := .string ⟨#[]⟩) rfl
  have c4 := blkCell b1 4 (v := .string ⟨#[]⟩) rfl
  have h1 := h.below hB01
  clear hB1 hB0 b0 b1
  go_wp2_with fail
  refine (flush_Format1 h1 k hk).mono ?_
  rintro e w2 ⟨L, rfl, hL, hC2⟩
  go_wp2_with fail
  go_ret2
  exact ⟨L, w1.heap.size, rfl, hL, hs1, (Chg.ofBelow hB01).trans hC2⟩
theorem boot_sure {w : World} {L K d g n k : Nat} (h : LogAt w L K d g n k) : Calls Tryz.prog 90 #[.pointer (some ⟨L, 0, none⟩)] w fun e w' => e = .returned (.int .i64 0) ∧ w = w' := by
  go_enter Tryz.func90, Tryz.ntmps90
  go_wp2
  go_step3
  go_wp2
  go_step3
  go_wp2_with (first | (go_at_call 107; refine (log_Done h).mono ?_; rintro e w' ⟨rfl, rfl⟩) | (go_at_call 157; refine (log_All h).mono ?_; rintro e w' ⟨rfl, rfl⟩))
  rw [Exit.noGoto_ret]
  go_ret; exact ⟨rfl, rfl⟩
theorem sessions_All0 {w : World} {t : Nat} (h : w.heap[t]? = some (.cells #[.bool true, .slice none 0 0] 236 (0, 0))) : Calls Tryz.prog 88 #[.pointer (some ⟨t, 0, none⟩)] w fun e w' => e = .returned (.slice none 0 0) ∧ w = w' := by
  have c0 := blkCell h 1 rfl
  go_enter Tryz.func88, Tryz.ntmps88
  go_wp2
  refine wp_loop_rounds 1 ?_
  rw [rounds_succ]
  go_wp2
  go_ret; exact ⟨rfl, rfl⟩
theorem IndexFunc_nil (f : Value) (w : World) : Calls Tryz.prog 150 #[.slice none 0 0, f] w fun e w' => e = .returned (.int .i64 (-1)) ∧ w = w' := by
  go_enter Tryz.func150, Tryz.ntmps150
  go_wp2
  refine wp_loop_rounds 1 ?_
  rw [rounds_succ]
  go_wp2
  go_ret; exact ⟨rfl, rfl⟩
theorem ContainsFunc_nil (f : Value) (w : World) : Calls Tryz.prog 87 #[.slice none 0 0, f] w fun e w' => e = .returned (.bool false) ∧ w = w' := by
  go_enter Tryz.func87, Tryz.ntmps87
  go_wp2_with (go_at_call 150; refine (IndexFunc_nil _ _).mono ?_; rintro e w' ⟨rfl, rfl⟩)
  go_ret; exact ⟨rfl, rfl⟩
/-- A daemon without connections. -/
structure DaemonAt (w : World) (D M : Nat) : Prop where
  dm : ∃ L Q : Nat, w.heap[D]? = some (.cells #[.pointer (some ⟨L, 0, none⟩), .map (some M), .int .i64 1, .pointer (some ⟨Q, 0, none⟩), .int .u64 0] 248 (0, 0))
  mp : w.heap[M]? = some (.map #[] 0)
theorem DaemonAt.below {w w' : World} {D M : Nat} (h : DaemonAt w D M) (hb : Below w.heap.size w w') : DaemonAt w' D M :=
  ⟨by obtain ⟨L, Q, hd⟩ := h.dm; exact ⟨L, Q, blkBelow hd hb (blkLt hd)⟩, blkBelow h.mp hb (blkLt h.mp)⟩
theorem daemon_New {w : World} {L K d g n k : Nat} (h : LogAt w L K d g n k) : Calls Tryz.prog 91 #[.pointer (some ⟨L, 0, none⟩), .int .u64 0] w fun e w' => e = .returned (.tuple #[.pointer (some ⟨w.heap.size + 2, 0, none⟩), .int .i64 0]) ∧ DaemonAt w' (w.heap.size + 2) w.heap.size ∧ Below w.heap.size w w' := by
  have hst := h.st.get (b := K + 19) (o := .cells #[.pointer (some ⟨K + 7, 0, none⟩), .pointer (some ⟨K + 9, 0, none⟩), .pointer (some ⟨K + 15, 0, none⟩), .pointer (some ⟨K + 18, 0, none⟩), .pointer (some ⟨K + 6, 0, none⟩), .pointer (some ⟨K + 4, 0, none⟩), .int .u64 0, .int .i64 0] 159 (0, 0)) (by simp [stObjs])
  have c6 := blkCell hst 6 (v := .int .u64 0) rfl
  have hmm := @run_makeMap Tryz.prog
  go_enter Tryz.func91, Tryz.ntmps91
  go_wp2_with (first | (go_at_call 85; refine (log_State h).mono ?_; rintro e w' ⟨rfl, rfl⟩) | (go_at_call 159; refine (pend_New _).mono ?_; rintro e w' ⟨rfl, rfl⟩))
  go_ret2
  refine ⟨rfl, ⟨⟨L, w.heap.size + 1, ?_⟩, ?_⟩, ?_⟩
  · simp only [heapAlloc, sizeAlloc]; simp
  · simp only [heapAlloc, sizeAlloc]; simp; omega
  · (repeat first | assumption | exact Below.refl _ _ | refine Below.drew ?_ | refine Below.alloc ?_ (by first | omega | (simp; done) | (simp; omega) | (simp [*] <;> omega)) _ | refine Below.setCell ?_ (by first | omega | (simp; done) | (simp; omega) | (simp [*] <;> omega)) _)
theorem boot_Start {w : World} {d g n : Nat} {C : Array Value} {wr sy : Int} (h : DiskAt w d g n C wr sy) (hC : ∀ k, k < 256 → C[k]? = some (.int .u8 0)) (k : Nat) (hk : (n - 2) / 2 = k) :
    Calls Tryz.prog 42 #[.pointer (some ⟨d, 0, none⟩), .agg #[.bool true, .int .u64 7, .int .u64 0, .string ⟨#[]⟩, .string ⟨#[]⟩], .int .u64 0] w fun e w' => ∃ D M, e = .returned (.tuple #[.pointer (some ⟨D, 0, none⟩), .int .i64 0]) ∧ DaemonAt w' D M ∧ w.heap.size ≤ D ∧ w.heap.size ≤ M ∧ D ≠ M ∧ Chg (fun k => k = d ∨ k = g) w w' := by
  have hB0 : Below w.heap.size w ((w.alloc (.cells #[.bool true, .int .u64 7, .int .u64 0, .string ⟨#[]⟩, .string ⟨#[]⟩] 63)).alloc (.cells #[.bool true, .int .u64 7, .int .u64 0, .string ⟨#[]⟩, .string ⟨#[]⟩] 63)) := by (repeat first | assumption | exact Below.refl _ _ | refine Below.drew ?_ | refine Below.alloc ?_ (by first | omega | (simp; done) | (simp; omega) | (simp [*] <;> omega)) _ | refine Below.setCell ?_ (by first | omega | (simp; done) | (simp; omega) | (simp [*] <;> omega)) _)
  have h0 := h.below ((Below.refl w.heap.size w).alloc (Nat.le_refl _) (.cells #[.bool true, .int .u64 7, .int .u64 0, .string ⟨#[]⟩, .string ⟨#[]⟩] 63))
  have h1 := h.below hB0
  have h4 := h.lo
  have hdl := blkLt h.hd
  have hgl := blkLt h.hg
  have e1 : ((n : Int) == 0) = false := by simp; omega
  go_enter Tryz.func42, Tryz.ntmps42
  go_wp2_with (first | (go_at_call 82; refine (disk_Sectors h0).mono ?_; rintro e w' ⟨rfl, rfl⟩) | (go_at_call 83; refine (eid_Right_self _).mono ?_; rintro e w' ⟨rfl, rfl⟩))
  refine (boot_log h1 hC k hk).mono ?_
  rintro e w1 ⟨L, K, rfl, hL, hK, hC1⟩
  have hst := hL.st.get (b := K + 19) (o := .cells #[.pointer (some ⟨K + 7, 0, none⟩), .pointer (some ⟨K + 9, 0, none⟩), .pointer (some ⟨K + 15, 0, none⟩), .pointer (some ⟨K + 18, 0, none⟩), .pointer (some ⟨K + 6, 0, none⟩), .pointer (some ⟨K + 4, 0, none⟩), .int .u64 0, .int .i64 0] 159 (0, 0)) (by simp [stObjs])
  have c6 := blkCell hst 6 (v := .int .u64 0) rfl
  have c0 := blkCell hst 0 (v := .pointer (some ⟨K + 7, 0, none⟩)) rfl
  have hss := hL.st.get (b := K + 7) (o := .cells #[.bool true, .slice none 0 0] 236 (0, 0)) (by simp [stObjs])
  have hC01 := (Chg.ofBelow (S := fun k => k = d ∨ k = g) hB0).trans hC1
  have hs1 := hC01.size
  clear hB0 h0 h1
  go_wp2_with (first | (go_at_call 85; refine (log_State hL).mono ?_; rintro e w' ⟨rfl, rfl⟩) | (go_at_call 88; refine (sessions_All0 hss).mono ?_; rintro e w' ⟨rfl, rfl⟩) | (go_at_call 87; refine (ContainsFunc_nil _ _).mono ?_; rintro e w' ⟨rfl, rfl⟩) | (go_at_call 90; refine (boot_sure hL).mono ?_; rintro e w' ⟨rfl, rfl⟩))
  refine (daemon_New hL).mono ?_
  rintro e w2 ⟨rfl, hD, hB2⟩
  go_wp2_with fail
  go_ret2
  exact ⟨w1.heap.size + 2, w1.heap.size, rfl, hD, by omega, by omega, by omega, hC01.trans (Chg.ofBelow hB2)⟩
end Go.Proofs.YtfdbffopcdpfeaaGreatDoor
