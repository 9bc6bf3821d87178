/- The log at a start on a new disk. -/
import Derived.Test.YtfdbffopcdpfeaaGreatDoorProg
import Derived.WalkKit
import Derived.WalkSpells
import Derived.WalkLawsBesides
import Derived.Deep.QuietTactic
import Derived.BigQuiet
import Derived.Lib.Hide
import Derived.Deep.RegionHeld3
import Derived.Deep.DrawnRows
import Derived.Deep.AppendLies
import Derived.Deep.RegionLaw
import Derived.Lib.AppendZerosOnto
import Derived.Lib.SlBytesConst
import Derived.Test.YtfdbffopcdpfeaaGreatDoorBase
import Derived.Test.YtfdbffopcdpfeaaGreatDoorSt
import Derived.Test.YtfdbffopcdpfeaaGreatDoorDisk
import Derived.Test.YtfdbffopcdpfeaaGreatDoorDisk2
import Derived.Test.YtfdbffopcdpfeaaGreatDoorDisk3
import Derived.Test.YtfdbffopcdpfeaaGreatDoorDisk4
import Derived.Test.YtfdbffopcdpfeaaGreatDoorSums
import Derived.Test.YtfdbffopcdpfeaaGreatDoorSuper
import Derived.Test.YtfdbffopcdpfeaaGreatDoorZero
import Derived.Test.YtfdbffopcdpfeaaGreatDoorSuper2
import Derived.Test.YtfdbffopcdpfeaaGreatDoorSuper3
import Derived.Test.YtfdbffopcdpfeaaGreatDoorSuper4
import Derived.Test.YtfdbffopcdpfeaaGreatDoorJour
import Derived.Test.YtfdbffopcdpfeaaGreatDoorJour2
set_option linter.unusedVariables false
set_option linter.unusedSimpArgs false
namespace Go.Proofs.YtfdbffopcdpfeaaGreatDoor
open Go.RowKit
attribute [local go_sem ↓] Go.wp_at_zero Go.wp_at_succ

open Go
def selfV : Array Value := #[.bool true, .int .u64 7, .int .u64 0, .string ⟨#[]⟩, .string ⟨#[]⟩]
theorem flush_Open0 {w : World} {d g n : Nat} {C : Array Value} {wr sy : Int} (h : DiskAt w d g n C wr sy) (hC : ∀ k, k < 256 → C[k]? = some (.int .u8 0)) :
    Calls Tryz.prog 148 #[.pointer (some ⟨d, 0, none⟩), .agg #[.bool true, .int .u64 7, .int .u64 0, .string ⟨#[]⟩, .string ⟨#[]⟩]] w fun e w' => e = .returned (.tuple #[.pointer none, .int .i64 4]) ∧ Below w.heap.size w w' := by
  have hB0 : Below w.heap.size w (w.alloc (.cells #[.bool true, .int .u64 7, .int .u64 0, .string ⟨#[]⟩, .string ⟨#[]⟩] 63)) := by (repeat first | assumption | exact Below.refl _ _ | refine Below.drew ?_ | refine Below.alloc ?_ (by first | omega | (simp; done) | (simp; omega) | (simp [*] <;> omega)) _ | refine Below.setCell ?_ (by first | omega | (simp; done) | (simp; omega) | (simp [*] <;> omega)) _)
  go_enter Tryz.func148, Tryz.ntmps148
  go_wp2_with fail
  refine (state_New_self _).mono ?_
  rintro e w1 ⟨rfl, hH1, hs1, hB1⟩
  simp only [sizeAlloc] at hs1
  have hB01 : Below w.heap.size w w1 := hB0.trans (hB1.mono (by simp))
  have h1 := h.below hB01
  clear hB1 hH1
  go_wp2_with fail
  refine (journal_Open0 h1 hC).mono ?_
  rintro e w2 ⟨rfl, hB2⟩
  have hB02 : Below w.heap.size w w2 := hB01.trans (hB2.mono (by omega))
  go_wp2_with fail
  go_ret2
  exact ⟨rfl, hB02⟩
/-- A log that a start has laid on a new disk. -/
structure LogAt (w : World) (L K d g n k : Nat) : Prop where
  log : w.heap[L]? = some (.cells #[.pointer (some ⟨K + 25, 0, none⟩), .pointer (some ⟨K + 19, 0, none⟩), .int .i64 ((k : Int) * 128)] 232 (0, 0))
  st : Has w (stObjs (K + 1))
  jour : w.heap[K + 25]? = some (.cells (jourCells d k 1) 340 (0, 0))
  disk : ∃ wr' sy', w.heap[d]? = some (.cells #[.slice (some ⟨g, 0, none⟩) n n, .slice none 0 0, .int .i64 wr', .int .i64 sy'] 147 (0, 0))
theorem LogAt.below {w w' : World} {L K d g n k : Nat} (h : LogAt w L K d g n k) (hb : Below w.heap.size w w') : LogAt w' L K d g n k :=
  ⟨blkBelow h.log hb (blkLt h.log), h.st.below hb, blkBelow h.jour hb (blkLt h.jour), by obtain ⟨a, b, hd⟩ := h.disk; exact ⟨a, b, blkBelow hd hb (blkLt hd)⟩⟩
theorem stObjs_ge {K : Nat} {p : Nat × Obj} (h : p ∈ stObjs K) : K + 3 ≤ p.1 := by
  simp only [stObjs, List.mem_cons, List.mem_nil_iff, or_false] at h
  rcases h with rfl | rfl | rfl | rfl | rfl | rfl | rfl | rfl | rfl | rfl | rfl | rfl | rfl | rfl | rfl | rfl <;> simp <;> omega
theorem flush_Format1 {w : World} {d g n : Nat} {C : Array Value} {wr sy : Int} (h : DiskAt w d g n C wr sy) (k : Nat) (hk : (n - 2) / 2 = k) :
    Calls Tryz.prog 149 #[.pointer (some ⟨d, 0, none⟩), .agg #[.bool true, .int .u64 7, .int .u64 0, .string ⟨#[]⟩, .string ⟨#[]⟩]] w fun e w' => ∃ L, e = .returned (.tuple #[.pointer (some ⟨L, 0, none⟩), .int .i64 0]) ∧ LogAt w' L w.heap.size d g n k ∧ Chg (fun k => k = d ∨ k = g) w w' := by
  have hB0 : Below w.heap.size w (w.alloc (.cells #[.bool true, .int .u64 7, .int .u64 0, .string ⟨#[]⟩, .string ⟨#[]⟩] 63)) := by (repeat first | assumption | exact Below.refl _ _ | refine Below.drew ?_ | refine Below.alloc ?_ (by first | omega | (simp; done) | (simp; omega) | (simp [*] <;> omega)) _ | refine Below.setCell ?_ (by first | omega | (simp; done) | (simp; omega) | (simp [*] <;> omega)) _)
  have hdl := blkLt h.hd
  have hgl := blkLt h.hg
  go_enter Tryz.func149, Tryz.ntmps149
  go_wp2_with fail
  refine (state_New_self _).mono ?_
  rintro e w1 ⟨rfl, hH1, hs1, hB1⟩
  simp only [sizeAlloc] at hs1 hH1
  have hB01 : Below w.heap.size w w1 := hB0.trans (hB1.mono (by simp))
  have h1 := h.below hB01
  clear hB1
  go_wp2_with fail
  refine (journal_Format1 h1 k hk).mono ?_
  rintro e w2 ⟨rfl, hj2, ⟨wr2, sy2, hd2⟩, hC2⟩
  have hH2 := hH1.chg hC2 (fun p hp => by have := stObjs_ge hp; omega)
  have hC02 := (Chg.ofBelow (S := fun k => k = d ∨ k = g) hB01).trans hC2
  have c0 := blkCell hd2 0 rfl
  go_wp2_with fail
  refine (flush_half c0 h.lo h.hi k hk).mono ?_
  rintro e w3 ⟨rfl, hB3, hs3⟩
  have hC03 := hC02.trans (Chg.ofBelow hB3)
  have hH3 := hH2.below hB3
  have hj3 := blkBelow hj2 hB3 (blkLt hj2)
  have hd3 := blkBelow hd2 hB3 (blkLt hd2)
  go_wp2_with fail
  go_ret2
  have hBn := (Below.refl w3.heap.size w3).alloc (Nat.le_refl _) (.cells #[.pointer (some ⟨w.heap.size + 25, 0, none⟩), .pointer (some ⟨w.heap.size + 19, 0, none⟩), .int .i64 ((k : Int) * 128)] 232)
  refine ⟨w2.heap.size + 5, rfl, ⟨?_, hH3.below hBn, ?_, wr2, sy2, blkOld hd3 _⟩, ?_⟩
  · have := blkNew w3 (.cells #[.pointer (some ⟨w.heap.size + 25, 0, none⟩), .pointer (some ⟨w.heap.size + 19, 0, none⟩), .int .i64 ((k : Int) * 128)] 232)
    rw [hs3] at this
    exact this
  · have := blkOld hj3 (.cells #[.pointer (some ⟨w.heap.size + 25, 0, none⟩), .pointer (some ⟨w.heap.size + 19, 0, none⟩), .int .i64 ((k : Int) * 128)] 232)
    rw [hs1] at this
    exact this
  · exact hC03.alloc _
theorem log_made {w : World} {L K d g n k : Nat} (h : LogAt w L K d g n k) : Calls Tryz.prog 152 #[.pointer (some ⟨L, 0, none⟩)] w fun e w' => e = .returned (.bool true) ∧ w = w' := by
  have c0 := blkCell h.log 1 rfl
  go_enter Tryz.func152, Tryz.ntmps152
  go_wp2; go_ret; exact ⟨rfl, rfl⟩
theorem log_State {w : World} {L K d g n k : Nat} (h : LogAt w L K d g n k) : Calls Tryz.prog 85 #[.pointer (some ⟨L, 0, none⟩)] w fun e w' => e = .returned (.pointer (some ⟨K + 19, 0, none⟩)) ∧ w = w' := by
  have c0 := blkCell h.log 1 rfl
  go_enter Tryz.func85, Tryz.ntmps85
  go_wp2; go_ret; exact ⟨rfl, rfl⟩
theorem jour_made {w : World} {j d k : Nat} (h : w.heap[j]? = some (.cells (jourCells d k 1) 340 (0, 0))) : Calls Tryz.prog 225 #[.pointer (some ⟨j, 0, none⟩)] w fun e w' => e = .returned (.bool true) ∧ w = w' := by
  have c0 : w.cell? ⟨j, 0, none⟩ = some (.pointer (some ⟨d, 0, none⟩)) := blkCell h 0 rfl
  go_enter Tryz.func225, Tryz.ntmps225
  go_wp2; go_ret; exact ⟨rfl, rfl⟩
theorem jour_Done {w : World} {j d k : Nat} (h : w.heap[j]? = some (.cells (jourCells d k 1) 340 (0, 0))) : Calls Tryz.prog 179 #[.pointer (some ⟨j, 0, none⟩)] w fun e w' => e = .returned (.int .i64 0) ∧ w = w' := by
  have c0 : w.cell? ⟨j, 15, none⟩ = some (.int .i64 0) := blkCell h 15 rfl
  go_enter Tryz.func179, Tryz.ntmps179
  go_wp2_with (go_at_call 225; refine (jour_made h).mono ?_; rintro e w' ⟨rfl, rfl⟩)
  go_ret; exact ⟨rfl, rfl⟩
theorem jour_All {w : World} {j d k : Nat} (h : w.heap[j]? = some (.cells (jourCells d k 1) 340 (0, 0))) : Calls Tryz.prog 231 #[.pointer (some ⟨j, 0, none⟩)] w fun e w' => e = .returned (.int .i64 0) ∧ w = w' := by
  have c0 : w.cell? ⟨j, 14, none⟩ = some (.int .i64 0) := blkCell h 14 rfl
  go_enter Tryz.func231, Tryz.ntmps231
  go_wp2_with (go_at_call 225; refine (jour_made h).mono ?_; rintro e w' ⟨rfl, rfl⟩)
  go_ret; exact ⟨rfl, rfl⟩
theorem log_Done {w : World} {L K d g n k : Nat} (h : LogAt w L K d g n k) : Calls Tryz.prog 107 #[.pointer (some ⟨L, 0, none⟩)] w fun e w' => e = .returned (.int .i64 0) ∧ w = w' := by
  have c0 := blkCell h.log 0 rfl
  go_enter Tryz.func107, Tryz.ntmps107
  go_wp2_with (first | (go_at_call 152; refine (log_made h).mono ?_; rintro e w' ⟨rfl, rfl⟩) | (go_at_call 179; refine (jour_Done h.jour).mono ?_; rintro e w' ⟨rfl, rfl⟩))
  go_ret; exact ⟨rfl, rfl⟩
theorem log_All {w : World} {L K d g n k : Nat} (h : LogAt w L K d g n k) : Calls Tryz.prog 157 #[.pointer (some ⟨L, 0, none⟩)] w fun e w' => e = .returned (.int .i64 0) ∧ w = w' := by
  have c0 := blkCell h.log 0 rfl
  go_enter Tryz.func157, Tryz.ntmps157
  go_wp2_with (first | (go_at_call 152; refine (log_made h).mono ?_; rintro e w' ⟨rfl, rfl⟩) | (go_at_call 231; refine (jour_All h.jour).mono ?_; rintro e w' ⟨rfl, rfl⟩))
  go_ret; exact ⟨rfl, rfl⟩
end Go.Proofs.YtfdbffopcdpfeaaGreatDoor
