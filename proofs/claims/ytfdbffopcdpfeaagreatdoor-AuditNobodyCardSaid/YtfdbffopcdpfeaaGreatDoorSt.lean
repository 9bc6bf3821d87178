/- The loft's own name, and the state that is new. -/
import Derived.Test.YtfdbffopcdpfeaaGreatDoorProg
import Derived.WalkKit
import Derived.WalkSpells
import Derived.WalkLawsBesides
import Derived.Deep.QuietTactic
import Derived.BigQuiet
import Derived.Lib.Hide
import Derived.Deep.RegionHeld3
import Derived.Deep.DrawnRows
import Derived.Deep.AppendLies
import Derived.Deep.RegionLaw
import Derived.Lib.AppendZerosOnto
import Derived.Lib.SlBytesConst
import Derived.Test.YtfdbffopcdpfeaaGreatDoorBase
set_option linter.unusedVariables false
set_option linter.unusedSimpArgs false
namespace Go.Proofs.YtfdbffopcdpfeaaGreatDoor
open Go.RowKit
attribute [local go_sem ↓] Go.wp_at_zero Go.wp_at_succ

theorem sessions_New (w : World) : Calls Tryz.prog 274 #[] w fun e w' => e = .returned (.pointer (some ⟨w.heap.size, 0, none⟩)) ∧ (w.alloc (.cells #[.bool true, .slice none 0 0] 236)) = w' := by
  go_enter Tryz.func274, Tryz.ntmps274
  go_wp2
  go_ret; exact ⟨rfl, rfl⟩
theorem alarm_New (w : World) : Calls Tryz.prog 345 #[] w fun e w' => e = .returned (.pointer (some ⟨w.heap.size + 1, 0, none⟩)) ∧ ((w.alloc (.map #[] 0)).alloc (.cells #[.slice none 0 0, .map (some w.heap.size)] 562)) = w' := by
  have hmm := @run_makeMap Tryz.prog
  go_enter Tryz.func345, Tryz.ntmps345
  go_wp2
  go_ret; exact ⟨rfl, rfl⟩
theorem regs_New (w : World) : Calls Tryz.prog 275 #[] w fun e w' => e = .returned (.pointer (some ⟨w.heap.size + 1, 0, none⟩)) ∧ ((w.alloc (.map #[] 0)).alloc (.cells #[.map (some w.heap.size)] 496)) = w' := by
  have hmm := @run_makeMap Tryz.prog
  go_enter Tryz.func275, Tryz.ntmps275
  go_wp2
  go_ret; exact ⟨rfl, rfl⟩
theorem quota_New (w : World) : Calls Tryz.prog 273 #[.int .i64 4800, .int .i64 1600] w fun e w' => e = .returned (.tuple #[.pointer (some ⟨w.heap.size + 1, 0, none⟩), .int .i64 0]) ∧ ((w.alloc (.map #[] 0)).alloc (.cells #[.int .i64 4800, .int .i64 1600, .map (some w.heap.size), .int .i64 0] 493)) = w' := by
  have hmm := @run_makeMap Tryz.prog
  go_enter Tryz.func273, Tryz.ntmps273
  go_wp2
  go_ret2; exact ⟨rfl, rfl⟩
theorem pend_New (w : World) : Calls Tryz.prog 159 #[] w fun e w' => e = .returned (.pointer (some ⟨w.heap.size, 0, none⟩)) ∧ (w.alloc (.cells #[.bool true, .slice none 0 0] 345)) = w' := by
  go_enter Tryz.func159, Tryz.ntmps159
  go_wp2
  go_ret; exact ⟨rfl, rfl⟩
theorem history_New (w : World) : Calls Tryz.prog 43 #[] w fun e w' => e = .returned (.pointer (some ⟨w.heap.size, 0, none⟩)) ∧ (w.alloc (.cells #[.bool true, .slice none 0 0, .int .i64 0] 180)) = w' := by
  go_enter Tryz.func43, Tryz.ntmps43
  go_wp2
  go_ret; exact ⟨rfl, rfl⟩
theorem frame_New (w : World) : Calls Tryz.prog 233 #[] w fun e w' => e = .returned (.pointer (some ⟨w.heap.size, 0, none⟩)) ∧ (w.alloc (.cells #[.bool true, .slice none 0 0, .int .i64 0] 441)) = w' := by
  go_enter Tryz.func233, Tryz.ntmps233
  go_wp2
  go_ret; exact ⟨rfl, rfl⟩
theorem copies_New (w : World) : Calls Tryz.prog 276 #[] w fun e w' => e = .returned (.pointer (some ⟨w.heap.size + 5, 0, none⟩)) ∧ ((((((w.alloc (.map #[] 0)).alloc (.map #[] 0)).alloc (.cells #[.slice none 0 0, .map (some (w.heap.size + 1))] 562)).alloc (.map #[] 0)).alloc (.cells #[.slice none 0 0, .map (some (w.heap.size + 3))] 562)).alloc (.cells #[.map (some w.heap.size), .int .i64 1, .int .i64 0, .int .i64 0, .int .i64 0, .pointer (some ⟨w.heap.size + 2, 0, none⟩), .pointer (some ⟨w.heap.size + 4, 0, none⟩)] 483)) = w' := by
  have hmm := @run_makeMap Tryz.prog
  go_enter Tryz.func276, Tryz.ntmps276
  go_wp2_with (go_at_call 345; refine (alarm_New _).mono ?_; rintro e w' ⟨rfl, rfl⟩)
  go_ret; exact ⟨rfl, rfl⟩
theorem outbox_New (w : World) : Calls Tryz.prog 277 #[] w fun e w' => e = .returned (.pointer (some ⟨w.heap.size + 2, 0, none⟩)) ∧ (((w.alloc (.map #[] 0)).alloc (.cells #[.slice none 0 0, .map (some w.heap.size)] 562)).alloc (.cells #[.slice none 0 0, .int .i64 1, .int .i64 0, .int .i64 0, .int .i64 0, .pointer (some ⟨w.heap.size + 1, 0, none⟩)] 488)) = w' := by
  have hmm := @run_makeMap Tryz.prog
  go_enter Tryz.func277, Tryz.ntmps277
  go_wp2_with (go_at_call 345; refine (alarm_New _).mono ?_; rintro e w' ⟨rfl, rfl⟩)
  go_ret; exact ⟨rfl, rfl⟩
theorem eid_Right_self (w : World) : Calls Tryz.prog 83 #[.agg #[.bool true, .int .u64 7, .int .u64 0, .string ⟨#[]⟩, .string ⟨#[]⟩]] w fun e w' => e = .returned (.bool true) ∧ (w.alloc (.cells #[.bool true, .int .u64 7, .int .u64 0, .string ⟨#[]⟩, .string ⟨#[]⟩] 63)) = w' := by
  go_enter Tryz.func83, Tryz.ntmps83
  go_wp2
  go_ret; exact ⟨rfl, rfl⟩
theorem ident_New_self (w : World) : Calls Tryz.prog 272 #[.agg #[.bool true, .int .u64 7, .int .u64 0, .string ⟨#[]⟩, .string ⟨#[]⟩]] w fun e w' => e = .returned (.tuple #[.pointer (some ⟨w.heap.size + 2, 0, none⟩), .int .i64 0]) ∧ (((w.alloc (.cells #[.bool true, .int .u64 7, .int .u64 0, .string ⟨#[]⟩, .string ⟨#[]⟩] 63)).alloc (.cells #[.bool true, .int .u64 7, .int .u64 0, .string ⟨#[]⟩, .string ⟨#[]⟩] 63)).alloc (.cells #[.bool true, .int .u64 7, .int .u64 0, .string ⟨#[]⟩, .string ⟨#[]⟩, .int .u64 0, .int .u64 0, .bool true] 473)) = w' := by
  go_enter Tryz.func272, Tryz.ntmps272
  go_wp2_with (go_at_call 83; refine (eid_Right_self _).mono ?_; rintro e w' ⟨rfl, rfl⟩)
  go_ret2; exact ⟨rfl, rfl⟩
/-- The blocks of a state that is new, but for what it had to lay meanwhile; the state lies at K + 18. -/
def stObjs (K : Nat) : List (Nat × Obj) := [
  (K + 3, .cells #[.bool true, .int .u64 7, .int .u64 0, .string ⟨#[]⟩, .string ⟨#[]⟩, .int .u64 0, .int .u64 0, .bool true] 473 (0, 0)),
  (K + 4, .map #[] 0),
  (K + 5, .cells #[.int .i64 4800, .int .i64 1600, .map (some (K + 4)), .int .i64 0] 493 (0, 0)),
  (K + 6, .cells #[.bool true, .slice none 0 0] 236 (0, 0)),
  (K + 7, .map #[] 0),
  (K + 8, .cells #[.map (some (K + 7))] 496 (0, 0)),
  (K + 9, .map #[] 0),
  (K + 10, .map #[] 0),
  (K + 11, .cells #[.slice none 0 0, .map (some (K + 10))] 562 (0, 0)),
  (K + 12, .map #[] 0),
  (K + 13, .cells #[.slice none 0 0, .map (some (K + 12))] 562 (0, 0)),
  (K + 14, .cells #[.map (some (K + 9)), .int .i64 1, .int .i64 0, .int .i64 0, .int .i64 0, .pointer (some ⟨K + 11, 0, none⟩), .pointer (some ⟨K + 13, 0, none⟩)] 483 (0, 0)),
  (K + 15, .map #[] 0),
  (K + 16, .cells #[.slice none 0 0, .map (some (K + 15))] 562 (0, 0)),
  (K + 17, .cells #[.slice none 0 0, .int .i64 1, .int .i64 0, .int .i64 0, .int .i64 0, .pointer (some ⟨K + 16, 0, none⟩)] 488 (0, 0)),
  (K + 18, .cells #[.pointer (some ⟨K + 6, 0, none⟩), .pointer (some ⟨K + 8, 0, none⟩), .pointer (some ⟨K + 14, 0, none⟩), .pointer (some ⟨K + 17, 0, none⟩), .pointer (some ⟨K + 5, 0, none⟩), .pointer (some ⟨K + 3, 0, none⟩), .int .u64 0, .int .i64 0] 159 (0, 0))]
theorem stObjs_mem (K : Nat) (a b c : Obj) (p : Nat × Obj) (hp : p ∈ stObjs K) : p ∈ (K, a) :: (K + 1, b) :: (K + 2, c) :: stObjs K := List.mem_cons_of_mem _ (List.mem_cons_of_mem _ (List.mem_cons_of_mem _ hp))
set_option maxHeartbeats 1000000 in
theorem state_New_self (w : World) : Calls Tryz.prog 197 #[.agg #[.bool true, .int .u64 7, .int .u64 0, .string ⟨#[]⟩, .string ⟨#[]⟩]] w (Made w (.tuple #[.pointer (some ⟨w.heap.size + 18, 0, none⟩), .int .i64 0]) (stObjs w.heap.size) 19) := by
  go_enter Tryz.func197, Tryz.ntmps197
  go_wp2_with (first | (go_at_call 272; refine (ident_New_self _).mono ?_; rintro e w' ⟨rfl, rfl⟩) | (go_at_call 273; refine (quota_New _).mono ?_; rintro e w' ⟨rfl, rfl⟩) | (go_at_call 274; refine (sessions_New _).mono ?_; rintro e w' ⟨rfl, rfl⟩) | (go_at_call 275; refine (regs_New _).mono ?_; rintro e w' ⟨rfl, rfl⟩) | (go_at_call 276; refine (copies_New _).mono ?_; rintro e w' ⟨rfl, rfl⟩) | (go_at_call 277; refine (outbox_New _).mono ?_; rintro e w' ⟨rfl, rfl⟩))
  go_ret2
  exact madeFrom w _ [_, _, _, _, _, _, _, _, _, _, _, _, _, _, _, _, _, _, _] rfl (stObjs_mem w.heap.size _ _ _)
end Go.Proofs.YtfdbffopcdpfeaaGreatDoor
