/- A super is written, and read, at a start on a new disk. -/
import Derived.Test.YtfdbffopcdpfeaaGreatDoorProg
import Derived.WalkKit
import Derived.WalkSpells
import Derived.WalkLawsBesides
import Derived.Deep.QuietTactic
import Derived.BigQuiet
import Derived.Lib.Hide
import Derived.Deep.RegionHeld3
import Derived.Deep.DrawnRows
import Derived.Deep.AppendLies
import Derived.Deep.RegionLaw
import Derived.Lib.AppendZerosOnto
import Derived.Lib.SlBytesConst
import Derived.Test.YtfdbffopcdpfeaaGreatDoorBase
import Derived.Test.YtfdbffopcdpfeaaGreatDoorDisk
import Derived.Test.YtfdbffopcdpfeaaGreatDoorDisk2
import Derived.Test.YtfdbffopcdpfeaaGreatDoorDisk3
import Derived.Test.YtfdbffopcdpfeaaGreatDoorDisk4
import Derived.Test.YtfdbffopcdpfeaaGreatDoorSums
import Derived.Test.YtfdbffopcdpfeaaGreatDoorSuper
import Derived.Test.YtfdbffopcdpfeaaGreatDoorZero
set_option linter.unusedVariables false
set_option linter.unusedSimpArgs false
namespace Go.Proofs.YtfdbffopcdpfeaaGreatDoor
open Go.RowKit
attribute [local go_sem ↓] Go.wp_at_zero Go.wp_at_succ

open Go
theorem IsBytes.ints {ys : List Value} (h : IsBytes ys) : ∃ xs : List Int, ys = xs.map fun i => Value.int .u8 i := by
  induction ys with
  | nil => exact ⟨[], rfl⟩
  | cons y ys ih =>
    obtain ⟨i, rfl⟩ := h y (by simp)
    obtain ⟨xs, rfl⟩ := ih (fun v hv => h v (by simp [hv]))
    exact ⟨i :: xs, rfl⟩
theorem IsBytes.app {xs ys : List Value} (h : IsBytes xs) (k : IsBytes ys) : IsBytes (xs ++ ys) := fun v hv => (List.mem_append.1 hv).elim (h v) (k v)
theorem Long_own {w : World} {base g n cap : Nat} {ys : List Value} (hown : w.ownsRow base 5 1 (.slice (some ⟨g, 0, none⟩) n cap) n ys) (hb : IsBytes ys) (hn : n ≤ 1000000000) :
    Calls Tryz.prog 422 #[.slice (some ⟨g, 0, none⟩) n cap] w (SomeN .u32 w) := by
  obtain ⟨xs, rfl⟩ := hb.ints
  have hl : xs.length = n := by have := hown.1; simpa using this
  refine Long_some g 0 n cap xs w hn hl (fun k hk => ?_)
  have := hown.cells (g := g) rfl k (.int .u8 (xs.getD k 0)) (by simp [List.getElem?_eq_getElem (show k < xs.length by omega), List.getD_eq_getElem?_getD])
  rwa [Addr.add_mid] at this
theorem Right_0 (w : World) : Calls Tryz.prog 420 #[.agg #[.int .u64 0, .int .i64 0, .int .i64 0]] w fun e w' => e = .returned (.bool false) ∧ w.alloc (.cells #[.int .u64 0, .int .i64 0, .int .i64 0] 336) = w' := by
  go_enter Tryz.func420, Tryz.ntmps420
  go_wp2; go_ret; exact ⟨rfl, rfl⟩
theorem Right_1 (w : World) : Calls Tryz.prog 420 #[.agg #[.int .u64 1, .int .i64 0, .int .i64 0]] w fun e w' => e = .returned (.bool true) ∧ w.alloc (.cells #[.int .u64 1, .int .i64 0, .int .i64 0] 336) = w' := by
  go_enter Tryz.func420, Tryz.ntmps420
  go_wp2; go_ret; exact ⟨rfl, rfl⟩
theorem slot_1 (w : World) : Calls Tryz.prog 348 #[.agg #[.int .u64 1, .int .i64 0, .int .i64 0]] w fun e w' => e = .returned (.int .i64 1) ∧ w.alloc (.cells #[.int .u64 1, .int .i64 0, .int .i64 0] 336) = w' := by
  go_enter Tryz.func348, Tryz.ntmps348
  go_wp2; go_ret; exact ⟨rfl, rfl⟩
theorem Write_0 (w : World) : Calls Tryz.prog 357 #[.agg #[.int .u64 0, .int .i64 0, .int .i64 0]] w fun e w' => e = .returned (.tuple #[.slice none 0 0, .int .i64 3]) ∧ (w.alloc (.cells #[.int .u64 0, .int .i64 0, .int .i64 0] 336)).alloc (.cells #[.int .u64 0, .int .i64 0, .int .i64 0] 336) = w' := by
  go_enter Tryz.func357, Tryz.ntmps357
  go_wp2_with (go_at_call 420; refine (Right_0 _).mono ?_; rintro e w' ⟨rfl, rfl⟩)
  go_ret2; exact ⟨rfl, rfl⟩
def WrittenPost (w : World) (e : Ending) (w' : World) : Prop := ∃ g cap xs, e = .returned (.tuple #[.slice (some ⟨g, 0, none⟩) 128 cap, .int .i64 0]) ∧ w'.ownsRow w.heap.size 5 1 (.slice (some ⟨g, 0, none⟩) 128 cap) 128 xs ∧ IsBytes xs ∧ Below w.heap.size w w'
set_option maxRecDepth 100000 in
set_option maxHeartbeats 800000 in
theorem Write_1 (w : World) : Calls Tryz.prog 357 #[.agg #[.int .u64 1, .int .i64 0, .int .i64 0]] w (WrittenPost w) := by
  obtain ⟨i0, hi0, hz0, hz1, hz2⟩ := info_parts u8_info
  have kc := fun (w : World) (C : Array Value) (n c : Nat) => Lib.run_convert_bytes_const (P := Tryz.prog) w 68 5 C n c Tryz.underlying68 Tryz.underlying5
  go_enter Tryz.func357, Tryz.ntmps357
  go_wp2_with fail
  go_at_call 420; refine (Right_1 _).mono ?_; rintro e w1 ⟨rfl, hw1⟩
  have hb1 : w1.heap[w.heap.size]? = some (.cells #[.int .u64 1, .int .i64 0, .int .i64 0] 336 (0, 0)) := by rw [← hw1]; exact blkOld (blkNew w _) _
  have hB1 : Below w.heap.size w w1 := by rw [← hw1]; exact ((Below.refl _ _).alloc (Nat.le_refl _) _).alloc (by simp) _
  clear hw1
  have hl1 := blkLt hb1
  have c0 : w1.cell? ⟨w.heap.size, 0, none⟩ = some (.int .u64 1) := blkCell hb1 0 rfl
  go_wp2_with fail
  have hcon : AppOK (w1.alloc (.cells #[.int .u8 80, .int .u8 76, .int .u8 70, .int .u8 84] 5 (4, 5))) w1.heap.size (.slice (some ⟨w1.heap.size, 0, none⟩) 4 4) 4 [.int .u8 80, .int .u8 76, .int .u8 70, .int .u8 84] :=
    .inr ⟨w1.heap.size, rfl, rfl, fun j u hj => blkCell (blkNew w1 _) j (by simpa using hj)⟩
  refine (super_put _ w1.heap.size 4 8 _ 1 _ (by omega) (by omega) (by omega) hcon (by simp)).mono ?_
  rintro e w2 ⟨v2, rfl, hO2, hB2, hS2⟩
  clear hcon c0
  have hb2 := blkBelow (blkOld hb1 _) hB2 hl1
  have c1 : w2.cell? ⟨w.heap.size, 1, none⟩ = some (.int .i64 0) := blkCell hb2 1 rfl
  go_wp2_with (at_builtin; refine wpList_byte _ rfl _ _ rfl w1.heap.size _ _ _ rfl (.inl hO2) _ rfl (by omega) hS2 ?_; intro v3 w3 hO3 hB3 hS3 _; clear c1; have hb3 := blkBelow hb2 hB3 hl1; have c2 : w3.cell? ⟨w.heap.size, 2, none⟩ = some (.int .i64 0) := blkCell hb3 2 rfl)
  refine (super_put _ w1.heap.size _ 4 _ _ _ (by omega) (by omega) (by omega) (.inl hO3) hS3).mono ?_
  rintro e w4 ⟨v4, rfl, hO4, hB4, hS4⟩
  obtain ⟨g4, k4, rfl, hg4, hl4⟩ := hO4.form (by omega)
  have hby4 : IsBytes ([Value.int .u8 80, .int .u8 76, .int .u8 70, .int .u8 84] ++ beB 1 8 8 ++ [Value.int .u8 0] ++ beB 0 4 4) := by
    refine ((IsBytes.app ?_ (beB_bytes _ _ _)).app ?_).app (beB_bytes _ _ _)
    · intro v hv; simp only [List.mem_cons, List.mem_nil_iff, or_false] at hv; rcases hv with rfl | rfl | rfl | rfl <;> exact ⟨_, rfl⟩
    · intro v hv; simp only [List.mem_cons, List.mem_nil_iff, or_false] at hv; subst hv; exact ⟨_, rfl⟩
  go_wp2_with fail
  refine (Long_own hO4 hby4 (by omega)).mono ?_
  rintro e w' ⟨q, rfl, rfl⟩
  go_wp2_with fail
  refine (super_put _ w1.heap.size _ 4 _ _ _ (by omega) (by omega) (by omega) (.inl hO4) hS4).mono ?_
  rintro e w5 ⟨v5, rfl, hO5, hB5, hS5⟩
  obtain ⟨g5, k5, rfl, hg5, hl5⟩ := hO5.form (by omega)
  go_wp2_with (at_builtin; refine wpList_zeros _ rfl _ _ rfl rfl w1.heap.size _ _ 107 _ rfl rfl hO5 (by omega) (by omega) (by omega) hS5 ?_; intro v6 w6 hO6 hB6 hS6; obtain ⟨g6, k6, rfl, hg6, hl6⟩ := hO6.form (by omega))
  go_ret2
  refine ⟨g6, k6, _, rfl, ⟨hO6.1, hO6.2.imp id ?_⟩, ?_, ?_⟩
  · rintro ⟨g', cap, cur, e, hbg, rest⟩
    exact ⟨g', cap, cur, e, by omega, rest⟩
  · refine (hby4.app (beB_bytes _ _ _)).app ?_
    intro v hv; rw [List.eq_of_mem_replicate hv]; exact ⟨_, rfl⟩
  · have hx : ∀ {a b : World}, Below w1.heap.size a b → Below w.heap.size a b := fun h => ⟨h.os, h.tape, h.output, h.size, fun k hk => h.block k (by omega)⟩
    exact (hB1.alloc (by omega) _).trans ((hx hB2).trans ((hx hB3).trans ((hx hB4).trans ((hx hB5).trans (hx hB6)))))
end Go.Proofs.YtfdbffopcdpfeaaGreatDoor
