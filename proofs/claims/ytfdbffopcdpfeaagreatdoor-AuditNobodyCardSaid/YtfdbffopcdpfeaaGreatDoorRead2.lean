/- How a desk reads a verb and two numbers. -/
import Derived.Test.YtfdbffopcdpfeaaGreatDoorProg
import Derived.WalkKit
import Derived.WalkSpells
import Derived.WalkLawsBesides
import Derived.Deep.QuietTactic
import Derived.BigQuiet
import Derived.Lib.Hide
import Derived.Deep.RegionHeld3
import Derived.Deep.DrawnRows
import Derived.Deep.AppendLies
import Derived.Deep.RegionLaw
import Derived.Lib.AppendZerosOnto
import Derived.Lib.SlBytesConst
import Derived.Test.YtfdbffopcdpfeaaGreatDoorShelf
import Derived.Test.YtfdbffopcdpfeaaGreatDoorBase
import Derived.Test.YtfdbffopcdpfeaaGreatDoorWords
import Derived.Test.YtfdbffopcdpfeaaGreatDoorRead
set_option linter.unusedVariables false
set_option linter.unusedSimpArgs false
namespace Go.Proofs.YtfdbffopcdpfeaaGreatDoor
open Go.RowKit
attribute [local go_sem ↓] Go.wp_at_zero Go.wp_at_succ

open Go
def Reads2 (v : ByteArray) (k k' : Nat) (w : World) (e : Ending) (w' : World) : Prop := ∃ g c, e = .returned (.tuple #[.agg #[.string v, .slice (some ⟨g, 0, none⟩) 2 c, .slice none 0 0, .slice none 0 0], .bool true]) ∧ w'.cell? ⟨g, 0, none⟩ = some (.int .u64 k) ∧ w'.cell? ⟨g, 1, none⟩ = some (.int .u64 k') ∧ Below w.heap.size w w'
set_option maxRecDepth 100000 in
set_option maxHeartbeats 1000000 in
theorem read_two (s v x y : ByteArray) (hv : s.size < 100) (hk : ∀ w : World, Calls Tryz.prog 44 #[.string v] w fun e w' => e = .returned (.tuple #[.string ⟨#[110, 110]⟩, .bool true]) ∧ w = w') (h1 : Lib.countB s sSp + 1 = 3) (h2 : Lib.splitB sSp 0 (Lib.countB s sSp) s = [v, x, y]) (n : Nat) (hn : ∀ w : World, Calls Tryz.prog 45 #[.string x] w fun e w' => e = .returned (.tuple #[.int .u64 n, .bool true]) ∧ Below w.heap.size w w')
    (n' : Nat) (hn' : ∀ w : World, Calls Tryz.prog 45 #[.string y] w fun e w' => e = .returned (.tuple #[.int .u64 n', .bool true]) ∧ Below w.heap.size w w') (w : World) (m : Int) (h0 : w.cell? ⟨0, 0, none⟩ = some (.int .i64 m)) :
    Calls Tryz.prog 30 #[.string s] w (Reads2 v n n' w) := by
  have h0' : (w.alloc (.cells #[.string ⟨#[]⟩, .slice none 0 0, .slice none 0 0, .slice none 0 0] 71)).cell? ⟨0, 0, none⟩ = some (.int .i64 m) := cellBelow h0 ((Below.refl _ _).alloc (Nat.le_refl _) _)
  obtain ⟨i0, hi0, hz0, hz1, hz2⟩ := info_parts u64_info
  go_enter Tryz.func30, Tryz.ntmps30
  go_wp2_with fail
  refine (split_lit s [v, x, y] h1 h2 (by omega) _ m h0').mono ?_
  rintro e w' ⟨rfl, rfl⟩
  go_wp2_with (first | (go_at_call 44; refine (hk _).mono ?_; rintro e w' ⟨rfl, rfl⟩))
  refine wp_loop_rounds 3 ?_
  rw [rounds_succ]
  go_wp2_with fail
  refine (hn _).mono ?_
  rintro e w1 ⟨rfl, hB1⟩
  obtain ⟨ba, bb, bc, hB⟩ := askBlks hB1
  clear hB1
  have c0 := blkCell bc 1 (v := .slice none 0 0) rfl
  have h1c : ∀ k : Nat, ∀ u ∈ [Value.int .u64 k], u.oneCell' = true := by
    intro k u hu
    simp only [List.mem_cons, List.mem_nil_iff, or_false] at hu
    subst hu; rfl
  go_wp2_with (at_builtin; (refine wpList_append_grows _ rfl (.tmp 60) (.tmp 62) 67 rfl 61 i0 (.int .u64 0) 1 8 Tryz.underlying67 hi0 hz0 hz1 hz2 rfl (by decide) none 0 0 [] rfl (fun _ => ⟨rfl, rfl⟩) rfl (fun b h => by cases h) ⟨w1.heap.size, 0, none⟩ 1 1 [.int .u64 n] rfl rfl (cell_one_new _ _ _) (h1c n) (by decide) (by unfold maxLen; decide) (by decide) ?_; intro v' w2 hown hgrow; obtain ⟨g, cap, cur, rfl, hgs, hge, hgb, hc1, hcm, hcs, hct⟩ := ownN (by simp) hown; have hB2 := belowNone hgrow; have ba2 := blkBelow (blkOld ba _) hB2 (by have := blkLt ba; simp; omega); have bb2 := blkBelow (blkOld bb _) hB2 (by have := blkLt bb; simp; omega); have bc2 := blkBelow (blkOld bc _) hB2 (by have := blkLt bc; simp; omega); have hBB := belowGrown (hB.alloc hB.size _) hgrow (by have := hB.size; simp; omega); have hgl := blkLt bc; simp only [sizeAlloc] at hge; clear ba bb bc hB2 hown hgrow c0 hgs; have c0 := blkCell bb2 2 (v := .string y) rfl; have f1 := blkFree bc2 1; have c1 := blkCell bc2 1 (v := .slice none 0 0) rfl))
  rw [rounds_succ]
  have hgne : w.heap.size + 1 + 1 ≠ g := by omega
  have hn3 : w.heap.size + 1 + 1 ≠ w.heap.size := by omega
  have hn4 : w.heap.size + 1 + 1 ≠ w.heap.size + 1 := by omega
  have ba3 := blkFar ba2 hn3.symm 1 (.slice (some ⟨g, 0, none⟩) 1 cap)
  have bb3 := blkFar bb2 hn4.symm 1 (.slice (some ⟨g, 0, none⟩) 1 cap)
  have bg3 := blkFar hgb hgne.symm 1 (.slice (some ⟨g, 0, none⟩) 1 cap)
  have bc3 := blkSet bc2 1 (.slice (some ⟨g, 0, none⟩) 1 cap)
  have hB3 := hBB.setCell (p := ⟨w.heap.size + 1 + 1, 1, none⟩) (by show _ ≤ w.heap.size + 1 + 1; omega) (.slice (some ⟨g, 0, none⟩) 1 cap)
  go_wp2_with fail
  refine (hn' _).mono ?_
  rintro e w4 ⟨rfl, hB4⟩
  have ba4 := blkBelow ba3 hB4 (blkLt ba3)
  have bb4 := blkBelow bb3 hB4 (blkLt bb3)
  have bg4 := blkBelow bg3 hB4 (blkLt bg3)
  have bc4 := blkBelow bc3 hB4 (blkLt bc3)
  have hB5 := hB3.trans (hB4.mono hB3.size)
  clear ba2 bb2 bc2 hgb hBB ba3 bb3 bg3 bc3 hB3 hB4 c0 f1 c1
  have c1 := blkCell bc4 1 (v := .slice (some ⟨g, 0, none⟩) 1 cap) rfl
  have hown4 : w4.ownsRow (w.heap.size + 1 + 1 + 1) 61 1 (.slice (some ⟨g, 0, none⟩) 1 cap) 1 [.int .u64 n] := ⟨rfl, .inr ⟨g, cap, cur, rfl, by omega, bg4, hc1, hcm, hcs, hct⟩⟩
  have hgl4 := blkLt bg4
  have hg4 := blkLt bc4
  go_wp2_with (at_builtin; go_loud (refine wpList_append_own_at _ rfl (.tmp 60) (.tmp 62) 67 rfl (w.heap.size + 1 + 1 + 1) 61 i0 (.int .u64 0) 1 8 Tryz.underlying67 hi0 hz0 hz1 hz2 rfl (by decide) (.slice (some ⟨g, 0, none⟩) 1 cap) 1 [.int .u64 n] rfl (hown4.alloc _) ⟨w4.heap.size, 0, none⟩ 1 1 [.int .u64 n'] rfl rfl (cell_one_new _ _ _) (h1c n') (by unfold maxLen; decide) (by decide) (by simp; omega) ?_); intro v' w5 hown hgrow _ _; obtain ⟨g', cap', cur', rfl, hgs, hge', hgb', _⟩ := ownN (by simp) hown; have ba5 := (hgrow.block w.heap.size (by simp; omega) (by simp [Value.ownBlock]; omega)).trans (blkOld ba4 _);  have bc5 := (hgrow.block (w.heap.size + 1 + 1) (by simp; omega) (by simp [Value.ownBlock]; omega)).trans (blkOld bc4 _); have hB6 := (hB5.alloc hB5.size _).grown hgrow (by have := hB5.size; simp; omega) (by intro k hk; simp [Value.ownBlock] at hk; omega); have hg0 := hgs 0 _ rfl; have hg1 := hgs 1 _ rfl; clear ba4 bb4 bc4 hB5 hown hgrow hgs bg4 hown4 c1; have c0 := blkCell bc5 0 (v := .string v) rfl; have c1 := blkCell bc5 1 (v := .slice (some ⟨g, 0, none⟩) 1 cap) rfl; have c2 := blkCell bc5 2 (v := .slice none 0 0) rfl; have c3 := blkCell bc5 3 (v := .slice none 0 0) rfl; have f1 := blkFree bc5 1; have d0 := blkCell ba5 0 (v := .string ⟨#[]⟩) rfl; have d1 := blkCell ba5 1 (v := .slice none 0 0) rfl; have d2 := blkCell ba5 2 (v := .slice none 0 0) rfl; have d3 := blkCell ba5 3 (v := .slice none 0 0) rfl; have g0 := blkFree ba5 0; have g1 := blkFree ba5 1; have g2 := blkFree ba5 2; have g3 := blkFree ba5 3)
  rw [rounds_succ]
  have hgne1 : w.heap.size + 1 + 1 ≠ g' := by omega
  have hgne2 : w.heap.size ≠ g' := by omega
  have hn3' := hn3.symm
  go_wp2
  refine bodyPost_ret (v := .tuple #[.agg #[.string v, .slice (some ⟨g', 0, none⟩) 2 cap', .slice none 0 0, .slice none 0 0], .bool true]) (by simp [results, Tryz.results30, go_sem, d0, d1, d2, d3]) rfl ⟨g', cap', rfl, ?_, ?_, ?_⟩
  · rw [cellFar hgne2, cellFar hgne2, cellFar hgne2, cellFar hgne2, cellFar hgne1]; exact hg0
  · rw [cellFar hgne2, cellFar hgne2, cellFar hgne2, cellFar hgne2, cellFar hgne1]; exact hg1
  · exact ((((hB6.setCell (by show _ ≤ w.heap.size + 1 + 1; omega) _).setCell (Nat.le_refl _) _).setCell (Nat.le_refl _) _).setCell (Nat.le_refl _) _).setCell (Nat.le_refl _) _
end Go.Proofs.YtfdbffopcdpfeaaGreatDoor
