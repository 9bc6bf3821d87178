/- Words that a desk tells: that they come at all. -/
import Derived.Test.YtfdbffopcdpfeaaGreatDoorProg
import Derived.WalkKit
import Derived.WalkSpells
import Derived.WalkLawsBesides
import Derived.Deep.QuietTactic
import Derived.BigQuiet
import Derived.Lib.Hide
import Derived.Deep.RegionHeld3
import Derived.Deep.DrawnRows
import Derived.Deep.AppendLies
import Derived.Deep.RegionLaw
import Derived.Lib.AppendZerosOnto
import Derived.Lib.SlBytesConst
import Derived.Test.YtfdbffopcdpfeaaGreatDoorShelf
import Derived.Test.YtfdbffopcdpfeaaGreatDoorBase
import Derived.Test.YtfdbffopcdpfeaaGreatDoorSt
import Derived.Test.YtfdbffopcdpfeaaGreatDoorDisk
import Derived.Test.YtfdbffopcdpfeaaGreatDoorDisk2
import Derived.Test.YtfdbffopcdpfeaaGreatDoorDisk3
import Derived.Test.YtfdbffopcdpfeaaGreatDoorDisk4
import Derived.Test.YtfdbffopcdpfeaaGreatDoorSums
import Derived.Test.YtfdbffopcdpfeaaGreatDoorSuper
import Derived.Test.YtfdbffopcdpfeaaGreatDoorZero
import Derived.Test.YtfdbffopcdpfeaaGreatDoorSuper2
import Derived.Test.YtfdbffopcdpfeaaGreatDoorSuper3
import Derived.Test.YtfdbffopcdpfeaaGreatDoorSuper4
import Derived.Test.YtfdbffopcdpfeaaGreatDoorJour
import Derived.Test.YtfdbffopcdpfeaaGreatDoorJour2
import Derived.Test.YtfdbffopcdpfeaaGreatDoorFlush
import Derived.Test.YtfdbffopcdpfeaaGreatDoorBoot
import Derived.Test.YtfdbffopcdpfeaaGreatDoorWorld
import Derived.Test.YtfdbffopcdpfeaaGreatDoorLines
set_option linter.unusedVariables false
set_option linter.unusedSimpArgs false
namespace Go.Proofs.YtfdbffopcdpfeaaGreatDoor
open Go.RowKit
attribute [local go_sem ↓] Go.wp_at_zero Go.wp_at_succ

open Go
theorem belowGrown {B : Nat} {w W w1 : World} (h : Below B w W) (hg : W.grownBy w1 none) (hB : B ≤ W.heap.size) : Below B w w1 := h.trans ⟨hg.os, hg.tape, hg.output, hg.size, fun k hk => hg.block k (Nat.lt_of_lt_of_le hk hB) (by simp)⟩
def SomeS (w : World) (e : Ending) (w' : World) : Prop := ∃ s : ByteArray, e = .returned (.string s) ∧ Below w.heap.size w w'
theorem itoa_lit (n : Nat) (hn : n < 100) (l : List UInt8) (h : Lib.decDigits n = l) (w : World) : Calls Tryz.prog 23 #[.int .i64 n] w fun e w' => e = .returned (.string ⟨l.toArray⟩) ∧ w = w' :=
  (Tryz.strconv_Itoa_small n hn w).mono (fun e w' ⟨h1, h2⟩ => ⟨by rw [← h]; exact h1, h2.symm⟩)
theorem dec4 : Lib.decDigits 4 = [52] := by kernel_rfl
theorem tell_err4 (v : Value) (w : World) : Calls Tryz.prog 50 #[.int .i64 4, v] w fun e w' => e = .returned (.string ⟨#[101, 114, 114, 32, 52]⟩) ∧ w = w' := by
  go_enter Tryz.func50, Tryz.ntmps50
  go_wp2_with (go_at_call 23; refine (itoa_lit 4 (by omega) [52] dec4 _).mono ?_; rintro e w' ⟨rfl, rfl⟩)
  go_ret
  exact ⟨rfl, rfl⟩
theorem str_info : (Tryz.prog.info? 9).map (fun i => (i.zero, i.size, i.bytes)) = some (some (.string ⟨#[]⟩), 1, 16) := by kernel_rfl
set_option maxRecDepth 10000 in
theorem tell_ok1 (g : Nat) (x : ByteArray) (hx : x.size ≤ 100) (w : World) (hc : w.cell? ⟨g, 0, none⟩ = some (.string x)) : Calls Tryz.prog 50 #[.int .i64 0, .slice (some ⟨g, 0, none⟩) 1 1] w (SomeS w) := by
  obtain ⟨i0, hi0, hz0, hz1, hz2⟩ := info_parts str_info
  go_enter Tryz.func50, Tryz.ntmps50
  have hB0 : Below w.heap.size w (w.alloc (.cells #[.string ⟨#[111, 107]⟩] 9)) := (Below.refl _ _).alloc (Nat.le_refl _) _
  have hc1 : ∀ j u, [Value.string x][j]? = some u → (w.alloc (.cells #[.string ⟨#[111, 107]⟩] 9)).cell? ((⟨g, 0, none⟩ : Addr).add j) = some u := by
    intro j u hj
    rw [addZ]
    obtain rfl : j = 0 := by
      by_cases h : j = 0
      · exact h
      · rw [List.getElem?_eq_none (by simp; omega)] at hj; cases hj
    cases hj
    exact cellBelow hc hB0
  have hc2 : ∀ b, some (⟨w.heap.size, 0, none⟩ : Addr) = some b → ∀ j u, [Value.string ⟨#[111, 107]⟩][j]? = some u → (w.alloc (.cells #[.string ⟨#[111, 107]⟩] 9)).cell? (b.add j) = some u := by
    intro b hb j u hj
    cases hb
    rw [addZ]
    exact blkCell (blkNew w _) j (by simpa using hj)
  have h1c : ∀ u ∈ [Value.string x], u.oneCell' = true := by
    intro u hu
    simp only [List.mem_cons, List.mem_nil_iff, or_false] at hu
    subst hu; rfl
  have hl : w.heap.size < w.heap.size + 1 := by omega
  go_wp2_with (at_builtin; go_loud (refine wpList_append_grows _ rfl (.tmp 10) (.tmp 11) 39 rfl 9 i0 (.string ⟨#[]⟩) 1 16 Tryz.underlying39 hi0 hz0 hz1 hz2 rfl (by decide) (some ⟨w.heap.size, 0, none⟩) 1 1 [.string ⟨#[111, 107]⟩] rfl (fun h => by cases h) rfl hc2 ⟨g, 0, none⟩ 1 1 [.string x] rfl rfl hc1 h1c (by decide) (by unfold maxLen; decide) (by decide) ?_; intro v' w1 hown hgrow))
  obtain ⟨hle, hv⟩ := hown
  have hv2 : ∃ g' cap cur, v' = .slice (some ⟨g', 0, none⟩) 2 cap ∧ w1.heap[g']? = some (.cells cur 9 (0, 0)) ∧ 2 ≤ cap ∧ cap ≤ maxLen ∧ cur.size = cap * 1 ∧ cur.toList.take (2 * 1) = [Value.string ⟨#[111, 107]⟩, Value.string x] := by
    rcases hv with ⟨_, h0⟩ | ⟨g', cap, cur, h1, _, h2, h3, h4, h5, h6⟩
    · cases h0
    · exact ⟨g', cap, cur, h1, h2, h3, h4, h5, h6⟩
  obtain ⟨g', cap, cur, rfl, hblk, hcap, _, hcs, htk⟩ := hv2
  have hB1 : Below w.heap.size w w1 := belowGrown hB0 hgrow (by simp)
  have hj : ∀ j y, [(⟨#[111, 107]⟩ : ByteArray), x][j]? = some y → w1.cell? ⟨g', 0 + j, none⟩ = some (.string y) := by
    intro j y hjy
    have hjl : j < 2 := (List.getElem?_eq_some_iff.1 hjy).1
    have : cur[j]? = some (.string y) := by
      have h7 : (cur.toList.take (2 * 1))[j]? = some (.string y) := by
        rw [htk, show [Value.string ⟨#[111, 107]⟩, Value.string x] = [(⟨#[111, 107]⟩ : ByteArray), x].map Value.string from rfl, List.getElem?_map, hjy]; rfl
      rw [List.getElem?_take_of_lt (by omega)] at h7
      simpa using h7
    rw [Nat.zero_add]
    exact blkCell hblk j this
  clear hc1 hc2 hle hcs htk
  refine (Tryz.strings_Join g' 0 cap [⟨#[111, 107]⟩, x] ⟨#[32]⟩ w1 hj (blkLt hblk) (by simp) hcap ?_).mono ?_
  · simp [Lib.join]; omega
  rintro e w2 ⟨rfl, hB2⟩
  go_wp2
  go_ret
  exact ⟨_, rfl, belowT hB1 hB1.size hB2⟩
theorem dec0 : Lib.decDigits 0 = [48] := by kernel_rfl
theorem dec1 : Lib.decDigits 1 = [49] := by kernel_rfl
theorem dec5 : Lib.decDigits 5 = [53] := by kernel_rfl
theorem dec7 : Lib.decDigits 7 = [55] := by kernel_rfl
theorem fmtU_lit (n : Nat) (hn : n < 100) (l : List UInt8) (h : Lib.decDigits n = l) (w : World) : Calls Tryz.prog 93 #[.int .u64 n, .int .i64 10] w fun e w' => e = .returned (.string ⟨l.toArray⟩) ∧ w = w' := by
  have hl : (n : Int) < 100 := by omega
  have h0 : 0 ≤ (n : Int) := by omega
  have c : ∀ w : World, Calls Tryz.prog 140 #[.int .i64 n] w fun e w' => e = .returned (.string ⟨l.toArray⟩) ∧ w = w' := fun w => (Tryz.internal_strconv_small n hn w).mono (fun e w' ⟨h1, h2⟩ => ⟨by rw [← h]; exact h1, h2.symm⟩)
  have d : ∀ w : World, Calls Tryz.prog 160 #[.int .u64 n, .int .i64 10] w fun e w' => e = .returned (.string ⟨l.toArray⟩) ∧ w = w' := by
    intro w
    go_enter Tryz.func160, Tryz.ntmps160
    go_wp2_with (go_at_call 140; refine (c _).mono ?_; rintro e w' ⟨rfl, rfl⟩)
    go_ret
    exact ⟨rfl, rfl⟩
  go_enter Tryz.func93, Tryz.ntmps93
  go_wp2_with (go_at_call 160; refine (d _).mono ?_; rintro e w' ⟨rfl, rfl⟩)
  go_ret
  exact ⟨rfl, rfl⟩
theorem word_nil (w : World) : Calls Tryz.prog 58 #[.slice none 0 0] w fun e w' => e = .returned (.string ⟨#[45]⟩) ∧ w = w' := by
  go_enter Tryz.func58, Tryz.ntmps58
  go_wp2
  go_ret
  exact ⟨rfl, rfl⟩
theorem tell_ok0 (w : World) : Calls Tryz.prog 50 #[.int .i64 0, .slice none 0 0] w (SomeS w) := by
  go_enter Tryz.func50, Tryz.ntmps50
  have hB0 : Below w.heap.size w (w.alloc (.cells #[.string ⟨#[111, 107]⟩] 9)) := (Below.refl _ _).alloc (Nat.le_refl _) _
  go_wp2_with fail
  have hj : ∀ j y, [(⟨#[111, 107]⟩ : ByteArray)][j]? = some y → (w.alloc (.cells #[.string ⟨#[111, 107]⟩] 9)).cell? ⟨w.heap.size, 0 + j, none⟩ = some (.string y) := by
    intro j y hjy
    rw [Nat.zero_add]
    exact blkCell (blkNew w _) j (by obtain rfl : j = 0 := (by have := (List.getElem?_eq_some_iff.1 hjy).1; simp at this; omega); cases hjy; rfl)
  refine (Tryz.strings_Join w.heap.size 0 1 [⟨#[111, 107]⟩] ⟨#[32]⟩ _ hj (by simp) (by simp) (by simp) ?_).mono ?_
  · simp [Lib.join]
  rintro e w2 ⟨rfl, hB2⟩
  go_wp2
  go_ret
  exact ⟨_, rfl, belowT hB0 hB0.size hB2⟩
theorem sizeMk (l : List UInt8) : (⟨l.toArray⟩ : ByteArray).size = l.length := by show l.toArray.size = _; simp
theorem count_ok (n : Nat) (hn : n < 100) (l : List UInt8) (h : Lib.decDigits n = l) (hl : l.length ≤ 100) (w : World) : Calls Tryz.prog 48 #[.int .i64 n, .int .i64 0] w (SomeS w) := by
  go_enter Tryz.func48, Tryz.ntmps48
  go_wp2_with (first | (go_at_call 23; refine (itoa_lit n hn l h _).mono ?_; rintro e w' ⟨rfl, rfl⟩))
  refine (tell_ok1 w.heap.size ⟨l.toArray⟩ (by rw [sizeMk]; exact hl) _ (blkCell (blkNew w _) 0 rfl)).mono ?_
  rintro e w2 ⟨s, rfl, hB2⟩
  go_wp2
  go_ret
  exact ⟨_, rfl, ((Below.refl _ _).alloc (Nat.le_refl _) _).trans (hB2.mono (by simp))⟩
set_option maxHeartbeats 400000 in
theorem said_err4 (w : World) : Calls Tryz.prog 52 #[.agg #[.int .u64 0, .int .i64 0, .int .i64 0, .int .i64 0, .int .u64 0, .slice none 0 0], .int .i64 4] w (SomeS w) := by
  go_enter Tryz.func52, Tryz.ntmps52
  go_wp2_with fail
  go_region_held3 (fun X : World => X.cell? ⟨w.heap.size, 0, none⟩ = some (.int .u64 0) ∧ X.cell? ⟨w.heap.size, 1, none⟩ = some (.int .i64 0) ∧ X.cell? ⟨w.heap.size, 2, none⟩ = some (.int .i64 0) ∧ X.cell? ⟨w.heap.size, 3, none⟩ = some (.int .i64 0) ∧ X.cell? ⟨w.heap.size, 4, none⟩ = some (.int .u64 0) ∧ X.cell? ⟨w.heap.size, 5, none⟩ = some (.slice none 0 0)) (go_keep) (first | (go_at_call 93; refine (fmtU_lit 0 (by omega) [48] dec0 _).mono ?_; rintro e w' ⟨rfl, rfl⟩) | (go_at_call 23; refine (itoa_lit 0 (by omega) [48] dec0 _).mono ?_; rintro e w' ⟨rfl, rfl⟩) | (go_at_call 58; refine (word_nil _).mono ?_; rintro e w' ⟨rfl, rfl⟩) | (go_at_call 50; refine (tell_err4 _ _).mono ?_; rintro e w' ⟨rfl, rfl⟩))
  all_goals
    go_wp2_with fail
    go_ret
    refine ⟨_, rfl, ?_⟩
    (repeat first | assumption | exact Below.refl _ _ | refine Below.drew ?_ | refine Below.alloc ?_ (by first | omega | (simp; done) | (simp; omega) | (simp [*] <;> omega)) _ | refine Below.setCell ?_ (by first | omega | (simp; done) | (simp; omega) | (simp [*] <;> omega)) _)
end Go.Proofs.YtfdbffopcdpfeaaGreatDoor
