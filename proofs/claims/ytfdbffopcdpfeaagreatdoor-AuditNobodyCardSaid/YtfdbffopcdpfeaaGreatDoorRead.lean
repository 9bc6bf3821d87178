/- How a desk reads the audit's fixed lines. -/
import Derived.Test.YtfdbffopcdpfeaaGreatDoorProg
import Derived.WalkKit
import Derived.WalkSpells
import Derived.WalkLawsBesides
import Derived.Deep.QuietTactic
import Derived.BigQuiet
import Derived.Lib.Hide
import Derived.Deep.RegionHeld3
import Derived.Deep.DrawnRows
import Derived.Deep.AppendLies
import Derived.Deep.RegionLaw
import Derived.Lib.AppendZerosOnto
import Derived.Lib.SlBytesConst
import Derived.Test.YtfdbffopcdpfeaaGreatDoorShelf
import Derived.Test.YtfdbffopcdpfeaaGreatDoorBase
import Derived.Test.YtfdbffopcdpfeaaGreatDoorWords
set_option linter.unusedVariables false
set_option linter.unusedSimpArgs false
namespace Go.Proofs.YtfdbffopcdpfeaaGreatDoor
open Go.RowKit
attribute [local go_sem ↓] Go.wp_at_zero Go.wp_at_succ

open Go
/-- The byte strings of the fixed calls. -/
def sConnect : ByteArray := ⟨#[99, 111, 110, 110, 101, 99, 116]⟩
abbrev sSp : ByteArray := ⟨#[32]⟩
theorem split_lit (s : ByteArray) (xs : List ByteArray) (h1 : Lib.countB s sSp + 1 = xs.length) (h2 : Lib.splitB sSp 0 (Lib.countB s sSp) s = xs) (hs : s.size < 4294967281) (w : World) (m : Int) (h0 : w.cell? ⟨0, 0, none⟩ = some (.int .i64 m)) :
    Calls Tryz.prog 12 #[.string s, .string ⟨#[32]⟩] w fun e w' => e = .returned (.slice (some ⟨w.heap.size, 0, none⟩) xs.length xs.length) ∧ w.alloc (.cells (xs.map Value.string).toArray 9) = w' := by
  refine (Tryz.strings_Split s sSp m w hs h0 (by decide)).mono ?_
  rintro e w' ⟨he, hw⟩
  exact ⟨by rw [he, h1], by rw [hw, h2]⟩
theorem kinds_connect (w : World) : Calls Tryz.prog 44 #[.string ⟨#[99, 111, 110, 110, 101, 99, 116]⟩] w fun e w' => e = .returned (.tuple #[.string ⟨#[]⟩, .bool true]) ∧ w = w' := by
  go_enter Tryz.func44, Tryz.ntmps44
  go_wp2; go_ret2; exact ⟨rfl, rfl⟩
theorem kinds_now (w : World) : Calls Tryz.prog 44 #[.string ⟨#[110, 111, 119]⟩] w fun e w' => e = .returned (.tuple #[.string ⟨#[]⟩, .bool true]) ∧ w = w' := by
  go_enter Tryz.func44, Tryz.ntmps44
  go_wp2; go_ret2; exact ⟨rfl, rfl⟩
theorem kinds_tick (w : World) : Calls Tryz.prog 44 #[.string ⟨#[116, 105, 99, 107]⟩] w fun e w' => e = .returned (.tuple #[.string ⟨#[110]⟩, .bool true]) ∧ w = w' := by
  go_enter Tryz.func44, Tryz.ntmps44
  go_wp2; go_ret2; exact ⟨rfl, rfl⟩
theorem kinds_run (w : World) : Calls Tryz.prog 44 #[.string ⟨#[114, 117, 110]⟩] w fun e w' => e = .returned (.tuple #[.string ⟨#[110, 110]⟩, .bool true]) ∧ w = w' := by
  go_enter Tryz.func44, Tryz.ntmps44
  go_wp2; go_ret2; exact ⟨rfl, rfl⟩
theorem kinds_what (w : World) : Calls Tryz.prog 44 #[.string ⟨#[119, 104, 97, 116]⟩] w fun e w' => e = .returned (.tuple #[.string ⟨#[]⟩, .bool false]) ∧ w = w' := by
  go_enter Tryz.func44, Tryz.ntmps44
  go_wp2; go_ret2; exact ⟨rfl, rfl⟩
theorem number_lit (n : Nat) (hn : n < 100) (l : List UInt8) (h : Lib.decDigits n = l) (hp : Lib.parseUintB 64 l = .ok n) (hl : l.length ≤ 100) (w : World) : Calls Tryz.prog 45 #[.string ⟨l.toArray⟩] w fun e w' => e = .returned (.tuple #[.int .u64 n, .bool true]) ∧ Below w.heap.size w w' := by
  have c : Calls Tryz.prog 92 #[.string ⟨l.toArray⟩, .int .i64 10, .int .i64 64] w fun e w' => e = .returned (.tuple #[.int .u64 n, .nilIface]) ∧ Below w.heap.size w w' := by
    refine (Tryz.strconv_ParseUint_10_at64_ok ⟨l.toArray⟩ (by rw [sizeMk]; omega) n (by simpa using hp) w).mono ?_
    rintro e w' ⟨he, hw | hw⟩
    · exact ⟨he, hw ▸ Below.refl _ _⟩
    · refine ⟨he, hw ▸ ?_⟩
      exact Lib.bytesWorld_below _ _ _
  have h1 : (n : Int) ≤ 2147483648 := by omega
  have h0 : 0 ≤ (n : Int) := by omega
  go_enter Tryz.func45, Tryz.ntmps45
  go_wp2_with (first | (go_at_call 92; refine (c).mono ?_; rintro e w1 ⟨rfl, hB⟩) | (go_at_call 93; refine (fmtU_lit n hn l h _).mono ?_; rintro e w' ⟨rfl, rfl⟩))
  go_ret2
  exact ⟨rfl, hB⟩
def Reads0 (v : ByteArray) (w : World) (e : Ending) (w' : World) : Prop := e = .returned (.tuple #[.agg #[.string v, .slice none 0 0, .slice none 0 0, .slice none 0 0], .bool true]) ∧ Below w.heap.size w w'
theorem ask_info : (Tryz.prog.info? 71).map (·.size) = some 4 := by kernel_rfl
theorem read_none (v : ByteArray) (hv : v.size < 100) (hk : ∀ w : World, Calls Tryz.prog 44 #[.string v] w fun e w' => e = .returned (.tuple #[.string ⟨#[]⟩, .bool true]) ∧ w = w') (h1 : Lib.countB v sSp + 1 = 1) (h2 : Lib.splitB sSp 0 (Lib.countB v sSp) v = [v]) (w : World) (m : Int) (h0 : w.cell? ⟨0, 0, none⟩ = some (.int .i64 m)) :
    Calls Tryz.prog 30 #[.string v] w (Reads0 v w) := by
  have h0' : (w.alloc (.cells #[.string ⟨#[]⟩, .slice none 0 0, .slice none 0 0, .slice none 0 0] 71)).cell? ⟨0, 0, none⟩ = some (.int .i64 m) := cellBelow h0 ((Below.refl _ _).alloc (Nat.le_refl _) _)
  go_enter Tryz.func30, Tryz.ntmps30
  go_wp2_with fail
  refine (split_lit v [v] h1 h2 (by omega) _ m h0').mono ?_
  rintro e w' ⟨rfl, rfl⟩
  go_wp2_with (first | (go_at_call 44; refine (hk _).mono ?_; rintro e w' ⟨rfl, rfl⟩))
  refine wp_loop_rounds 1 ?_
  rw [rounds_succ]
  go_wp2
  refine bodyPost_ret (v := .tuple #[.agg #[.string v, .slice none 0 0, .slice none 0 0, .slice none 0 0], .bool true]) (by simp [results, Tryz.results30, go_sem]) rfl ⟨rfl, ?_⟩
  (repeat first | assumption | exact Below.refl _ _ | refine Below.drew ?_ | refine Below.alloc ?_ (by first | omega | (simp; done) | (simp; omega) | (simp [*] <;> omega)) _ | refine Below.setCell ?_ (by first | omega | (simp; done) | (simp; omega) | (simp [*] <;> omega)) _)

theorem u64_info : (Tryz.prog.info? 61).map (fun i => (i.zero, i.size, i.bytes)) = some (some (.int .u64 0), 1, 8) := by kernel_rfl
theorem belowNone {w w1 : World} (hg : w.grownBy w1 none) : Below w.heap.size w w1 := ⟨hg.os, hg.tape, hg.output, hg.size, fun k hk => hg.block k hk (by simp)⟩
theorem ownN {w : World} {b n : Nat} {t : TypeId} {v : Value} {xs : List Value} (hx : xs ≠ []) (h : w.ownsRow b t 1 v n xs) : ∃ g c cur, v = .slice (some ⟨g, 0, none⟩) n c ∧ (∀ j u, xs[j]? = some u → w.cell? ⟨g, j, none⟩ = some u) ∧ b ≤ g ∧ w.heap[g]? = some (.cells cur t (0, 0)) ∧ n ≤ c ∧ c ≤ maxLen ∧ cur.size = c * 1 ∧ cur.toList.take (n * 1) = xs := by
  obtain ⟨hl, ⟨_, rfl⟩ | ⟨g, cap, cur, h1, hb, h2, h3, h4, h5, h6⟩⟩ := h
  · exact absurd (List.eq_nil_of_length_eq_zero (by simpa using hl)) hx
  · refine ⟨g, cap, cur, h1, fun j u hj => blkCell h2 j ?_, hb, h2, h3, h4, h5, h6⟩
    have hjl : j < xs.length := (List.getElem?_eq_some_iff.1 hj).1
    have h7 : (cur.toList.take (n * 1))[j]? = some u := by rw [h6]; exact hj
    rw [List.getElem?_take_of_lt (by omega)] at h7
    simpa using h7
theorem cellFar {w : World} {b c i j : Nat} {v : Value} (h : b ≠ c) : (w.setCell ⟨b, j, none⟩ v).cell? ⟨c, i, none⟩ = w.cell? ⟨c, i, none⟩ := by
  apply World.cell?_of_block
  show (w.heap.modify b _)[c]? = _
  rw [Array.getElem?_modify, if_neg h]
/-- The blocks that the reading of a line makes first. -/
theorem askBlks {w w1 : World} {a b c : Obj} (h : Below (((w.alloc a).alloc b).alloc c).heap.size (((w.alloc a).alloc b).alloc c) w1) : w1.heap[w.heap.size]? = some a ∧ w1.heap[w.heap.size + 1]? = some b ∧ w1.heap[w.heap.size + 1 + 1]? = some c ∧ Below w.heap.size w w1 := by
  refine ⟨blkBelow (blkOld (blkOld (blkNew w a) b) c) h (by simp; omega), blkBelow (blkOld (by simpa using blkNew (w.alloc a) b) c) h (by simp), blkBelow (by simpa using blkNew ((w.alloc a).alloc b) c) h (by simp), ?_⟩
  exact ((((Below.refl _ _).alloc (Nat.le_refl _) a).alloc (by simp) b).alloc (by simp; omega) c).trans (h.mono (by simp; omega))
/-- A line that is a verb and one number. -/
def Reads1 (v : ByteArray) (k : Nat) (w : World) (e : Ending) (w' : World) : Prop := ∃ g c, e = .returned (.tuple #[.agg #[.string v, .slice (some ⟨g, 0, none⟩) 1 c, .slice none 0 0, .slice none 0 0], .bool true]) ∧ w'.cell? ⟨g, 0, none⟩ = some (.int .u64 k) ∧ Below w.heap.size w w'
set_option maxRecDepth 100000 in
set_option maxHeartbeats 400000 in
theorem read_one (s v x : ByteArray) (hv : s.size < 100) (hk : ∀ w : World, Calls Tryz.prog 44 #[.string v] w fun e w' => e = .returned (.tuple #[.string ⟨#[110]⟩, .bool true]) ∧ w = w') (h1 : Lib.countB s sSp + 1 = 2) (h2 : Lib.splitB sSp 0 (Lib.countB s sSp) s = [v, x]) (n : Nat) (hn : ∀ w : World, Calls Tryz.prog 45 #[.string x] w fun e w' => e = .returned (.tuple #[.int .u64 n, .bool true]) ∧ Below w.heap.size w w') (w : World) (m : Int) (h0 : w.cell? ⟨0, 0, none⟩ = some (.int .i64 m)) :
    Calls Tryz.prog 30 #[.string s] w (Reads1 v n w) := by
  have h0' : (w.alloc (.cells #[.string ⟨#[]⟩, .slice none 0 0, .slice none 0 0, .slice none 0 0] 71)).cell? ⟨0, 0, none⟩ = some (.int .i64 m) := cellBelow h0 ((Below.refl _ _).alloc (Nat.le_refl _) _)
  obtain ⟨i0, hi0, hz0, hz1, hz2⟩ := info_parts u64_info
  go_enter Tryz.func30, Tryz.ntmps30
  go_wp2_with fail
  refine (split_lit s [v, x] h1 h2 (by omega) _ m h0').mono ?_
  rintro e w' ⟨rfl, rfl⟩
  go_wp2_with (first | (go_at_call 44; refine (hk _).mono ?_; rintro e w' ⟨rfl, rfl⟩))
  refine wp_loop_rounds 2 ?_
  rw [rounds_succ]
  go_wp2_with fail
  refine (hn _).mono ?_
  rintro e w1 ⟨rfl, hB1⟩
  obtain ⟨ba, bb, bc, hB⟩ := askBlks hB1
  clear hB1
  have c0 := blkCell bc 1 (v := .slice none 0 0) rfl
  have h1c : ∀ u ∈ [Value.int .u64 n], u.oneCell' = true := by
    intro u hu
    simp only [List.mem_cons, List.mem_nil_iff, or_false] at hu
    subst hu; rfl
  go_wp2_with (at_builtin; go_loud (refine wpList_append_grows _ rfl (.tmp 60) (.tmp 62) 67 rfl 61 i0 (.int .u64 0) 1 8 Tryz.underlying67 hi0 hz0 hz1 hz2 rfl (by decide) none 0 0 [] rfl (fun _ => ⟨rfl, rfl⟩) rfl (fun b h => by cases h) ⟨w1.heap.size, 0, none⟩ 1 1 [.int .u64 n] rfl rfl (cell_one_new _ _ _) h1c (by decide) (by unfold maxLen; decide) (by decide) ?_); intro v' w2 hown hgrow; obtain ⟨g, cap, _, rfl, hgs, hge, _⟩ := ownN (by simp) hown; have hg := hgs 0 _ rfl; have hB2 := belowNone hgrow; have ba2 := blkBelow (blkOld ba _) hB2 (by have := blkLt ba; simp; omega); have bb2 := blkBelow (blkOld bb _) hB2 (by have := blkLt bb; simp; omega); have bc2 := blkBelow (blkOld bc _) hB2 (by have := blkLt bc; simp; omega); have hBB := belowGrown (hB.alloc hB.size _) hgrow (by have := hB.size; simp; omega); have hgl := blkLt bc; simp only [sizeAlloc] at hge; clear ba bb bc hB2 hown hgrow c0 hgs; have c0 := blkCell bc2 0 (v := .string v) rfl; have c1 := blkCell bc2 1 (v := .slice none 0 0) rfl; have c2 := blkCell bc2 2 (v := .slice none 0 0) rfl; have c3 := blkCell bc2 3 (v := .slice none 0 0) rfl; have f1 := blkFree bc2 1; have d0 := blkCell ba2 0 (v := .string ⟨#[]⟩) rfl; have d1 := blkCell ba2 1 (v := .slice none 0 0) rfl; have d2 := blkCell ba2 2 (v := .slice none 0 0) rfl; have d3 := blkCell ba2 3 (v := .slice none 0 0) rfl; have g0 := blkFree ba2 0; have g1 := blkFree ba2 1; have g2 := blkFree ba2 2; have g3 := blkFree ba2 3)
  rw [rounds_succ]
  have hne : w.heap.size + 1 + 1 ≠ w.heap.size := by omega
  have hne2 : w.heap.size ≠ w.heap.size + 1 + 1 := by omega
  have hgne : w.heap.size + 1 + 1 ≠ g := by omega
  have hgne2 : w.heap.size ≠ g := by omega
  go_wp2
  refine bodyPost_ret (v := .tuple #[.agg #[.string v, .slice (some ⟨g, 0, none⟩) 1 cap, .slice none 0 0, .slice none 0 0], .bool true]) (by simp [results, Tryz.results30, go_sem, d0, d1, d2, d3]) rfl ⟨g, cap, rfl, ?_, ?_⟩
  · rw [cellFar hgne2, cellFar hgne2, cellFar hgne2, cellFar hgne2, cellFar hgne]; exact hg
  · exact ((((hBB.setCell (by show _ ≤ w.heap.size + 1 + 1; omega) _).setCell (Nat.le_refl _) _).setCell (Nat.le_refl _) _).setCell (Nat.le_refl _) _).setCell (Nat.le_refl _) _
end Go.Proofs.YtfdbffopcdpfeaaGreatDoor
