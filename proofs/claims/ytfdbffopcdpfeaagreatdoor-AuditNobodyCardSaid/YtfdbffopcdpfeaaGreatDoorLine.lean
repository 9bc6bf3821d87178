/- The audit's fixed lines, asked of a new desk. -/
import Derived.Test.YtfdbffopcdpfeaaGreatDoorProg
import Derived.WalkKit
import Derived.WalkSpells
import Derived.WalkLawsBesides
import Derived.Deep.QuietTactic
import Derived.BigQuiet
import Derived.Lib.Hide
import Derived.Deep.RegionHeld3
import Derived.Deep.DrawnRows
import Derived.Deep.AppendLies
import Derived.Deep.RegionLaw
import Derived.Lib.AppendZerosOnto
import Derived.Lib.SlBytesConst
import Derived.Test.YtfdbffopcdpfeaaGreatDoorShelf
import Derived.Test.YtfdbffopcdpfeaaGreatDoorBase
import Derived.Test.YtfdbffopcdpfeaaGreatDoorSt
import Derived.Test.YtfdbffopcdpfeaaGreatDoorDisk
import Derived.Test.YtfdbffopcdpfeaaGreatDoorDisk2
import Derived.Test.YtfdbffopcdpfeaaGreatDoorDisk3
import Derived.Test.YtfdbffopcdpfeaaGreatDoorDisk4
import Derived.Test.YtfdbffopcdpfeaaGreatDoorSums
import Derived.Test.YtfdbffopcdpfeaaGreatDoorSuper
import Derived.Test.YtfdbffopcdpfeaaGreatDoorZero
import Derived.Test.YtfdbffopcdpfeaaGreatDoorSuper2
import Derived.Test.YtfdbffopcdpfeaaGreatDoorSuper3
import Derived.Test.YtfdbffopcdpfeaaGreatDoorSuper4
import Derived.Test.YtfdbffopcdpfeaaGreatDoorJour
import Derived.Test.YtfdbffopcdpfeaaGreatDoorJour2
import Derived.Test.YtfdbffopcdpfeaaGreatDoorFlush
import Derived.Test.YtfdbffopcdpfeaaGreatDoorBoot
import Derived.Test.YtfdbffopcdpfeaaGreatDoorWorld
import Derived.Test.YtfdbffopcdpfeaaGreatDoorLines
import Derived.Test.YtfdbffopcdpfeaaGreatDoorWords
import Derived.Test.YtfdbffopcdpfeaaGreatDoorRead
import Derived.Test.YtfdbffopcdpfeaaGreatDoorRead2
import Derived.Test.YtfdbffopcdpfeaaGreatDoorDo
set_option linter.unusedVariables false
set_option linter.unusedSimpArgs false
namespace Go.Proofs.YtfdbffopcdpfeaaGreatDoor
open Go.RowKit
attribute [local go_sem ↓] Go.wp_at_zero Go.wp_at_succ

open Go
def LineOK (D M : Nat) (w : World) (e : Ending) (w' : World) : Prop := ∃ s : ByteArray, e = .returned (.tuple #[.string s, .int .i64 0]) ∧ Chg (fun k => k = D ∨ k = M) w w'
theorem line_of {w : World} {d W D M : Nat} (h : DeskAt w d W D M) (s : ByteArray) (hs : (s.size : Int) ≤ 4096) (v : ByteArray) (P : Option Addr → Nat → Nat → World → Prop) (hP : ∀ q n c w1 w2, P q n c w1 → Below w1.heap.size w1 w2 → P q n c w2)
    (hr : Calls Tryz.prog 30 #[.string s] w fun e w' => ∃ q n c, e = .returned (.tuple #[.agg #[.string v, .slice q n c, .slice none 0 0, .slice none 0 0], .bool true]) ∧ P q n c w' ∧ Below w.heap.size w w')
    (hd : ∀ q n c w1, DeskAt w1 d W D M → P q n c w1 → Calls Tryz.prog 31 #[.pointer (some ⟨d, 0, none⟩), .agg #[.string v, .slice q n c, .slice none 0 0, .slice none 0 0]] w1 (DoOK D M w1)) :
    Calls Tryz.prog 17 #[.pointer (some ⟨d, 0, none⟩), .string s] w (LineOK D M w) := by
  have c0 := blkCell h.dk 0 (v := .pointer (some ⟨W, 0, none⟩)) rfl
  go_enter Tryz.func17, Tryz.ntmps17
  go_wp2_with fail
  refine hr.mono ?_
  rintro e w1 ⟨q, n, c, rfl, hp, hB⟩
  clear c0
  have h1 := h.below hB
  have hB2 : Below w1.heap.size w1 (w1.alloc (.cells #[.string v, .slice q n c, .slice none 0 0, .slice none 0 0] 71)) := (Below.refl _ _).alloc (Nat.le_refl _) _
  go_wp2_with fail
  refine (hd _ _ _ _ (h1.below hB2) (hP _ _ _ _ _ hp hB2)).mono ?_
  rintro e w2 ⟨s', rfl, hC⟩
  go_wp2_with fail
  go_ret2
  exact ⟨_, rfl, ((Chg.ofBelow hB).trans (Chg.ofBelow hB2)).trans hC⟩
/-- What asking whether a line is one leaves: the answer; all that was there. -/
def IsOK (b : Bool) (w : World) (e : Ending) (w' : World) : Prop := e = .returned (.bool b) ∧ Below w.heap.size w w'
/-- A new desk, as isLine makes it. -/
theorem isLine_of (s : ByteArray) (w : World) (m : Int) (h0 : w.cell? ⟨0, 0, none⟩ = some (.int .i64 m))
    (hl : ∀ w1 d W D M, DeskAt w1 d W D M → w.heap.size ≤ d → w.heap.size ≤ D → w.heap.size ≤ M → d ≠ D ∧ d ≠ M → w1.cell? ⟨0, 0, none⟩ = some (.int .i64 m) → Calls Tryz.prog 17 #[.pointer (some ⟨d, 0, none⟩), .string s] w1 (LineOK D M w1)) :
    Calls Tryz.prog 11 #[.string s] w (IsOK true w) := by
  go_enter Tryz.func11, Tryz.ntmps11
  go_wp2_with fail
  refine (desk_New w).mono ?_
  rintro e w1 ⟨d, W, D, M, rfl, hd, hw, h1, h2, h3, h4, hne, hB⟩
  have hdd : d ≠ D ∧ d ≠ M := by
    constructor
    · rintro rfl
      obtain ⟨L, Q, hdm⟩ := hw.dm.dm
      rw [hd] at hdm; cases hdm
    · rintro rfl
      have := hw.dm.mp
      rw [hd] at this; cases this
  have hl1 := hl w1 d W D M ⟨hd, hw, hne⟩ h1 h3 h4 hdd (cellBelow h0 hB)
  go_wp2_with fail
  refine hl1.mono ?_
  rintro e w2 ⟨s', rfl, hC⟩
  go_wp2_with fail
  go_ret
  exact ⟨rfl, hB.trans (hC.below hB.size (fun k hk => by omega))⟩
def lConnect : ByteArray := ⟨#[99, 111, 110, 110, 101, 99, 116]⟩
theorem isLine_connect (w : World) (m : Int) (h0 : w.cell? ⟨0, 0, none⟩ = some (.int .i64 m)) : Calls Tryz.prog 11 #[.string ⟨#[99, 111, 110, 110, 101, 99, 116]⟩] w (IsOK true w) := by
  refine isLine_of _ w m h0 fun w1 d W D M hD h1 h2 h3 hdd hc => ?_
  refine line_of hD _ (by decide) ⟨#[99, 111, 110, 110, 101, 99, 116]⟩ (fun q n c _ => q = none ∧ n = 0 ∧ c = 0) (fun _ _ _ _ _ h _ => h) ?_ ?_
  · refine (read_none _ (by decide) kinds_connect (by decide) (by decide) w1 m hc).mono ?_
    rintro e w' ⟨rfl, hB⟩
    exact ⟨none, 0, 0, rfl, ⟨rfl, rfl, rfl⟩, hB⟩
  · rintro q n c w2 h2 ⟨rfl, rfl, rfl⟩
    exact do_connect h2
theorem isLine_now (w : World) (m : Int) (h0 : w.cell? ⟨0, 0, none⟩ = some (.int .i64 m)) : Calls Tryz.prog 11 #[.string ⟨#[110, 111, 119]⟩] w (IsOK true w) := by
  refine isLine_of _ w m h0 fun w1 d W D M hD h1 h2 h3 hdd hc => ?_
  refine line_of hD _ (by decide) ⟨#[110, 111, 119]⟩ (fun q n c _ => q = none ∧ n = 0 ∧ c = 0) (fun _ _ _ _ _ h _ => h) ?_ ?_
  · refine (read_none _ (by decide) kinds_now (by decide) (by decide) w1 m hc).mono ?_
    rintro e w' ⟨rfl, hB⟩
    exact ⟨none, 0, 0, rfl, ⟨rfl, rfl, rfl⟩, hB⟩
  · rintro q n c w2 h2 ⟨rfl, rfl, rfl⟩
    exact do_now h2
theorem apart {w : World} {D M g : Nat} {n : Int} (h : DaemonAt w D M) (hg : w.cell? ⟨g, 0, none⟩ = some (.int .u64 n)) : g ≠ D ∧ g ≠ M := by
  obtain ⟨L, Q, hd⟩ := h.dm
  have hm := h.mp
  constructor
  · rintro rfl
    rw [blkCell hd 0 rfl] at hg; cases hg
  · rintro rfl
    simp [World.cell?, hm] at hg
theorem number5 (w : World) : Calls Tryz.prog 45 #[.string ⟨#[53]⟩] w fun e w' => e = .returned (.tuple #[.int .u64 (5 : Nat), .bool true]) ∧ Below w.heap.size w w' := number_lit 5 (by omega) [53] dec5 (by decide) (by decide) w
theorem number1 (w : World) : Calls Tryz.prog 45 #[.string ⟨#[49]⟩] w fun e w' => e = .returned (.tuple #[.int .u64 (1 : Nat), .bool true]) ∧ Below w.heap.size w w' := number_lit 1 (by omega) [49] dec1 (by decide) (by decide) w
theorem number7 (w : World) : Calls Tryz.prog 45 #[.string ⟨#[55]⟩] w fun e w' => e = .returned (.tuple #[.int .u64 (7 : Nat), .bool true]) ∧ Below w.heap.size w w' := number_lit 7 (by omega) [55] dec7 (by decide) (by decide) w
theorem isLine_tick (w : World) (m : Int) (h0 : w.cell? ⟨0, 0, none⟩ = some (.int .i64 m)) : Calls Tryz.prog 11 #[.string ⟨#[116, 105, 99, 107, 32, 53]⟩] w (IsOK true w) := by
  refine isLine_of _ w m h0 fun w1 d W D M hD h1 h2 h3 hdd hc => ?_
  refine line_of hD _ (by decide) ⟨#[116, 105, 99, 107]⟩ (fun q n c w => ∃ g, q = some ⟨g, 0, none⟩ ∧ n = 1 ∧ w.cell? ⟨g, 0, none⟩ = some (.int .u64 5)) ?_ ?_ ?_
  · rintro q n c w2 w3 ⟨g, h1, h2, h3⟩ hB
    exact ⟨g, h1, h2, cellBelow h3 hB⟩
  · refine (read_one ⟨#[116, 105, 99, 107, 32, 53]⟩ ⟨#[116, 105, 99, 107]⟩ ⟨#[53]⟩ (by decide) kinds_tick (by decide) (by decide) 5 number5 w1 m hc).mono ?_
    rintro e w' ⟨g, c, rfl, hg, hB⟩
    exact ⟨_, 1, c, rfl, ⟨g, rfl, rfl, hg⟩, hB⟩
  · rintro q n c w2 h2 ⟨g, rfl, rfl, hg⟩
    exact do_tick h2 hdd (apart h2.wd.dm hg) hg
theorem isLine_run (w : World) (m : Int) (h0 : w.cell? ⟨0, 0, none⟩ = some (.int .i64 m)) : Calls Tryz.prog 11 #[.string ⟨#[114, 117, 110, 32, 49, 32, 55]⟩] w (IsOK true w) := by
  refine isLine_of _ w m h0 fun w1 d W D M hD h1 h2 h3 hdd hc => ?_
  refine line_of hD _ (by decide) ⟨#[114, 117, 110]⟩ (fun q n c w => ∃ g, q = some ⟨g, 0, none⟩ ∧ n = 2 ∧ w.cell? ⟨g, 0, none⟩ = some (.int .u64 1) ∧ w.cell? ⟨g, 1, none⟩ = some (.int .u64 7)) ?_ ?_ ?_
  · rintro q n c w2 w3 ⟨g, h1, h2, h3, h4⟩ hB
    exact ⟨g, h1, h2, cellBelow h3 hB, cellBelow h4 hB⟩
  · refine (read_two ⟨#[114, 117, 110, 32, 49, 32, 55]⟩ ⟨#[114, 117, 110]⟩ ⟨#[49]⟩ ⟨#[55]⟩ (by decide) kinds_run (by decide) (by decide) 1 number1 7 number7 w1 m hc).mono ?_
    rintro e w' ⟨g, c, rfl, hg, hg', hB⟩
    exact ⟨_, 2, c, rfl, ⟨g, rfl, rfl, hg, hg'⟩, hB⟩
  · rintro q n c w2 h2 ⟨g, rfl, rfl, hg, hg'⟩
    exact do_run h2 hg hg'
/-- A line whose verb there is not. -/
theorem read_what (w : World) (m : Int) (h0 : w.cell? ⟨0, 0, none⟩ = some (.int .i64 m)) : Calls Tryz.prog 30 #[.string ⟨#[119, 104, 97, 116]⟩] w fun e w' => e = .returned (.tuple #[.agg #[.string ⟨#[]⟩, .slice none 0 0, .slice none 0 0, .slice none 0 0], .bool false]) ∧ Below w.heap.size w w' := by
  have h0' : (w.alloc (.cells #[.string ⟨#[]⟩, .slice none 0 0, .slice none 0 0, .slice none 0 0] 71)).cell? ⟨0, 0, none⟩ = some (.int .i64 m) := cellBelow h0 ((Below.refl _ _).alloc (Nat.le_refl _) _)
  go_enter Tryz.func30, Tryz.ntmps30
  go_wp2_with fail
  refine (split_lit _ [⟨#[119, 104, 97, 116]⟩] (by decide) (by decide) (by decide) _ m h0').mono ?_
  rintro e w' ⟨rfl, rfl⟩
  go_wp2_with (first | (go_at_call 44; refine (kinds_what _).mono ?_; rintro e w' ⟨rfl, rfl⟩))
  refine bodyPost_ret (v := .tuple #[.agg #[.string ⟨#[]⟩, .slice none 0 0, .slice none 0 0, .slice none 0 0], .bool false]) (by simp [results, Tryz.results30, go_sem]) rfl ⟨rfl, ?_⟩
  (repeat first | assumption | exact Below.refl _ _ | refine Below.drew ?_ | refine Below.alloc ?_ (by first | omega | (simp; done) | (simp; omega) | (simp [*] <;> omega)) _ | refine Below.setCell ?_ (by first | omega | (simp; done) | (simp; omega) | (simp [*] <;> omega)) _)
theorem isLine_what (w : World) (m : Int) (h0 : w.cell? ⟨0, 0, none⟩ = some (.int .i64 m)) : Calls Tryz.prog 11 #[.string ⟨#[119, 104, 97, 116]⟩] w (IsOK false w) := by
  have hline : ∀ w1 d W D M, DeskAt w1 d W D M → w1.cell? ⟨0, 0, none⟩ = some (.int .i64 m) → Calls Tryz.prog 17 #[.pointer (some ⟨d, 0, none⟩), .string ⟨#[119, 104, 97, 116]⟩] w1 fun e w' => e = .returned (.tuple #[.string ⟨#[]⟩, .int .i64 17]) ∧ Below w1.heap.size w1 w' := by
    intro w1 d W D M h hc
    have c0 := blkCell h.dk 0 (v := .pointer (some ⟨W, 0, none⟩)) rfl
    go_enter Tryz.func17, Tryz.ntmps17
    go_wp2_with fail
    refine (read_what w1 m hc).mono ?_
    rintro e w2 ⟨rfl, hB⟩
    clear c0
    go_wp2_with fail
    go_ret2
    refine ⟨rfl, ?_⟩
    exact hB.alloc hB.size _
  go_enter Tryz.func11, Tryz.ntmps11
  go_wp2_with fail
  refine (desk_New w).mono ?_
  rintro e w1 ⟨d, W, D, M, rfl, hd, hw, h1, h2, h3, h4, hne, hB⟩
  have hl1 := hline w1 d W D M ⟨hd, hw, hne⟩ (cellBelow h0 hB)
  go_wp2_with fail
  refine hl1.mono ?_
  rintro e w2 ⟨rfl, hC⟩
  go_wp2_with fail
  go_ret
  exact ⟨rfl, hB.trans (hC.mono hB.size)⟩
end Go.Proofs.YtfdbffopcdpfeaaGreatDoor
