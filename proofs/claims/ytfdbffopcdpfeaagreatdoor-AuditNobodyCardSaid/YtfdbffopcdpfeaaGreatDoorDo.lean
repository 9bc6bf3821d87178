/- What the fixed lines do to a new desk. -/
import Derived.Test.YtfdbffopcdpfeaaGreatDoorProg
import Derived.WalkKit
import Derived.WalkSpells
import Derived.WalkLawsBesides
import Derived.Deep.QuietTactic
import Derived.BigQuiet
import Derived.Lib.Hide
import Derived.Deep.RegionHeld3
import Derived.Deep.DrawnRows
import Derived.Deep.AppendLies
import Derived.Deep.RegionLaw
import Derived.Lib.AppendZerosOnto
import Derived.Lib.SlBytesConst
import Derived.Test.YtfdbffopcdpfeaaGreatDoorShelf
import Derived.Test.YtfdbffopcdpfeaaGreatDoorBase
import Derived.Test.YtfdbffopcdpfeaaGreatDoorSt
import Derived.Test.YtfdbffopcdpfeaaGreatDoorDisk
import Derived.Test.YtfdbffopcdpfeaaGreatDoorDisk2
import Derived.Test.YtfdbffopcdpfeaaGreatDoorDisk3
import Derived.Test.YtfdbffopcdpfeaaGreatDoorDisk4
import Derived.Test.YtfdbffopcdpfeaaGreatDoorSums
import Derived.Test.YtfdbffopcdpfeaaGreatDoorSuper
import Derived.Test.YtfdbffopcdpfeaaGreatDoorZero
import Derived.Test.YtfdbffopcdpfeaaGreatDoorSuper2
import Derived.Test.YtfdbffopcdpfeaaGreatDoorSuper3
import Derived.Test.YtfdbffopcdpfeaaGreatDoorSuper4
import Derived.Test.YtfdbffopcdpfeaaGreatDoorJour
import Derived.Test.YtfdbffopcdpfeaaGreatDoorJour2
import Derived.Test.YtfdbffopcdpfeaaGreatDoorFlush
import Derived.Test.YtfdbffopcdpfeaaGreatDoorBoot
import Derived.Test.YtfdbffopcdpfeaaGreatDoorWorld
import Derived.Test.YtfdbffopcdpfeaaGreatDoorLines
import Derived.Test.YtfdbffopcdpfeaaGreatDoorWords
set_option linter.unusedVariables false
set_option linter.unusedSimpArgs false
namespace Go.Proofs.YtfdbffopcdpfeaaGreatDoor
open Go.RowKit
attribute [local go_sem ↓] Go.wp_at_zero Go.wp_at_succ

open Go
/-- A desk that is new. -/
structure DeskAt (w : World) (d W D M : Nat) : Prop where
  dk : w.heap[d]? = some (.cells #[.pointer (some ⟨W, 0, none⟩)] 66 (0, 0))
  wd : WorldAt w W D M
  ne : D ≠ M
theorem DeskAt.below {w w' : World} {d W D M : Nat} (h : DeskAt w d W D M) (hb : Below w.heap.size w w') : DeskAt w' d W D M := ⟨blkBelow h.dk hb (blkLt h.dk), h.wd.below hb, h.ne⟩
def DoOK (D M : Nat) (w : World) (e : Ending) (w' : World) : Prop := ∃ s : ByteArray, e = .returned (.string s) ∧ Chg (fun k => k = D ∨ k = M) w w'
theorem chgB {D M : Nat} {a b c : World} (h : Chg (fun k => k = D ∨ k = M) a b) (k : Below b.heap.size b c) : Chg (fun k => k = D ∨ k = M) a c := h.trans (Chg.ofBelow k)
set_option maxRecDepth 100000 in
theorem do_connect {w : World} {d W D M : Nat} (h : DeskAt w d W D M) : Calls Tryz.prog 31 #[.pointer (some ⟨d, 0, none⟩), .agg #[.string ⟨#[99, 111, 110, 110, 101, 99, 116]⟩, .slice none 0 0, .slice none 0 0, .slice none 0 0]] w (DoOK D M w) := by
  have hB0 : Below w.heap.size w (w.alloc (.cells #[.string ⟨#[99, 111, 110, 110, 101, 99, 116]⟩, .slice none 0 0, .slice none 0 0, .slice none 0 0] 71)) := (Below.refl _ _).alloc (Nat.le_refl _) _
  have h1 := h.below hB0
  have c0 := blkCell h1.dk 0 (v := .pointer (some ⟨W, 0, none⟩)) rfl
  go_enter Tryz.func31, Tryz.ntmps31
  go_wp2_with fail
  refine (world_Connect h1.wd h1.ne).mono ?_
  rintro e w1 ⟨rfl, hC⟩
  go_wp2_with fail
  refine (count_ok 1 (by omega) [49] dec1 (by decide) _).mono ?_
  rintro e w2 ⟨s, rfl, hB2⟩
  go_wp2_with fail
  go_ret
  exact ⟨_, rfl, chgB ((Chg.ofBelow hB0).trans hC) hB2⟩
theorem chgCell {S : Nat → Prop} {w w' : World} {b j : Nat} {v : Value} (h : w.cell? ⟨b, j, none⟩ = some v) (hc : Chg S w w') (hs : ¬ S b) : w'.cell? ⟨b, j, none⟩ = some v :=
  (World.cell?_of_block (w := w) (hc.block b (World.block_lt_of_cell? w _ h) hs)).trans h
set_option maxRecDepth 100000 in
set_option maxHeartbeats 400000 in
theorem do_tick {w : World} {d W D M g c : Nat} (h : DeskAt w d W D M) (hd : d ≠ D ∧ d ≠ M) (hgd : g ≠ D ∧ g ≠ M) (hg : w.cell? ⟨g, 0, none⟩ = some (.int .u64 5)) : Calls Tryz.prog 31 #[.pointer (some ⟨d, 0, none⟩), .agg #[.string ⟨#[116, 105, 99, 107]⟩, .slice (some ⟨g, 0, none⟩) 1 c, .slice none 0 0, .slice none 0 0]] w (DoOK D M w) := by
  have hB0 : Below w.heap.size w (w.alloc (.cells #[.string ⟨#[116, 105, 99, 107]⟩, .slice (some ⟨g, 0, none⟩) 1 c, .slice none 0 0, .slice none 0 0] 71)) := (Below.refl _ _).alloc (Nat.le_refl _) _
  have hB1 := hB0.drew
  have h1 := h.below hB1
  have hMl := blkLt h.wd.dm.mp
  have hDl : D < w.heap.size := by obtain ⟨L, Q, hd⟩ := h.wd.dm.dm; exact blkLt hd
  have hne1 : ¬ (w.heap.size = D ∨ w.heap.size = M) := by omega
  have hne2 : ¬ (d = D ∨ d = M) := by omega
  have hne3 : ¬ (g = D ∨ g = M) := by omega
  have e1 := blkCell (blkNew w (.cells #[.string ⟨#[116, 105, 99, 107]⟩, .slice (some ⟨g, 0, none⟩) 1 c, .slice none 0 0, .slice none 0 0] 71)) 1 (v := .slice (some ⟨g, 0, none⟩) 1 c) rfl
  have c0 := blkCell (h.below hB0).dk 0 (v := .pointer (some ⟨W, 0, none⟩)) rfl
  have c1 := cellBelow hg hB0
  go_enter Tryz.func31, Tryz.ntmps31
  go_wp2_with fail
  go_region_held3 (fun X : World => X.cell? ⟨d, 0, none⟩ = some (.pointer (some ⟨W, 0, none⟩)) ∧ X.cell? ⟨w.heap.size, 1, none⟩ = some (.slice (some ⟨g, 0, none⟩) 1 c) ∧ X.cell? ⟨g, 0, none⟩ = some (.int .u64 5)) (first | go_keep | (refine ⟨?_, ?_, ?_⟩ <;> assumption)) (first | ((go_at_call 61; refine (world_Tick h1.wd).mono ?_; rintro e w1 ⟨rfl, hC⟩; have k0 := chgCell (S := fun k => k = D ∨ k = M) (w := (w.alloc (.cells #[.string ⟨#[116, 105, 99, 107]⟩, .slice (some ⟨g, 0, none⟩) 1 c, .slice none 0 0, .slice none 0 0] 71)).drew) c0 hC hne2; have k1 := chgCell (S := fun k => k = D ∨ k = M) (w := (w.alloc (.cells #[.string ⟨#[116, 105, 99, 107]⟩, .slice (some ⟨g, 0, none⟩) 1 c, .slice none 0 0, .slice none 0 0] 71)).drew) e1 hC hne1; have k2 := chgCell (S := fun k => k = D ∨ k = M) (w := (w.alloc (.cells #[.string ⟨#[116, 105, 99, 107]⟩, .slice (some ⟨g, 0, none⟩) 1 c, .slice none 0 0, .slice none 0 0] 71)).drew) c1 hC hne3)) | (go_at_call 50; refine (tell_ok0 _).mono ?_; rintro e w2 ⟨s, rfl, hB2⟩; have q0 := cellBelow k0 hB2; have q1 := cellBelow k1 hB2; have q2 := cellBelow k2 hB2))
  go_wp2_with fail
  go_ret
  exact ⟨_, rfl, chgB ((Chg.ofBelow hB1).trans hC) hB2⟩
set_option maxRecDepth 100000 in
set_option maxHeartbeats 1000000 in
theorem do_run {w : World} {d W D M g c : Nat} (h : DeskAt w d W D M) (hg : w.cell? ⟨g, 0, none⟩ = some (.int .u64 1)) (hg' : w.cell? ⟨g, 1, none⟩ = some (.int .u64 7)) : Calls Tryz.prog 31 #[.pointer (some ⟨d, 0, none⟩), .agg #[.string ⟨#[114, 117, 110]⟩, .slice (some ⟨g, 0, none⟩) 2 c, .slice none 0 0, .slice none 0 0]] w (DoOK D M w) := by
  have hB0 : Below w.heap.size w (w.alloc (.cells #[.string ⟨#[114, 117, 110]⟩, .slice (some ⟨g, 0, none⟩) 2 c, .slice none 0 0, .slice none 0 0] 71)) := (Below.refl _ _).alloc (Nat.le_refl _) _
  have hB1 := hB0.drew
  have h1 := h.below hB1
  have c0 := blkCell (h.below hB0).dk 0 (v := .pointer (some ⟨W, 0, none⟩)) rfl
  have c1 := cellBelow hg hB0
  have c2 := cellBelow hg' hB0
  have e1 := blkCell (blkNew w (.cells #[.string ⟨#[114, 117, 110]⟩, .slice (some ⟨g, 0, none⟩) 2 c, .slice none 0 0, .slice none 0 0] 71)) 1 (v := .slice (some ⟨g, 0, none⟩) 2 c) rfl
  go_enter Tryz.func31, Tryz.ntmps31
  go_wp2_with fail
  go_region_held3 (fun X : World => X.cell? ⟨d, 0, none⟩ = some (.pointer (some ⟨W, 0, none⟩)) ∧ X.cell? ⟨w.heap.size, 1, none⟩ = some (.slice (some ⟨g, 0, none⟩) 2 c) ∧ X.cell? ⟨g, 0, none⟩ = some (.int .u64 1) ∧ X.cell? ⟨g, 1, none⟩ = some (.int .u64 7)) (first | go_keep | (refine ⟨?_, ?_, ?_, ?_⟩ <;> assumption)) (first | ((go_at_call 53; refine (world_Run h1.wd).mono ?_; rintro e w1 ⟨rfl, hC⟩; have k0 := cellBelow (w := (w.alloc (.cells #[.string ⟨#[114, 117, 110]⟩, .slice (some ⟨g, 0, none⟩) 2 c, .slice none 0 0, .slice none 0 0] 71)).drew) c0 hC; have k1 := cellBelow (w := (w.alloc (.cells #[.string ⟨#[114, 117, 110]⟩, .slice (some ⟨g, 0, none⟩) 2 c, .slice none 0 0, .slice none 0 0] 71)).drew) e1 hC; have k2 := cellBelow (w := (w.alloc (.cells #[.string ⟨#[114, 117, 110]⟩, .slice (some ⟨g, 0, none⟩) 2 c, .slice none 0 0, .slice none 0 0] 71)).drew) c1 hC; have k3 := cellBelow (w := (w.alloc (.cells #[.string ⟨#[114, 117, 110]⟩, .slice (some ⟨g, 0, none⟩) 2 c, .slice none 0 0, .slice none 0 0] 71)).drew) c2 hC)) | (go_at_call 52; refine (said_err4 _).mono ?_; rintro e w2 ⟨s, rfl, hB2⟩; have q0 := cellBelow k0 hB2; have q1 := cellBelow k1 hB2; have q2 := cellBelow k2 hB2; have q3 := cellBelow k3 hB2))
  go_wp2_with fail
  go_ret
  exact ⟨_, rfl, chgB ((Chg.ofBelow hB1).trans (Chg.ofBelow hC)) hB2⟩
set_option maxRecDepth 100000 in
theorem look_now {w : World} {d W D M : Nat} (h : DeskAt w d W D M) : Calls Tryz.prog 63 #[.pointer (some ⟨d, 0, none⟩), .agg #[.string ⟨#[110, 111, 119]⟩, .slice none 0 0, .slice none 0 0, .slice none 0 0]] w (SomeS w) := by
  have hB0 : Below w.heap.size w (w.alloc (.cells #[.string ⟨#[110, 111, 119]⟩, .slice none 0 0, .slice none 0 0, .slice none 0 0] 71)) := (Below.refl _ _).alloc (Nat.le_refl _) _
  have h1 := h.below hB0
  have c0 := blkCell h1.dk 0 (v := .pointer (some ⟨W, 0, none⟩)) rfl
  go_enter Tryz.func63, Tryz.ntmps63
  go_wp2_with (first | (go_at_call 125; refine (world_Daemon h1.wd).mono ?_; rintro e w' ⟨rfl, rfl⟩) | (go_at_call 127; refine (daemon_Now h1.wd.dm).mono ?_; rintro e w' ⟨rfl, rfl⟩) | (go_at_call 93; refine (fmtU_lit 0 (by omega) [48] dec0 _).mono ?_; rintro e w' ⟨rfl, rfl⟩))
  refine (tell_ok1 (w.heap.size + 1) ⟨#[48]⟩ (by decide) _ (blkCell (by simpa using blkNew (w.alloc (.cells #[.string ⟨#[110, 111, 119]⟩, .slice none 0 0, .slice none 0 0, .slice none 0 0] 71)) (.cells #[.string ⟨#[48]⟩] 9)) 0 rfl)).mono ?_
  rintro e w2 ⟨s, rfl, hB2⟩
  go_wp2_with fail
  go_ret
  exact ⟨_, rfl, (hB0.alloc (by simp) _).trans (hB2.mono (by simp; omega))⟩
set_option maxRecDepth 100000 in
theorem do_now {w : World} {d W D M : Nat} (h : DeskAt w d W D M) : Calls Tryz.prog 31 #[.pointer (some ⟨d, 0, none⟩), .agg #[.string ⟨#[110, 111, 119]⟩, .slice none 0 0, .slice none 0 0, .slice none 0 0]] w (DoOK D M w) := by
  have hB0 : Below w.heap.size w (w.alloc (.cells #[.string ⟨#[110, 111, 119]⟩, .slice none 0 0, .slice none 0 0, .slice none 0 0] 71)) := (Below.refl _ _).alloc (Nat.le_refl _) _
  go_enter Tryz.func31, Tryz.ntmps31
  go_wp2_with fail
  refine (look_now (h.below hB0)).mono ?_
  rintro e w2 ⟨s, rfl, hB2⟩
  go_wp2_with fail
  go_ret
  exact ⟨_, rfl, Chg.ofBelow (hB0.trans (hB2.mono (by simp)))⟩
end Go.Proofs.YtfdbffopcdpfeaaGreatDoor
