/- What the lines of the audit's fixed calls do to a new desk. -/
import Derived.Test.YtfdbffopcdpfeaaGreatDoorProg
import Derived.WalkKit
import Derived.WalkSpells
import Derived.WalkLawsBesides
import Derived.Deep.QuietTactic
import Derived.BigQuiet
import Derived.Lib.Hide
import Derived.Deep.RegionHeld3
import Derived.Deep.DrawnRows
import Derived.Deep.AppendLies
import Derived.Deep.RegionLaw
import Derived.Lib.AppendZerosOnto
import Derived.Lib.SlBytesConst
import Derived.Test.YtfdbffopcdpfeaaGreatDoorBase
import Derived.Test.YtfdbffopcdpfeaaGreatDoorSt
import Derived.Test.YtfdbffopcdpfeaaGreatDoorDisk
import Derived.Test.YtfdbffopcdpfeaaGreatDoorDisk2
import Derived.Test.YtfdbffopcdpfeaaGreatDoorDisk3
import Derived.Test.YtfdbffopcdpfeaaGreatDoorDisk4
import Derived.Test.YtfdbffopcdpfeaaGreatDoorSums
import Derived.Test.YtfdbffopcdpfeaaGreatDoorSuper
import Derived.Test.YtfdbffopcdpfeaaGreatDoorZero
import Derived.Test.YtfdbffopcdpfeaaGreatDoorSuper2
import Derived.Test.YtfdbffopcdpfeaaGreatDoorSuper3
import Derived.Test.YtfdbffopcdpfeaaGreatDoorSuper4
import Derived.Test.YtfdbffopcdpfeaaGreatDoorJour
import Derived.Test.YtfdbffopcdpfeaaGreatDoorJour2
import Derived.Test.YtfdbffopcdpfeaaGreatDoorFlush
import Derived.Test.YtfdbffopcdpfeaaGreatDoorBoot
import Derived.Test.YtfdbffopcdpfeaaGreatDoorWorld
set_option linter.unusedVariables false
set_option linter.unusedSimpArgs false
namespace Go.Proofs.YtfdbffopcdpfeaaGreatDoor
open Go.RowKit
attribute [local go_sem ↓] Go.wp_at_zero Go.wp_at_succ

open Go
theorem conn_New' (w : World) : Calls Tryz.prog 162 #[] w fun e w' => e = .returned (.pointer (some ⟨w.heap.size + 1, 0, none⟩)) ∧ (w.alloc (.cells #[.bool true, .slice none 0 0, .int .i64 0] 441)).alloc (.cells #[.pointer (some ⟨w.heap.size, 0, none⟩), .slice none 0 0, .int .i64 0, .slice none 0 0, .int .i64 0] 352) = w' := by
  go_enter Tryz.func162, Tryz.ntmps162
  go_wp2_with (go_at_call 233; refine (frame_New _).mono ?_; rintro e w' ⟨rfl, rfl⟩)
  go_ret; exact ⟨rfl, rfl⟩
theorem Chg.putObj {S : Nat → Prop} {w w' : World} (h : Chg S w w') {b : Nat} (hb : S b) (o : Obj) : Chg S w { w' with heap := w'.heap.setIfInBounds b o } := by
  refine ⟨h.os, h.tape, h.output, by simpa using h.size, fun k hk hs => ?_⟩
  have hne : b ≠ k := by rintro rfl; exact hs hb
  show (w'.heap.setIfInBounds b o)[k]? = _
  rw [Array.getElem?_setIfInBounds, if_neg hne]; exact h.block k hk hs
theorem daemon_Connect {w : World} {D M : Nat} (h : DaemonAt w D M) (hne : D ≠ M) : Calls Tryz.prog 96 #[.pointer (some ⟨D, 0, none⟩)] w fun e w' => e = .returned (.tuple #[.int .i64 1, .int .i64 0]) ∧ Chg (fun k => k = D ∨ k = M) w w' := by
  obtain ⟨L, Q, hd⟩ := h.dm
  have c1 := blkCell hd 1 (v := .map (some M)) rfl
  have c2 := blkCell hd 2 (v := .int .i64 1) rfl
  have f2 := blkFree hd 2
  have hm := h.mp
  have hlen : ∀ W : World, W.heap[M]? = some (.map #[] 0) → (Builtin.len_ #[244] 3 #[.map (some M)]).run Tryz.prog W = .ok (.int .i64 0) W := by
    intro W hW
    simp [Builtin.len_, go_sem, run_underlying Tryz.underlying244, MapKept.run_getObj_map hW]
  have hput := fun (W : World) (hW : W.heap[M]? = some (.map #[] 0)) => map_put0 hW 1
  have hl0 := hlen w hm
  have hdl := blkLt hd
  have hml := blkLt hm
  go_enter Tryz.func96, Tryz.ntmps96
  go_wp2_with (go_at_call 161; refine (daemon_made h).mono ?_; rintro e w' ⟨rfl, rfl⟩)
  have hB : Below w.heap.size (w.setCell ⟨D, 2, none⟩ (.int .i64 2)) (((w.setCell ⟨D, 2, none⟩ (.int .i64 2)).alloc (.cells #[.bool true, .slice none 0 0, .int .i64 0] 441)).alloc (.cells #[.pointer (some ⟨w.heap.size, 0, none⟩), .slice none 0 0, .int .i64 0, .slice none 0 0, .int .i64 0] 352)).drew := by
    refine Below.drew (Below.alloc (Below.alloc (Below.refl _ _) ?_ _) ?_ _) <;> simp
  have hC0 : Chg (fun k => k = D ∨ k = M) w (((w.setCell ⟨D, 2, none⟩ (.int .i64 2)).alloc (.cells #[.bool true, .slice none 0 0, .int .i64 0] 441)).alloc (.cells #[.pointer (some ⟨w.heap.size, 0, none⟩), .slice none 0 0, .int .i64 0, .slice none 0 0, .int .i64 0] 352)).drew :=
    ((((Chg.refl _ w).set (.inl (.inl rfl)) 2 (.int .i64 2)).alloc _).alloc _).drewN 1
  have hmW := blkBelow (blkFar hm hne.symm 2 (.int .i64 2)) hB hml
  have hcW := cellBelow (w := w.setCell ⟨D, 2, none⟩ (.int .i64 2)) (blkCell (blkSet hd 2 (.int .i64 2)) 1 (v := .map (some M)) rfl) (w' := (((w.setCell ⟨D, 2, none⟩ (.int .i64 2)).alloc (.cells #[.bool true, .slice none 0 0, .int .i64 0] 441)).alloc (.cells #[.pointer (some ⟨w.heap.size, 0, none⟩), .slice none 0 0, .int .i64 0, .slice none 0 0, .int .i64 0] 352)).drew) (by simpa using hB)
  have hput2 := map_put0 hmW 1 (.pointer (some ⟨w.heap.size + 1, 0, none⟩))
  have hCZ := hC0.putObj (b := M) (.inr rfl) (.map #[{ key := .int .i64 1, val := .pointer (some ⟨w.heap.size + 1, 0, none⟩), born := 0 }] 1)
  have hcZ : World.cell? { (((w.setCell ⟨D, 2, none⟩ (.int .i64 2)).alloc (.cells #[.bool true, .slice none 0 0, .int .i64 0] 441)).alloc (.cells #[.pointer (some ⟨w.heap.size, 0, none⟩), .slice none 0 0, .int .i64 0, .slice none 0 0, .int .i64 0] 352)).drew with heap := ((((w.setCell ⟨D, 2, none⟩ (.int .i64 2)).alloc (.cells #[.bool true, .slice none 0 0, .int .i64 0] 441)).alloc (.cells #[.pointer (some ⟨w.heap.size, 0, none⟩), .slice none 0 0, .int .i64 0, .slice none 0 0, .int .i64 0] 352)).drew).heap.setIfInBounds M (.map #[{ key := .int .i64 1, val := .pointer (some ⟨w.heap.size + 1, 0, none⟩), born := 0 }] 1) } ⟨D, 1, none⟩ = some (.map (some M)) := by
    refine Eq.trans ?_ hcW
    unfold World.cell?
    simp only [Array.getElem?_setIfInBounds, if_neg hne.symm]
  generalize hZ : ({ (((w.setCell ⟨D, 2, none⟩ (.int .i64 2)).alloc (.cells #[.bool true, .slice none 0 0, .int .i64 0] 441)).alloc (.cells #[.pointer (some ⟨w.heap.size, 0, none⟩), .slice none 0 0, .int .i64 0, .slice none 0 0, .int .i64 0] 352)).drew with heap := ((((w.setCell ⟨D, 2, none⟩ (.int .i64 2)).alloc (.cells #[.bool true, .slice none 0 0, .int .i64 0] 441)).alloc (.cells #[.pointer (some ⟨w.heap.size, 0, none⟩), .slice none 0 0, .int .i64 0, .slice none 0 0, .int .i64 0] 352)).drew).heap.setIfInBounds M (.map #[{ key := .int .i64 1, val := .pointer (some ⟨w.heap.size + 1, 0, none⟩), born := 0 }] 1) } : World) = Z at hput2 hCZ hcZ
  clear hZ hC0 hB hmW hput hlen
  have c1' : (w.setCell ⟨D, 2, none⟩ (.int .i64 2)).cell? ⟨D, 1, none⟩ = some (.map (some M)) := blkCell (blkSet hd 2 (.int .i64 2)) 1 rfl
  go_region_held3 (fun X : World => X.cell? ⟨D, 1, none⟩ = some (.map (some M))) (go_keep) (first | (go_at_call 162; refine (conn_New' _).mono ?_; rintro e w' ⟨rfl, rfl⟩))
  all_goals
    go_wp2_with fail
    go_ret2
    exact ⟨rfl, hCZ⟩
theorem world_Connect {w : World} {W D M : Nat} (h : WorldAt w W D M) (hne : D ≠ M) : Calls Tryz.prog 49 #[.pointer (some ⟨W, 0, none⟩)] w fun e w' => e = .returned (.tuple #[.int .i64 1, .int .i64 0]) ∧ Chg (fun k => k = D ∨ k = M) w w' := by
  go_enter Tryz.func49, Tryz.ntmps49
  go_wp2_with (go_at_call 95; refine (world_daemon h).mono ?_; rintro e w' ⟨rfl, rfl⟩)
  refine (daemon_Connect h.dm hne).mono ?_
  rintro e w' ⟨rfl, hC⟩
  go_wp2_with fail
  go_ret2
  exact ⟨rfl, hC⟩
theorem world_Tick {w : World} {W D M : Nat} (h : WorldAt w W D M) : Calls Tryz.prog 61 #[.pointer (some ⟨W, 0, none⟩), .int .u64 5] w fun e w' => e = .returned (.int .i64 0) ∧ Chg (fun k => k = D ∨ k = M) w w' := by
  go_enter Tryz.func61, Tryz.ntmps61
  go_wp2_with (first | (go_at_call 95; refine (world_daemon h).mono ?_; rintro e w' ⟨rfl, rfl⟩) | (go_at_call 117; refine (daemon_Tick h.dm).mono ?_; rintro e w' ⟨rfl, rfl⟩))
  go_ret
  exact ⟨rfl, (Chg.refl _ w).set (.inl (.inl rfl)) _ _⟩
def deedZ : Array Value := #[.int .i64 0, .int .u64 0, .int .i64 0, .bool false, .int .u64 0, .int .u64 0, .string ⟨#[]⟩, .string ⟨#[]⟩, .bool false, .int .u64 0, .int .u64 0, .string ⟨#[]⟩, .string ⟨#[]⟩, .int .i64 0, .int .i64 0, .int .i64 0, .slice none 0 0, .int .u64 0, .int .u64 0, .bool false, .int .u64 0, .int .i64 0, .int .u64 0, .int .i64 0, .int .u64 0, .int .i64 0, .bool false, .int .u64 0, .int .u64 0, .string ⟨#[]⟩, .string ⟨#[]⟩, .bool false, .int .u64 0, .int .u64 0, .string ⟨#[]⟩, .string ⟨#[]⟩, .int .i64 0, .int .i64 0, .int .i64 0, .slice none 0 0, .int .u64 0, .int .u64 0, .bool false, .slice none 0 0, .int .u64 0, .int .i64 0, .int .i64 0, .int .i64 0, .int .u64 0, .slice none 0 0, .int .i64 0]
theorem deed_size : deedZ.size = 51 := rfl
theorem deed_info : (Tryz.prog.info? 188).map (·.size) = some deedZ.size := by kernel_rfl
theorem deed_one : deedZ.all (·.oneCell') = true := by kernel_rfl
theorem run_alloc_deed (ρ : Operand → Value) (dst : Option Tmp) (ty : TypeId) (pos : String) (after : Array Edge) (guard : Option (Nat × Bool)) (w : World) :
    (execOp ρ { dst := dst, op := .alloc 188, type := ty, pos := pos, after := after, guard := guard }).run Tryz.prog w = .ok (.value (.pointer (some ⟨w.heap.size, 0, none⟩))) (w.alloc (.cells deedZ 188)) := by
  unfold execOp
  simp [go_sem, deedZ]
theorem run_build_deed (ρ : Operand → Value) (dst : Option Tmp) (ty : TypeId) (pos : String) (after : Array Edge) (guard : Option (Nat × Bool)) (w : World) :
    (execOp ρ { dst := dst, op := .build 188 #[], type := ty, pos := pos, after := after, guard := guard }).run Tryz.prog w = .ok (.value (.agg deedZ)) w := by
  unfold execOp
  simp [Instr.build, go_sem, deedZ]
attribute [local go_sem ↓] run_alloc_deed run_build_deed
theorem daemon_Run {w : World} {D M : Nat} (h : DaemonAt w D M) : Calls Tryz.prog 101 #[.pointer (some ⟨D, 0, none⟩), .int .i64 1, .int .u64 7] w fun e w' => e = .returned (.tuple #[.agg deedZ, .int .i64 4]) ∧ Below w.heap.size w w' := by
  have h1 := h.below ((Below.refl _ w).alloc (Nat.le_refl _) (.cells deedZ 188))
  have hth : (w.alloc (.cells deedZ 188)).there w.heap.size 0 deedZ.size := thereBlk (blkNew w _) 0 _ (by omega)
  have hfin := blkSetCells deedZ.toList 0 (blkNew w (.cells deedZ 188))
  rw [splice_full _ _ (by simp)] at hfin
  have hchg := chgSetCells (S := fun _ => False) deedZ.toList (b := w.heap.size) 0 ((Chg.refl (fun _ => False) w).alloc (.cells deedZ 188)) (.inr (Nat.le_refl _))
  generalize hW : (w.alloc (.cells deedZ 188)).setCells w.heap.size 0 deedZ.toList = W at hfin hchg
  have HW := Lib.hid hW
  clear hW
  go_enter Tryz.func101, Tryz.ntmps101
  go_wp2_with (first | (go_at_call 165; refine (daemon_find h1 _).mono ?_; rintro e w' ⟨rfl, rfl⟩) | (refine wpList_store_mid rfl 188 _ _ rfl w.heap.size 0 deedZ rfl rfl hth deed_info deed_one ?_; rw [HW.out]))
  simp only [Array.toArray_toList] at hfin
  have hres := run_loadVar_row (P := Tryz.prog) W w.heap.size 188 188 deedZ (0, 0) _ hfin Tryz.underlying188 rfl deed_info
  refine bodyPost_ret (v := .tuple #[.agg deedZ, .int .i64 4]) (by refine Eq.trans (results_cell_tmp Tryz.results101 _ _ _) ?_; simp [asAddr, hres, Result.andThen_ok]) rfl ⟨rfl, ?_⟩
  exact hchg.below (Nat.le_refl _) (fun _ _ x => x)
theorem reply_info : (Tryz.prog.info? 109).map (·.size) = some 6 := by kernel_rfl
set_option maxHeartbeats 1000000 in
theorem world_Run {w : World} {W D M : Nat} (h : WorldAt w W D M) : Calls Tryz.prog 53 #[.pointer (some ⟨W, 0, none⟩), .int .i64 1, .int .u64 7] w fun e w' => e = .returned (.tuple #[.agg #[.int .u64 0, .int .i64 0, .int .i64 0, .int .i64 0, .int .u64 0, .slice none 0 0], .int .i64 4]) ∧ Below w.heap.size w w' := by
  have hB0 : Below w.heap.size w (w.alloc (.cells #[.int .u64 0, .int .i64 0, .int .i64 0, .int .i64 0, .int .u64 0, .slice none 0 0] 109)) := by (repeat first | assumption | exact Below.refl _ _ | refine Below.drew ?_ | refine Below.alloc ?_ (by first | omega | (simp; done) | (simp; omega) | (simp [*] <;> omega)) _ | refine Below.setCell ?_ (by first | omega | (simp; done) | (simp; omega) | (simp [*] <;> omega)) _)
  have h1 := h.below hB0
  have b0 := blkNew w (.cells #[.int .u64 0, .int .i64 0, .int .i64 0, .int .i64 0, .int .u64 0, .slice none 0 0] 109)
  go_enter Tryz.func53, Tryz.ntmps53
  go_wp2_with (first | (go_at_call 95; refine (world_daemon h1).mono ?_; rintro e w' ⟨rfl, rfl⟩))
  refine (daemon_Run h1.dm).mono ?_
  rintro e w1 ⟨rfl, hB1⟩
  have hB01 : Below w.heap.size w w1 := hB0.trans (hB1.mono (by simp))
  have b1 := blkBelow b0 hB1 (by simp)
  have hs1 := blkLt b1
  clear hB0 hB1 b0 h1
  have hth : (w1.alloc (.cells deedZ 188)).there w1.heap.size 0 deedZ.size := thereBlk (blkNew w1 _) 0 _ (by omega)
  have hchg := chgSetCells (S := fun _ => False) deedZ.toList (b := w1.heap.size) 0 ((Chg.refl (fun _ => False) w1).alloc (.cells deedZ 188)) (.inr (Nat.le_refl _))
  generalize hW : (w1.alloc (.cells deedZ 188)).setCells w1.heap.size 0 deedZ.toList = X at hchg
  have HW := Lib.hid hW
  clear hW
  have hBX : Below w1.heap.size w1 X := hchg.below (Nat.le_refl _) (fun _ _ x => x)
  have bX := blkBelow b1 hBX hs1
  have hB0X : Below w.heap.size w X := hB01.trans (hBX.mono (by omega))
  clear hchg hBX b1 hB01
  have c0 := blkCell bX 0 (v := .int .u64 0) rfl
  have c1 := blkCell bX 1 (v := .int .i64 0) rfl
  have c2 := blkCell bX 2 (v := .int .i64 0) rfl
  have c3 := blkCell bX 3 (v := .int .i64 0) rfl
  have c4 := blkCell bX 4 (v := .int .u64 0) rfl
  have c5 := blkCell bX 5 (v := .slice none 0 0) rfl
  have f0 := blkFree bX 0
  have f1 := blkFree bX 1
  have f2 := blkFree bX 2
  have f3 := blkFree bX 3
  have f4 := blkFree bX 4
  have f5 := blkFree bX 5
  go_wp2_with (first | (refine wpList_store_mid rfl 188 _ _ rfl w1.heap.size 0 deedZ rfl rfl hth deed_info deed_one ?_; rw [HW.out]))
  have bZ := blkSet (blkSet (blkSet (blkSet (blkSet (blkSet bX 0 (.int .u64 0)) 1 (.int .i64 0)) 2 (.int .i64 0)) 3 (.int .i64 0)) 4 (.int .u64 0)) 5 (.slice none 0 0)
  have hres := run_loadVar_row (P := Tryz.prog) _ w.heap.size 109 109 #[.int .u64 0, .int .i64 0, .int .i64 0, .int .i64 0, .int .u64 0, .slice none 0 0] (0, 0) _ bZ Tryz.underlying109 rfl reply_info
  have hBZ : Below w.heap.size w ((((((X.setCell ⟨w.heap.size, 0, none⟩ (.int .u64 0)).setCell ⟨w.heap.size, 1, none⟩ (.int .i64 0)).setCell ⟨w.heap.size, 2, none⟩ (.int .i64 0)).setCell ⟨w.heap.size, 3, none⟩ (.int .i64 0)).setCell ⟨w.heap.size, 4, none⟩ (.int .u64 0)).setCell ⟨w.heap.size, 5, none⟩ (.slice none 0 0)) := (((((hB0X.setCell (Nat.le_refl _) _).setCell (Nat.le_refl _) _).setCell (Nat.le_refl _) _).setCell (Nat.le_refl _) _).setCell (Nat.le_refl _) _).setCell (Nat.le_refl _) _
  generalize hZ : ((((((X.setCell ⟨w.heap.size, 0, none⟩ (.int .u64 0)).setCell ⟨w.heap.size, 1, none⟩ (.int .i64 0)).setCell ⟨w.heap.size, 2, none⟩ (.int .i64 0)).setCell ⟨w.heap.size, 3, none⟩ (.int .i64 0)).setCell ⟨w.heap.size, 4, none⟩ (.int .u64 0)).setCell ⟨w.heap.size, 5, none⟩ (.slice none 0 0)) = Z at hres hBZ
  refine bodyPost_ret (v := .tuple #[.agg #[.int .u64 0, .int .i64 0, .int .i64 0, .int .i64 0, .int .u64 0, .slice none 0 0], .int .i64 4]) (by refine Eq.trans (results_cell_tmp Tryz.results53 _ _ _) ?_; simp [asAddr, hres, Result.andThen_ok]) rfl ⟨rfl, hBZ⟩
end Go.Proofs.YtfdbffopcdpfeaaGreatDoor
