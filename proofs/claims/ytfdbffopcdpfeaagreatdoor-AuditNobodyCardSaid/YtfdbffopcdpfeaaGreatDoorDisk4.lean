/- Doing the one write that waits. -/
import Derived.Test.YtfdbffopcdpfeaaGreatDoorProg
import Derived.WalkKit
import Derived.WalkSpells
import Derived.WalkLawsBesides
import Derived.Deep.QuietTactic
import Derived.BigQuiet
import Derived.Lib.Hide
import Derived.Deep.RegionHeld3
import Derived.Deep.DrawnRows
import Derived.Deep.AppendLies
import Derived.Deep.RegionLaw
import Derived.Lib.AppendZerosOnto
import Derived.Lib.SlBytesConst
import Derived.Test.YtfdbffopcdpfeaaGreatDoorBase
import Derived.Test.YtfdbffopcdpfeaaGreatDoorDisk
import Derived.Test.YtfdbffopcdpfeaaGreatDoorDisk2
import Derived.Test.YtfdbffopcdpfeaaGreatDoorDisk3
import Derived.Test.YtfdbffopcdpfeaaGreatDoorAtom
set_option linter.unusedVariables false
set_option linter.unusedSimpArgs false
namespace Go.Proofs.YtfdbffopcdpfeaaGreatDoor
open Go.RowKit
attribute [local go_sem ↓] Go.wp_at_zero Go.wp_at_succ

open Go
theorem disk_Sectors' {w : World} {d g n : Nat} (h0 : w.cell? ⟨d, 0, none⟩ = some (.slice (some ⟨g, 0, none⟩) n n)) : Calls Tryz.prog 82 #[.pointer (some ⟨d, 0, none⟩)] w fun e w' => e = .returned (.int .i64 n) ∧ w = w' := by
  go_enter Tryz.func82, Tryz.ntmps82
  go_wp2; go_ret; exact ⟨rfl, rfl⟩
theorem cellFarC : ∀ (vs : List Value) (w : World) (g o : Nat) {q : Addr}, g ≠ q.block → (w.setCells g o vs).cell? q = w.cell? q
  | [], _, _, _, _, _ => rfl
  | v :: vs, w, g, o, q, h => (cellFarC vs _ g (o + 1) h).trans (cell?_far2 w ⟨g, o, none⟩ v h)
theorem wait_info1 : (Tryz.prog.info? 382).map (·.size) = some 129 := by kernel_rfl
set_option maxRecDepth 100000 in
set_option maxHeartbeats 1600000 in
theorem disk_Sync1 {w : World} {d g n i ws cw : Nat} {C X : Array Value} {wr sy : Int}
    (hd : w.heap[d]? = some (.cells #[.slice (some ⟨g, 0, none⟩) n n, .slice (some ⟨ws, 0, none⟩) 1 cw, .int .i64 wr, .int .i64 sy] 147 (0, 0)))
    (hg : w.heap[g]? = some (.cells C 380 (0, 0))) (hC : C.size = n * 128) (hi : i < n) (hn4 : 4 ≤ n) (hn : n ≤ 4096) (hX : X.size = 128) (hr : w.rangeAt ws 0 (.int .i64 i :: X.toList)) (hne : d ≠ g) (hone : ∀ v ∈ X.toList, v.oneCell' = true) :
    Calls Tryz.prog 296 #[.pointer (some ⟨d, 0, none⟩)] w fun e w' => e = .returned (.int .i64 0) ∧
      w'.heap[d]? = some (.cells #[.slice (some ⟨g, 0, none⟩) n n, .slice none 0 0, .int .i64 wr, .int .i64 (IntKind.i64.wrap (sy + 1))] 147 (0, 0)) ∧
      w'.heap[g]? = some (.cells (splice C (i * 128) X.toList) 380 (0, 0)) ∧ Chg (fun k => k = d ∨ k = g) w w' := by
  have h0 : w.cell? ⟨d, 0, none⟩ = some (.slice (some ⟨g, 0, none⟩) n n) := blkCell hd 0 rfl
  have h1 : w.cell? ⟨d, 1, none⟩ = some (.slice (some ⟨ws, 0, none⟩) 1 cw) := blkCell hd 1 rfl
  have hdl := blkLt hd
  have hgl := blkLt hg
  have hu := Tryz.underlying380
  have hu2 := Tryz.underlying382
  have hXl : X.toList.length = 128 := by simpa using hX
  have hinf : (Tryz.prog.info? 380).map (·.size) = some X.toList.length := by rw [hXl]; exact sector_info
  generalize hY : (Value.int .i64 i :: X.toList) = Y at hr
  have hYl : Y.length = 129 := by rw [← hY]; simp [hX]
  have hinf2 : (Tryz.prog.info? 382).map (·.size) = some Y.length := by rw [hYl]; exact wait_info1
  have hYone : ∀ v ∈ Y, v.oneCell' = true := by
    rw [← hY]; intro v hv; rcases List.mem_cons.1 hv with rfl | hv
    · rfl
    · exact hone v hv
  have hYall : Y.toArray.all (·.oneCell') = true := all_oneCell_toArray hYone
  generalize hZ : w.alloc (.cells Tryz.zeroCells382 382) = Z
  have hZb : Z.heap[w.heap.size]? = some (.cells Tryz.zeroCells382 382 (0, 0)) := by rw [← hZ]; exact blkNew w _
  have hth : Z.there w.heap.size 0 Y.toArray.size := thereBlk hZb 0 _ (by rw [List.size_toArray, hYl, zero_wait_size]; omega)
  have hfin := blkSetCells Y 0 hZb
  rw [splice_full _ _ (by rw [hYl, zero_wait_size])] at hfin
  have hsz := sizeSetCells Y Z w.heap.size 0
  have hZs : Z.heap.size = w.heap.size + 1 := by rw [← hZ]; exact sizeAlloc w _
  rw [hZs] at hsz
  have hchg : Chg (fun k => k = d ∨ k = g) w (Z.setCells w.heap.size 0 Y) := by
    refine chgSetCells Y (b := w.heap.size) 0 ?_ (.inr (Nat.le_refl _))
    rw [← hZ]; exact (Chg.refl _ w).alloc _
  have hchg0 : Chg (fun _ => False) w (Z.setCells w.heap.size 0 Y) := by
    refine chgSetCells Y (b := w.heap.size) 0 ?_ (.inr (Nat.le_refl _))
    rw [← hZ]; exact (Chg.refl _ w).alloc _
  generalize hW : Z.setCells w.heap.size 0 Y = W at hfin hsz hchg hchg0
  have hWd := (hchg0.block d hdl (fun x => x)).trans hd
  have hWg := (hchg0.block g hgl (fun x => x)).trans hg
  have k0 : W.cell? ⟨d, 0, none⟩ = some (.slice (some ⟨g, 0, none⟩) n n) := blkCell hWd 0 rfl
  have k1 : W.cell? ⟨w.heap.size, 0, none⟩ = some (.int .i64 i) := blkCell hfin 0 (by rw [← hY]; rfl)
  have k2 : W.rangeAt w.heap.size 1 X.toList := by
    intro j v hv
    refine blkCell hfin (1 + j) ?_
    rw [← hY, List.getElem?_toArray, Nat.add_comm, List.getElem?_cons_succ]; exact hv
  have k3 : W.there g (i * 128) 128 := thereBlk hWg _ _ (by rw [hC]; omega)
  have HW := Lib.hid hW
  have HZ := Lib.hid hZ
  have HY := Lib.hid hY
  clear hW hZ hY
  go_enter Tryz.func296, Tryz.ntmps296
  go_wp2_with (go_at_call 82; refine (disk_Sectors' h0).mono ?_; rintro e w' ⟨rfl, rfl⟩)
  refine wp_loop_rounds 2 ?_
  rw [rounds_succ]
  go_wp2_with (first | (refine wpList_load_mid rfl 382 _ rfl ws 0 rfl Y _ hr Tryz.underlying382 rfl hinf2 ?_) | (rw [HZ.out]; refine wpList_store_mid rfl 382 _ _ rfl w.heap.size 0 Y.toArray rfl rfl hth (by rw [List.size_toArray, hYl]; exact wait_info1) hYall ?_; rw [HW.out]))
  go_region_held3 (fun w' => w'.cell? ⟨d, 0, none⟩ = some (.slice (some ⟨g, 0, none⟩) n n) ∧ w'.cell? ⟨w.heap.size, 0, none⟩ = some (.int .i64 i) ∧ w'.rangeAt w.heap.size 1 X.toList ∧ w'.there g (i * 128) 128) (first | go_keep_ranges | exact ⟨(cellFarC _ _ _ _ (Ne.symm hne)).trans k0, (cellFarC _ _ _ _ (by show g ≠ w.heap.size; omega)).trans k1, World.rangeAt_setCells_apart (by simpa using k2) _ _ _ (.inl (by omega)), World.there_setCells (by simpa using k3) _ _ _⟩) (fail)
  go_wp2
  have hWdb : W.drew.heap[d]? = _ := hWd
  have hWgb : W.drew.heap[g]? = _ := hWg
  have hVg := blkSetCells X.toList (i * 128) hWgb
  have hVc := chgSetCells (S := fun k => k = d ∨ k = g) X.toList (b := g) (i * 128) ((hchg.drewN 1)) (.inl (.inr rfl))
  have hVd : (W.drew.setCells g (i * 128) X.toList).heap[d]? = some (.cells #[.slice (some ⟨g, 0, none⟩) n n, .slice (some ⟨ws, 0, none⟩) 1 cw, .int .i64 wr, .int .i64 sy] 147 (0, 0)) := by
    have h := chgSetCells (S := fun k => k = g) X.toList (b := g) (i * 128) (Chg.refl _ W.drew) (.inl rfl)
    have hl : d < W.drew.heap.size := by show d < W.heap.size; omega
    exact (h.block d hl (by simpa using hne)).trans hWd
  change Chg _ w (W.drew.setCells g (i * 128) X.toList) at hVc
  generalize W.drew.setCells g (i * 128) X.toList = V at hVg hVc hVd ⊢
  have v1 : V.cell? ⟨d, 1, none⟩ = some (.slice (some ⟨ws, 0, none⟩) 1 cw) := blkCell hVd 1 rfl
  have v3 : V.cell? ⟨d, 3, none⟩ = some (.int .i64 sy) := blkCell hVd 3 rfl
  have f1 := blkFree hVd 1
  have f3 := blkFree hVd 3
  rw [rounds_succ]
  go_wp2_with fail
  have ha := atomic_Add d 3 sy 1 _ (V.setCell ⟨d, 1, none⟩ (.slice none 0 0)) (by simp [go_sem, v3]) (by simp [go_sem, f3]) rfl
  refine ha.mono ?_
  rintro e w' ⟨rfl, rfl⟩
  clear ha
  go_wp2
  go_ret
  refine ⟨rfl, blkSet (blkSet hVd 1 _) 3 _, blkFar (blkFar hVg (Ne.symm hne) _ _) (Ne.symm hne) _ _, (hVc.set (b := d) (.inl (.inl rfl)) _ _).set (b := d) (.inl (.inl rfl)) _ _⟩
end Go.Proofs.YtfdbffopcdpfeaaGreatDoor
