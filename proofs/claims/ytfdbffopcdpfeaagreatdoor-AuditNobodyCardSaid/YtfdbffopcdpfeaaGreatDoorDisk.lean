/- The disk, as far as a start on a new one comes to it. -/
import Derived.Test.YtfdbffopcdpfeaaGreatDoorProg
import Derived.WalkKit
import Derived.WalkSpells
import Derived.WalkLawsBesides
import Derived.Deep.QuietTactic
import Derived.BigQuiet
import Derived.Lib.Hide
import Derived.Deep.RegionHeld3
import Derived.Deep.DrawnRows
import Derived.Deep.AppendLies
import Derived.Deep.RegionLaw
import Derived.Lib.AppendZerosOnto
import Derived.Lib.SlBytesConst
import Derived.Test.YtfdbffopcdpfeaaGreatDoorBase
set_option linter.unusedVariables false
set_option linter.unusedSimpArgs false
namespace Go.Proofs.YtfdbffopcdpfeaaGreatDoor
open Go.RowKit
attribute [local go_sem ↓] Go.wp_at_zero Go.wp_at_succ

open Go
/-- The cells of block b from o on, turned into vs. -/
def splice (cs : Array Value) : Nat → List Value → Array Value
  | _, [] => cs
  | o, v :: vs => splice (cs.setIfInBounds o v) (o + 1) vs
theorem splice_size : ∀ (vs : List Value) (cs : Array Value) (o : Nat), (splice cs o vs).size = cs.size
  | [], _, _ => rfl
  | v :: vs, cs, o => by simp only [splice]; rw [splice_size vs]; simp
theorem blkSetCells : ∀ (vs : List Value) {w : World} {b : Nat} {cs : Array Value} {t : TypeId} {f : Nat × Nat} (o : Nat), w.heap[b]? = some (.cells cs t f) → (w.setCells b o vs).heap[b]? = some (.cells (splice cs o vs) t f)
  | [], _, _, _, _, _, _, h => h
  | v :: vs, w, b, cs, t, f, o, h => by
    have h1 := blkSet h o v
    exact blkSetCells vs (o + 1) h1
theorem splice_get : ∀ (vs : List Value) (cs : Array Value) (o k : Nat), (splice cs o vs)[k]? = if o ≤ k ∧ k < o + vs.length ∧ k < cs.size then vs[k - o]? else cs[k]?
  | [], cs, o, k => by rw [if_neg (by simp; omega)]; rfl
  | v :: vs, cs, o, k => by
    simp only [splice]
    rw [splice_get vs]
    simp only [Array.size_setIfInBounds, List.length_cons]
    by_cases h1 : o + 1 ≤ k ∧ k < o + 1 + vs.length ∧ k < cs.size
    · rw [if_pos h1, if_pos (by omega)]
      obtain ⟨j, hj⟩ : ∃ j, k - o = j + 1 := ⟨k - o - 1, by omega⟩
      rw [hj, List.getElem?_cons_succ, show k - (o + 1) = j from by omega]
    · rw [if_neg h1]
      by_cases h2 : k = o ∧ k < cs.size
      · rw [if_pos (by omega)]
        obtain ⟨rfl, h3⟩ := h2
        simp [h3]
      · rw [if_neg (by omega)]
        rw [Array.getElem?_setIfInBounds]
        split
        · rename_i h; subst h
          have : ¬ o < cs.size := by omega
          simp [this]
        · rfl
theorem splice_full (cs : Array Value) (vs : List Value) (h : vs.length = cs.size) : splice cs 0 vs = vs.toArray := by
  apply Array.ext_getElem?
  intro k
  rw [splice_get]
  by_cases hk : k < cs.size
  · rw [if_pos (by omega)]; simp
  · rw [if_neg (by omega)]
    rw [Array.getElem?_eq_none (by omega), Array.getElem?_eq_none (by simp; omega)]
theorem foldSpliceL : ∀ (l : List Value) (k off : Nat) (cs : Array Value), (l.zipIdx k).foldl (fun cs x => cs.setIfInBounds (off + x.2) x.1) cs = splice cs (off + k) l
  | [], _, _, _ => rfl
  | v :: l, k, off, cs => by
    rw [List.zipIdx_cons, List.foldl_cons, foldSpliceL l (k + 1) off]; rfl
theorem foldSplice (X : Array Value) (n : Nat) (hn : X.size = n) (off : Nat) (cs : Array Value) : Array.foldl (fun cs x => cs.setIfInBounds (off + x.2) x.1) cs X.zipIdx 0 n = splice cs off X.toList := by
  have h1 : X.zipIdx.size = n := by simpa using hn
  rw [← h1, ← Array.foldl_toList, Array.toList_zipIdx]
  exact foldSpliceL X.toList 0 off cs
theorem foldSplice0 (X : Array Value) (n : Nat) (hn : X.size = n) (cs : Array Value) : Array.foldl (fun cs x => cs.setIfInBounds x.2 x.1) cs X.zipIdx 0 n = splice cs 0 X.toList := by
  have h := foldSplice X n hn 0 cs
  simpa only [Nat.zero_add] using h
theorem chgSetCells {S : Nat → Prop} : ∀ (vs : List Value) {w w' : World} {b : Nat} (o : Nat), Chg S w w' → (S b ∨ w.heap.size ≤ b) → Chg S w (w'.setCells b o vs)
  | [], _, _, _, _, h, _ => h
  | v :: vs, w, w', b, o, h, hb => chgSetCells vs (o + 1) (h.set hb o v) hb
theorem sizeSetCells : ∀ (vs : List Value) (w : World) (b o : Nat), (w.setCells b o vs).heap.size = w.heap.size
  | [], _, _, _ => rfl
  | v :: vs, w, b, o => by
    have h := sizeSetCells vs (w.setCell ⟨b, o, none⟩ v) b (o + 1)
    refine h.trans ?_
    show (w.heap.modify b _).size = _
    simp
/-- A disk without a write that waits: d the disk, g its sectors' block. -/
structure DiskAt (w : World) (d g n : Nat) (C : Array Value) (wr sy : Int) : Prop where
  hd : w.heap[d]? = some (.cells #[.slice (some ⟨g, 0, none⟩) n n, .slice none 0 0, .int .i64 wr, .int .i64 sy] 147 (0, 0))
  hg : w.heap[g]? = some (.cells C 380 (0, 0))
  ne : d ≠ g
  size : C.size = n * 128
  lo : 4 ≤ n
  hi : n ≤ 4096
  one : ∀ (k : Nat) (v : Value), C[k]? = some v → ∃ i : Int, v = Value.int .u8 i ∧ 0 ≤ i ∧ i ≤ 255
theorem DiskAt.below {w w' : World} {d g n : Nat} {C : Array Value} {wr sy : Int} (h : DiskAt w d g n C wr sy) (hb : Below w.heap.size w w') : DiskAt w' d g n C wr sy :=
  ⟨blkBelow h.hd hb (blkLt h.hd), blkBelow h.hg hb (blkLt h.hg), h.ne, h.size, h.lo, h.hi, h.one⟩
theorem zero_sector : (Tryz.prog.info? 380).map (fun i => (i.zero.map (·.cells), i.size, i.bytes)) = some (some (Array.replicate 128 (Value.int .u8 0)), 128, 128) := by kernel_rfl
theorem disk_New (n : Nat) (w : World) (h4 : 4 ≤ n) (hn : n ≤ 4096) : Calls Tryz.prog 41 #[.int .i64 n] w fun e w' => e = .returned (.tuple #[.pointer (some ⟨w.heap.size + 1, 0, none⟩), .int .i64 0]) ∧
    DiskAt w' (w.heap.size + 1) w.heap.size n (Array.replicate (n * 128) (Value.int .u8 0)) 0 0 ∧ w'.heap.size = w.heap.size + 2 ∧ Below w.heap.size w w' := by
  obtain ⟨i, hi, hzz⟩ := Option.map_eq_some_iff.1 zero_sector
  simp only [Prod.mk.injEq] at hzz
  obtain ⟨hz0, hz1, hz2⟩ := hzz
  obtain ⟨z, hz, hzc⟩ := Option.map_eq_some_iff.1 hz0
  have hmk : ∀ W : World, (Instr.makeSlice 139 (.int .i64 n) (.int .i64 n)).run Tryz.prog W = .ok (.slice (some ⟨W.heap.size, 0, none⟩) n n) (W.alloc (.cells (Array.replicate (n * 128) (Value.int .u8 0)) 380)) := by
    intro W
    have h := run_make W 139 380 i z Tryz.underlying139 hi hz .i64 .i64 (n : Int) (n : Int) (by omega) (by omega) (by rw [hz2]; omega) (by omega)
    have e : madeCells z.cells ((n : Int).toNat * i.size) = Array.replicate (n * 128) (Value.int .u8 0) := by
      rw [hzc, hz1, Int.toNat_natCast]
      apply Array.ext
      · simp [size_madeCells]
      · intro k h1 h2
        simp only [madeCells, Array.getElem_map, Array.getElem_range, Array.getElem_replicate]
        have : k % (Array.replicate 128 (Value.int .u8 0)).size < (Array.replicate 128 (Value.int .u8 0)).size := Nat.mod_lt _ (by simp)
        rw [getElem!_pos (Array.replicate 128 (Value.int .u8 0)) (k % (Array.replicate 128 (Value.int .u8 0)).size) this]; simp
    rw [e] at h
    simpa using h
  clear hi hz0 hz1 hz2 hz hzc
  go_enter Tryz.func41, Tryz.ntmps41
  go_wp2
  go_ret2
  refine ⟨rfl, ⟨?_, ?_, by omega, by simp, h4, hn, fun k v hv => ?_⟩, by simp [sizeAlloc], ?_⟩
  · rw [heapAlloc, if_pos (by rw [sizeAlloc])]
  · exact blkOld (blkNew w _) _
  · rw [Array.getElem?_eq_some_iff] at hv
    obtain ⟨hk, hv⟩ := hv
    rw [Array.getElem_replicate] at hv
    exact ⟨0, hv.symm, by omega, by omega⟩
  · exact (((Below.refl _ _).alloc (Nat.le_refl _) _).alloc (by rw [sizeAlloc]; omega) _)
theorem disk_Sectors {w : World} {d g n : Nat} {C : Array Value} {wr sy : Int} (h : DiskAt w d g n C wr sy) : Calls Tryz.prog 82 #[.pointer (some ⟨d, 0, none⟩)] w fun e w' => e = .returned (.int .i64 n) ∧ w = w' := by
  have h0 := blkCell h.hd 0 rfl
  go_enter Tryz.func82, Tryz.ntmps82
  go_wp2; go_ret; exact ⟨rfl, rfl⟩
theorem disk_ask {w : World} {d g n : Nat} {C : Array Value} {wr sy : Int} (h : DiskAt w d g n C wr sy) (i : Int) (i0 : 0 ≤ i) (i1 : i < n) : Calls Tryz.prog 407 #[.pointer (some ⟨d, 0, none⟩), .int .i64 i] w fun e w' => e = .returned (.int .i64 0) ∧ w = w' := by
  have h0 := blkCell h.hd 0 rfl
  have h4 := h.lo
  go_enter Tryz.func407, Tryz.ntmps407
  go_wp2_with (go_at_call 82; refine (disk_Sectors h).mono ?_; rintro e w' ⟨rfl, rfl⟩)
  go_ret; exact ⟨rfl, rfl⟩
end Go.Proofs.YtfdbffopcdpfeaaGreatDoor
