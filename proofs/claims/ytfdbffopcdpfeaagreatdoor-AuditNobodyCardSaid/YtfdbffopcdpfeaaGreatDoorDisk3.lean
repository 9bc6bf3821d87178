/- Writing the first sector that waits; the counters. -/
import Derived.Test.YtfdbffopcdpfeaaGreatDoorProg
import Derived.WalkKit
import Derived.WalkSpells
import Derived.WalkLawsBesides
import Derived.Deep.QuietTactic
import Derived.BigQuiet
import Derived.Lib.Hide
import Derived.Deep.RegionHeld3
import Derived.Deep.DrawnRows
import Derived.Deep.AppendLies
import Derived.Deep.RegionLaw
import Derived.Lib.AppendZerosOnto
import Derived.Lib.SlBytesConst
import Derived.Test.YtfdbffopcdpfeaaGreatDoorBase
import Derived.Test.YtfdbffopcdpfeaaGreatDoorDisk
import Derived.Test.YtfdbffopcdpfeaaGreatDoorDisk2
import Derived.Test.YtfdbffopcdpfeaaGreatDoorAtom
set_option linter.unusedVariables false
set_option linter.unusedSimpArgs false
namespace Go.Proofs.YtfdbffopcdpfeaaGreatDoor
open Go.RowKit
attribute [local go_sem ↓] Go.wp_at_zero Go.wp_at_succ

open Go
theorem wait_info : (Tryz.prog.info? 382).map (fun i => (i.zero.map (·.cells.size), i.size, i.bytes)) = some (some 129, 129, 136) := by kernel_rfl
theorem zero_wait_size : Tryz.zeroCells382.size = 129 := by kernel_rfl
set_option maxRecDepth 100000 in
theorem build_wait (i : Int) (X : Array Value) (hX : X.size = 128) (W : World) : (Instr.build 382 #[(0, .int .i64 i), (1, .agg X)]).run Tryz.prog W = .ok (.agg (.int .i64 i :: X.toList).toArray) W := by
  simp [Instr.build, go_sem, hX]
  rw [foldSplice X 128 hX]
  exact splice_full Tryz.zeroCells382 (.int .i64 i :: X.toList) (by simp [hX, zero_wait_size])
set_option maxRecDepth 100000 in
theorem buildSlice_wait (Y : Array Value) (hY : Y.size = 129) (W : World) : (Instr.buildSlice 140 1 #[(0, .agg Y)]).run Tryz.prog W = .ok (.slice (some ⟨W.heap.size, 0, none⟩) 1 1) (W.alloc (.cells Y 382)) := by
  simp [Instr.buildSlice, Instr.fill, go_sem, hY]
  rw [foldSplice0 Y 129 hY, splice_full _ _ (by simp [hY])]
theorem run_bs_wait (ρ : Operand → Value) (dst : Option Tmp) (x : Operand) (ty : TypeId) (pos : String) (after : Array Edge) (guard : Option (Nat × Bool)) (w : World) (h : (ρ x).cells.size = 129) :
    (execOp ρ { dst := dst, op := .buildSlice 140 1 #[(0, x)], type := ty, pos := pos, after := after, guard := guard }).run Tryz.prog w = .ok (.value (.slice (some ⟨w.heap.size, 0, none⟩) 1 1)) (w.alloc (.cells (ρ x).cells 382)) := by
  have hr := buildSlice_wait (ρ x).cells h w
  unfold execOp
  have e : (Instr.buildSlice 140 1 #[(0, ρ x)]).run Tryz.prog w = (Instr.buildSlice 140 1 #[(0, .agg (ρ x).cells)]).run Tryz.prog w := by
    cases hv : ρ x <;> simp only [Value.cells, hv] at h ⊢
    all_goals (simp at h)
  simp only [List.map_toArray, List.map_cons, List.map_nil]
  simp only [Sem.run_bind, e, hr, Result.andThen_ok, Sem.run_pure]
theorem run_b_wait (ρ : Operand → Value) (dst : Option Tmp) (x y : Operand) (ty : TypeId) (pos : String) (after : Array Edge) (guard : Option (Nat × Bool)) (w : World) (hx : (match ρ x with | .int .i64 _ => true | _ => false) = true) (h : (ρ y).cells.size = 128) :
    (execOp ρ { dst := dst, op := .build 382 #[(0, x), (1, y)], type := ty, pos := pos, after := after, guard := guard }).run Tryz.prog w = .ok (.value (.agg (#[ρ x] ++ (ρ y).cells))) w := by
  obtain ⟨i, hi⟩ : ∃ i, ρ x = .int .i64 i := by
    revert hx
    split
    · rename_i n hn; exact fun _ => ⟨n, hn⟩
    · exact fun h => by cases h
  have hr := build_wait i (ρ y).cells h w
  unfold execOp
  have e : (Instr.build 382 #[(0, ρ x), (1, ρ y)]).run Tryz.prog w = (Instr.build 382 #[(0, .int .i64 i), (1, .agg (ρ y).cells)]).run Tryz.prog w := by
    rw [hi]
    cases hv : ρ y <;> simp only [Value.cells, hv] at h ⊢
    all_goals (simp at h)
  simp only [List.map_toArray, List.map_cons, List.map_nil]
  simp only [Sem.run_bind, e, hr, Result.andThen_ok, Sem.run_pure]
  have e2 : (Value.int IntKind.i64 i :: (ρ y).cells.toList).toArray = #[Value.int .i64 i] ++ (ρ y).cells := by simp
  rw [e2, hi]
attribute [local go_sem ↓] run_bs_wait run_b_wait
theorem cellA {w : World} {a : Addr} {v : Value} (h : w.cell? a = some v) (o : Obj) : (w.alloc o).cell? a = some v := (((Below.refl _ _).alloc (Nat.le_refl _) o : Below w.heap.size w (w.alloc o)).cell (World.block_lt_of_cell? w a h)).trans h
theorem cellAD {w : World} {a : Addr} {v : Value} (h : w.cell? a = some v) (o : Obj) : (w.alloc o).drew.cell? a = some v := cellA h o
theorem rangeA {w : World} {b o : Nat} {cs : List Value} (h : w.rangeAt b o cs) (ob : Obj) : (w.alloc ob).rangeAt b o cs := fun j v hv => cellA (h j v hv) ob
theorem rangeAD {w : World} {b o : Nat} {cs : List Value} (h : w.rangeAt b o cs) (ob : Obj) : (w.alloc ob).drew.rangeAt b o cs := rangeA h ob
theorem rangeGrown {w w' : World} {b o : Nat} {cs : List Value} {row : Option Nat} (h : w.rangeAt b o cs) (hg : w.grownBy w' row) (hne : row ≠ some b) : w'.rangeAt b o cs := fun j v hv => by
  have hc := h j v hv
  exact (hg.cell_far ⟨b, o + j, none⟩ (World.block_lt_of_cell? w _ hc) hne.symm).trans hc
theorem cellGrown {w w' : World} {a : Addr} {v : Value} {row : Option Nat} (h : w.cell? a = some v) (hg : w.grownBy w' row) (hne : row ≠ some a.block) : w'.cell? a = some v := (hg.cell_far a (World.block_lt_of_cell? w _ h) hne.symm).trans h
theorem freeA {w : World} {a : Addr} (h : a.block < w.heap.size ∧ w.frozen? a = false) (o : Obj) : a.block < (w.alloc o).heap.size ∧ (w.alloc o).frozen? a = false :=
  ⟨by rw [sizeAlloc]; omega, (((Below.refl _ _).alloc (Nat.le_refl _) o : Below w.heap.size w (w.alloc o)).frozen h.1).trans h.2⟩
theorem freeAD {w : World} {a : Addr} (h : a.block < w.heap.size ∧ w.frozen? a = false) (o : Obj) : (w.alloc o).drew.frozen? a = false := (freeA h o).2
theorem freeAD2 {w : World} {a : Addr} (h : a.block < w.heap.size ∧ w.frozen? a = false) (o : Obj) : a.block < (w.alloc o).drew.heap.size ∧ (w.alloc o).drew.frozen? a = false := freeA h o
theorem freeGrown {w w' : World} {a : Addr} {row : Option Nat} (h : a.block < w.heap.size ∧ w.frozen? a = false) (hg : w.grownBy w' row) (hne : row ≠ some a.block) : w'.frozen? a = false := (hg.frozen_far a h.1 hne.symm).trans h.2
theorem cell?_far2 (w : World) (p : Addr) (v : Value) {q : Addr} (h : p.block ≠ q.block) : (w.setCell p v).cell? q = w.cell? q := by
  unfold World.cell? World.setCell
  simp only []
  rw [Array.getElem?_modify, if_neg h]
theorem nilRow (w : World) (base : Nat) (e : TypeId) (size : Nat) : w.ownsRow base e size (.slice none 0 0) 0 [] := ⟨by simp, .inl ⟨rfl, rfl⟩⟩
/-- The n cells of block b from o on. -/
def wrow (w : World) (b o n : Nat) : Array Value := ((List.range n).map fun j => (w.cell? ⟨b, o + j, none⟩).getD undef).toArray
def wthere (w : World) (b o n : Nat) : Prop := ∀ j, j < n → (w.cell? ⟨b, o + j, none⟩).isSome = true
def ptrB : Value → Nat
  | .pointer (some a) => a.block
  | _ => 0
def ptrO : Value → Nat
  | .pointer (some a) => a.off
  | _ => 0
def isPtr : Value → Bool
  | .pointer (some ⟨_, _, none⟩) => true
  | _ => false
theorem wrow_range {w : World} {b o n : Nat} (h : wthere w b o n) : w.rangeAt b o (wrow w b o n).toList := fun j v hv => by
  simp only [wrow, List.getElem?_map] at hv
  by_cases hj : j < n
  · rw [List.getElem?_range hj] at hv
    simp only [Option.map_some, Option.some.injEq] at hv
    have := h j hj
    obtain ⟨u, hu⟩ := Option.isSome_iff_exists.1 this
    rw [hu] at hv ⊢
    simpa using hv
  · rw [List.getElem?_eq_none (by simp; omega)] at hv
    simp at hv
theorem wrow_of {w : World} {b o n : Nat} {X : Array Value} (h : w.rangeAt b o X.toList) (hn : X.size = n) : wrow w b o n = X := by
  apply Array.ext
  · simp [wrow, hn]
  · intro k h1 h2
    have hc := h k X[k] (by simp [h2])
    simp [wrow, hc]
theorem wthere_of {w : World} {b o n : Nat} {X : Array Value} (h : w.rangeAt b o X.toList) (hn : X.size = n) : wthere w b o n := fun j hj => by
  rw [h j X[j] (by simp [show j < X.size by omega])]; rfl
theorem wrow_drew (w : World) (b o n : Nat) : wrow w.drew b o n = wrow w b o n := rfl
theorem wthere_drew (w : World) (b o n : Nat) : wthere w.drew b o n = wthere w b o n := rfl
theorem run_load_sector (ρ : Operand → Value) (dst : Option Tmp) (x : Operand) (ty : TypeId) (pos : String) (after : Array Edge) (guard : Option (Nat × Bool)) (w : World) (hp : isPtr (ρ x) = true) (h : wthere w (ptrB (ρ x)) (ptrO (ρ x)) 128) :
    (execOp ρ { dst := dst, op := .load 380 x, type := ty, pos := pos, after := after, guard := guard }).run Tryz.prog w = .ok (.value (.agg (wrow w (ptrB (ρ x)) (ptrO (ρ x)) 128))) w := by
  obtain ⟨b, o, hv⟩ : ∃ b o, ρ x = .pointer (some ⟨b, o, none⟩) := by
    revert hp
    unfold isPtr
    split
    · rename_i b o hn; exact fun _ => ⟨b, o, hn⟩
    · exact fun h => by cases h
  simp only [hv, ptrB, ptrO] at h ⊢
  have hr := run_loadVar_mid w b o 380 (wrow w b o 128).toList _ (wrow_range h) Tryz.underlying380 rfl (by rw [sector_info]; simp [wrow])
  unfold execOp
  simp only [hv, Instr.loadAt, Instr.sureAddr, Sem.run_bind, Sem.run_pure, Result.andThen_ok, hr]
attribute [local go_sem ↓] run_load_sector
attribute [local go_sem] wrow_drew wthere_drew ptrB ptrO isPtr
set_option maxRecDepth 100000 in
set_option maxHeartbeats 1600000 in
theorem disk_Write {w : World} {d g n : Nat} {C : Array Value} {wr sy : Int} (h : DiskAt w d g n C wr sy) (i : Nat) (i1 : i < n) (bb cap : Nat) (X : Array Value) (tb : TypeId)
    (hX : w.rangeAt bb 0 X.toList) (hXs : X.size = 128) (hall : X.all (·.oneCell') = true) (hcap : 128 ≤ cap) (hbd : bb ≠ d) (hbl : bb < w.heap.size) :
    Calls Tryz.prog 358 #[.pointer (some ⟨d, 0, none⟩), .int .i64 i, .slice (some ⟨bb, 0, none⟩) 128 cap] w fun e w' => e = .returned (.int .i64 0) ∧ ∃ ws cw, 
    w'.heap[d]? = some (.cells #[.slice (some ⟨g, 0, none⟩) n n, .slice (some ⟨ws, 0, none⟩) 1 cw, .int .i64 (IntKind.i64.wrap (wr + 1)), .int .i64 sy] 147 (0, 0)) ∧
    w'.rangeAt ws 0 (.int .i64 i :: X.toList) ∧ w.heap.size ≤ ws ∧ Chg (· = d) w w' := by
  have h0 := blkCell h.hd 0 rfl
  have h1 : w.cell? ⟨d, 1, none⟩ = some (.slice none 0 0) := blkCell h.hd 1 rfl
  have hdl := blkLt h.hd
  have h2 : w.cell? ⟨d, 2, none⟩ = some (.int .i64 wr) := blkCell h.hd 2 rfl
  have hf2 : w.frozen? ⟨d, 2, none⟩ = false := blkFree h.hd 2
  have hf1 : w.frozen? ⟨d, 1, none⟩ = false := blkFree h.hd 1
  have h4 := h.lo
  have h5 := h.hi
  obtain ⟨i0, hi0, hzz⟩ := Option.map_eq_some_iff.1 wait_info
  simp only [Prod.mk.injEq] at hzz
  obtain ⟨hz0, hz1, hz2⟩ := hzz
  obtain ⟨z, hz, hzc⟩ := Option.map_eq_some_iff.1 hz0
  have hu := Tryz.underlying380
  have hXl : X.toList.length = 128 := by simpa using hXs
  have hinf : (Tryz.prog.info? 380).map (·.size) = some X.toList.length := by rw [hXl]; exact sector_info
  have hone : ∀ v ∈ X.toList, v.oneCell' = true := by intro v hv; exact (Array.all_eq_true_iff_forall_mem.1 hall) v (by simpa using hv)
  have harr : ∀ W : World, (Instr.arrayAt 380 (.slice (some ⟨bb, 0, none⟩) 128 cap)).run Tryz.prog W = .ok (.pointer (some ⟨bb, 0, none⟩)) W := fun W => by kernel_rfl
  have hYl : (Value.int .i64 i :: X.toList) = (#[Value.int .i64 i] ++ X).toList := by simp
  have hYs : (#[Value.int .i64 i] ++ X).size = 129 := by simp [hXs]
  have hYo : ∀ v ∈ (#[Value.int .i64 i] ++ X).toList, v.oneCell' = true := by
    intro v hv
    have hv' : v = Value.int .i64 i ∨ v ∈ X := by simpa using hv
    rcases hv' with rfl | hv'
    · rfl
    · exact hone v (by simpa using hv')
  have HYo := Lib.hid hYo
  have HYs := Lib.hid hYs
  have HYl := Lib.hid hYl
  clear hYo hYs hYl
  go_enter Tryz.func358, Tryz.ntmps358
  go_wp2_with (go_at_call 407; refine (disk_ask h _ (by omega) (by omega)).mono ?_; rintro e w' ⟨rfl, rfl⟩)
  have hYe : Array.foldl (fun cs x => cs.setIfInBounds (1 + x.2) x.1) (Tryz.zeroCells382.setIfInBounds 0 (Value.int .i64 i)) X.zipIdx 0 128 = #[Value.int .i64 i] ++ X := by
    rw [foldSplice X 128 hXs]
    refine (splice_full Tryz.zeroCells382 (.int .i64 i :: X.toList) (by simp [hXs, zero_wait_size])).trans ?_
    simp
  have hwr := wrow_of hX hXs
  have hwt := wthere_of hX hXs
  go_region_law ((refine step_append_lies _ (by rfl) _ _ _ (by rfl) w.heap.size 382 i0 _ 129 136 Tryz.underlying140 hi0 hz hz1 hz2 hzc (by omega) (.slice none 0 0) 0 [] (by rfl) (nilRow _ _ _ _) ⟨w.heap.size, 0, none⟩ 1 1 (#[Value.int .i64 i] ++ X).toList (by rfl) (by simp [hXs]) (World.news_of_block (cs := (#[Value.int .i64 i] ++ X)) (t := 382) (fr := (0, 0)) (heap_alloc_new w.drew _)) HYo.out (by omega) (by unfold maxLen; omega) (by omega) (by simp) (w.heap.size + 1) (by simp) ?_; intro gg cap w1 hown1 hgrow hat hlt; have hk1 := cellGrown (cellAD h1 (.cells (#[Value.int .i64 i] ++ X) 382)) hgrow (by simp [Value.ownBlock]); have hk2 := freeGrown (freeAD2 ⟨hdl, hf1⟩ (.cells (#[Value.int .i64 i] ++ X) 382)) hgrow (by simp [Value.ownBlock]); have hk3 := cellGrown (cellAD h2 (.cells (#[Value.int .i64 i] ++ X) 382)) hgrow (by simp [Value.ownBlock]); have hk4 := freeGrown (freeAD2 ⟨hdl, hf2⟩ (.cells (#[Value.int .i64 i] ++ X) 382)) hgrow (by simp [Value.ownBlock]))) 
  all_goals
    go_wp2_with fail
    have ha := atomic_Add d 2 wr 1 _ (w1.setCell ⟨d, 1, none⟩ (.slice (some ⟨gg, 0, none⟩) 1 cap)) (by simp [go_sem, hk3]) (by simp [go_sem, hk4]) rfl
    refine ha.mono ?_
    rintro e w' ⟨rfl, rfl⟩
    clear ha
    go_wp2
    go_ret
    have hB : Below w.heap.size w (w.alloc (.cells (#[Value.int .i64 i] ++ X) 382)).drew := belowD ((Below.refl _ _).alloc (Nat.le_refl _) _) 1
    have hG : Below w.heap.size w w1 := hB.grown hgrow (by simp [sizeAlloc]) (by simp [Value.ownBlock])
    have hgg : gg = w.heap.size + 1 := by rcases hat with hat | hat; · simp [Value.ownBlock] at hat
                                          · exact hat
    refine ⟨rfl, gg, cap, blkSet (blkSet (blkBelow h.hd hG hdl) 1 _) 2 _, ?_, by omega, ((Chg.ofBelow (S := (· = d)) hG).set (b := d) (.inl rfl) _ _).set (b := d) (.inl rfl) _ _⟩
    intro j v hv
    rw [HYl.out] at hv
    have hc := hown1.cells (g := gg) rfl j v (by simpa using hv)
    rw [Addr.add_mid] at hc
    rw [cell?_far2 _ _ _ (by simp; omega), cell?_far2 _ _ _ (by simp; omega)]
    exact hc
end Go.Proofs.YtfdbffopcdpfeaaGreatDoor
