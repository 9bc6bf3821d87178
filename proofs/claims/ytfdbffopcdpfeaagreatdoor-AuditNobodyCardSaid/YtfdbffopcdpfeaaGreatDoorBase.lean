/- Plain facts on worlds and blocks, used by all walks. -/
import Derived.Test.YtfdbffopcdpfeaaGreatDoorProg
import Derived.WalkKit
import Derived.WalkSpells
import Derived.WalkLawsBesides
import Derived.Deep.QuietTactic
import Derived.BigQuiet
import Derived.Lib.Hide
import Derived.Deep.RegionHeld3
import Derived.Deep.DrawnRows
import Derived.Deep.AppendLies
import Derived.Deep.RegionLaw
import Derived.Lib.AppendZerosOnto
import Derived.Lib.SlBytesConst
set_option linter.unusedVariables false
set_option linter.unusedSimpArgs false
namespace Go.Proofs.YtfdbffopcdpfeaaGreatDoor
open Go.RowKit
attribute [local go_sem ↓] Go.wp_at_zero Go.wp_at_succ

/-- A block that is known whole: its cells. -/
theorem blkCell {w : World} {b : Nat} {cs : Array Value} {t : TypeId} {f : Nat × Nat} (h : w.heap[b]? = some (.cells cs t f)) (j : Nat) {v : Value} (hv : cs[j]? = some v) : w.cell? ⟨b, j, none⟩ = some v := by
  simp [World.cell?, h, hv]
theorem blkFree {w : World} {b : Nat} {cs : Array Value} {t : TypeId} (h : w.heap[b]? = some (.cells cs t (0, 0))) (j : Nat) : w.frozen? ⟨b, j, none⟩ = false := by
  simp [World.frozen?, h]
theorem blkLt {w : World} {b : Nat} {o : Obj} (h : w.heap[b]? = some o) : b < w.heap.size := (Array.getElem?_eq_some_iff.1 h).1
/-- The new block. -/
theorem blkNew (w : World) (o : Obj) : (w.alloc o).heap[w.heap.size]? = some o := heap_alloc_new w o
/-- An old block behind a new one. -/
theorem blkOld {w : World} {b : Nat} {o : Obj} (h : w.heap[b]? = some o) (o' : Obj) : (w.alloc o').heap[b]? = some o := by
  have := blkLt h
  show (w.heap.push o')[b]? = some o
  rw [Array.getElem?_push, if_neg (by omega)]; exact h
theorem blkBelow {w w' : World} {B b : Nat} {o : Obj} (h : w.heap[b]? = some o) (hb : Below B w w') (hB : b < B) : w'.heap[b]? = some o := (hb.block b hB).trans h
/-- A store into a block that is known whole. -/
theorem blkSet {w : World} {b : Nat} {cs : Array Value} {t : TypeId} {f : Nat × Nat} (h : w.heap[b]? = some (.cells cs t f)) (j : Nat) (v : Value) : (w.setCell ⟨b, j, none⟩ v).heap[b]? = some (.cells (cs.setIfInBounds j v) t f) := by
  show (w.heap.modify b _)[b]? = _
  rw [Array.getElem?_modify]; simp [h]
theorem blkFar {w : World} {b c : Nat} {o : Obj} (h : w.heap[b]? = some o) (hne : b ≠ c) (j : Nat) (v : Value) : (w.setCell ⟨c, j, none⟩ v).heap[b]? = some o := by
  show (w.heap.modify c _)[b]? = _
  rw [Array.getElem?_modify]; simp [Ne.symm hne, h]
theorem belowA {w W : World} {B : Nat} (h : Below B w W) (hB : B ≤ W.heap.size) (o : Obj) : Below B w (W.alloc o) := h.alloc hB o
theorem belowD {w W : World} {B : Nat} (h : Below B w W) (n : Nat) : Below B w (W.drewN n) := ⟨h.os, h.tape, h.output, h.size, h.block⟩
theorem belowT {B : Nat} {w w1 w2 : World} (h : Below B w w1) (hB : B ≤ w1.heap.size) (k : Below w1.heap.size w1 w2) : Below B w w2 :=
  h.trans ⟨k.os, k.tape, k.output, k.size, fun i hi => k.block i (Nat.lt_of_lt_of_le hi hB)⟩
/-- All old cells and marks, as the walk takes them. -/
theorem bcell {w W : World} (hb : Below w.heap.size w W) : (∀ b o, b < w.heap.size → W.cell? ⟨b, o, none⟩ = w.cell? ⟨b, o, none⟩) ∧ (∀ b o, b < w.heap.size → W.frozen? ⟨b, o, none⟩ = w.frozen? ⟨b, o, none⟩) :=
  ⟨fun b o h => hb.cell (p := ⟨b, o, none⟩) h, fun b o h => hb.frozen (p := ⟨b, o, none⟩) h⟩
/-- Blocks that are known whole. -/
def Has (w : World) (l : List (Nat × Obj)) : Prop := ∀ p, p ∈ l → w.heap[p.1]? = some p.2
theorem Has.get {w : World} {l : List (Nat × Obj)} (h : Has w l) {b : Nat} {o : Obj} (hm : (b, o) ∈ l) : w.heap[b]? = some o := h _ hm
/-- w' is w but for blocks of S (and new ones). -/
structure Chg (S : Nat → Prop) (w w' : World) : Prop where
  os : w'.os = w.os
  tape : w'.tape = w.tape
  output : w'.output = w.output
  size : w.heap.size ≤ w'.heap.size
  block : ∀ k, k < w.heap.size → ¬ S k → w'.heap[k]? = w.heap[k]?
theorem Chg.refl (S : Nat → Prop) (w : World) : Chg S w w := ⟨rfl, rfl, rfl, Nat.le_refl _, fun _ _ _ => rfl⟩
theorem Chg.trans {S : Nat → Prop} {a b c : World} (h : Chg S a b) (k : Chg S b c) : Chg S a c :=
  ⟨k.os.trans h.os, k.tape.trans h.tape, k.output.trans h.output, Nat.le_trans h.size k.size, fun i hi hs => (k.block i (Nat.lt_of_lt_of_le hi h.size) hs).trans (h.block i hi hs)⟩
theorem Chg.mono {S T : Nat → Prop} {w w' : World} (h : Chg S w w') (hs : ∀ k, k < w.heap.size → S k → T k) : Chg T w w' :=
  ⟨h.os, h.tape, h.output, h.size, fun i hi ht => h.block i hi (fun x => ht (hs i hi x))⟩
theorem Chg.ofBelow {S : Nat → Prop} {w w' : World} (h : Below w.heap.size w w') : Chg S w w' := ⟨h.os, h.tape, h.output, h.size, fun i hi _ => h.block i hi⟩
theorem Chg.below {S : Nat → Prop} {w w' : World} {B : Nat} (h : Chg S w w') (hB : B ≤ w.heap.size) (hs : ∀ k, k < B → ¬ S k) : Below B w w' :=
  ⟨h.os, h.tape, h.output, h.size, fun i hi => h.block i (Nat.lt_of_lt_of_le hi hB) (hs i hi)⟩
theorem Chg.drewN {S : Nat → Prop} {w w' : World} (h : Chg S w w') (n : Nat) : Chg S w (w'.drewN n) := ⟨h.os, h.tape, h.output, h.size, h.block⟩
theorem Chg.alloc {S : Nat → Prop} {w w' : World} (h : Chg S w w') (o : Obj) : Chg S w (w'.alloc o) := h.trans (Chg.ofBelow ((Below.refl _ _).alloc (Nat.le_refl _) o))
theorem Chg.set {S : Nat → Prop} {w w' : World} (h : Chg S w w') {b : Nat} (hb : S b ∨ w.heap.size ≤ b) (j : Nat) (v : Value) : Chg S w (w'.setCell ⟨b, j, none⟩ v) := by
  refine ⟨h.os, h.tape, h.output, ?_, fun k hk hs => ?_⟩
  · show _ ≤ (w'.heap.modify b _).size
    simpa using h.size
  · have hne : b ≠ k := by
      rintro rfl
      rcases hb with hb | hb
      · exact hs hb
      · omega
    show (w'.heap.modify b _)[k]? = _
    rw [Array.getElem?_modify, if_neg hne]; exact h.block k hk hs
theorem Has.chg {w w' : World} {l : List (Nat × Obj)} {S : Nat → Prop} (h : Has w l) (hc : Chg S w w') (hd : ∀ p, p ∈ l → ¬ S p.1) : Has w' l :=
  fun p hp => (hc.block p.1 (blkLt (h p hp)) (hd p hp)).trans (h p hp)
theorem Has.below {w w' : World} {l : List (Nat × Obj)} (h : Has w l) (hb : Below w.heap.size w w') : Has w' l := fun p hp => blkBelow (h p hp) hb (blkLt (h p hp))
theorem Has.sub {w : World} {l m : List (Nat × Obj)} (h : Has w l) (hs : ∀ p, p ∈ m → p ∈ l) : Has w m := fun p hp => h p (hs p hp)
theorem heapAlloc (w : World) (o : Obj) (k : Nat) : (w.alloc o).heap[k]? = if k = w.heap.size then some o else w.heap[k]? := by
  show (w.heap.push o)[k]? = _
  rw [Array.getElem?_push]
theorem sizeAlloc (w : World) (o : Obj) : (w.alloc o).heap.size = w.heap.size + 1 := by show (w.heap.push o).size = _; simp
theorem has1 (w : World) (a : Obj) : Has (w.alloc a) [(w.heap.size, a)] := by
  intro p hp; simp only [List.mem_cons, List.mem_nil_iff, or_false] at hp; subst hp; exact blkNew w a
theorem hasSnoc {w : World} {l : List (Nat × Obj)} (h : Has w l) (a : Obj) {n : Nat} (hn : w.heap.size = n) : Has (w.alloc a) (l ++ [(n, a)]) := by
  intro p hp
  rcases List.mem_append.1 hp with hp | hp
  · exact blkOld (h p hp) a
  · simp only [List.mem_cons, List.mem_nil_iff, or_false] at hp; subst hp; subst hn; exact blkNew w a
theorem Has.app {w : World} {l m : List (Nat × Obj)} (h : Has w l) (k : Has w m) : Has w (l ++ m) := fun p hp => (List.mem_append.1 hp).elim (h p) (k p)
/-- What a function that makes memory leaves: the value, new blocks, so many. -/
structure Made (w : World) (v : Value) (l : List (Nat × Obj)) (n : Nat) (e : Ending) (w' : World) : Prop where
  ret : e = .returned v
  has : Has w' l
  size : w'.heap.size = w.heap.size + n
  below : Below w.heap.size w w'
theorem Made.mk1 (w : World) (v : Value) (a : Obj) : Made w v [(w.heap.size, a)] 1 (.returned v) (w.alloc a) := ⟨rfl, has1 w a, sizeAlloc w a, (Below.refl _ _).alloc (Nat.le_refl _) _⟩
theorem Made.snoc {w : World} {v : Value} {l : List (Nat × Obj)} {n : Nat} {w' : World} (h : Made w v l n (.returned v) w') (a : Obj) : Made w v (l ++ [(w.heap.size + n, a)]) (n + 1) (.returned v) (w'.alloc a) :=
  ⟨rfl, hasSnoc h.has a h.size, by rw [sizeAlloc, h.size]; omega, h.below.alloc h.below.size _⟩
theorem Made.mk2 (w : World) (v : Value) (a b : Obj) : Made w v [(w.heap.size, a), (w.heap.size + 1, b)] 2 (.returned v) ((w.alloc a).alloc b) := (Made.mk1 w v a).snoc b
theorem Made.mk3 (w : World) (v : Value) (a b c : Obj) : Made w v [(w.heap.size, a), (w.heap.size + 1, b), (w.heap.size + 2, c)] 3 (.returned v) (((w.alloc a).alloc b).alloc c) := (Made.mk2 w v a b).snoc c
/-- Objects laid one behind the other from K on. -/
def objsFrom : Nat → List Obj → List (Nat × Obj)
  | _, [] => []
  | k, o :: l => (k, o) :: objsFrom (k + 1) l
theorem hasFrom : ∀ (l : List Obj) (w : World), Has (l.foldl World.alloc w) (objsFrom w.heap.size l) ∧ (l.foldl World.alloc w).heap.size = w.heap.size + l.length ∧ Below w.heap.size w (l.foldl World.alloc w)
  | [], w => ⟨fun p hp => (by cases hp), by simp, Below.refl _ _⟩
  | o :: l, w => by
    obtain ⟨h1, h2, h3⟩ := hasFrom l (w.alloc o)
    rw [sizeAlloc] at h1 h2 h3
    have hb : Below w.heap.size w (w.alloc o) := (Below.refl _ _).alloc (Nat.le_refl _) _
    refine ⟨fun p hp => ?_, ?_, ?_⟩
    · rcases List.mem_cons.1 hp with rfl | hp
      · exact blkBelow (blkNew w o) h3 (by simp)
      · exact h1 p hp
    · simp only [List.foldl_cons, List.length_cons, h2]; omega
    · exact hb.trans ⟨h3.os, h3.tape, h3.output, h3.size, fun k hk => h3.block k (by omega)⟩
theorem madeFrom (w : World) (v : Value) (l : List Obj) {m : List (Nat × Obj)} {n : Nat} (hn : l.length = n) (hs : ∀ p, p ∈ m → p ∈ objsFrom w.heap.size l) : Made w v m n (.returned v) (l.foldl World.alloc w) :=
  ⟨rfl, (hasFrom l w).1.sub hs, by rw [(hasFrom l w).2.1, hn], (hasFrom l w).2.2⟩
end Go.Proofs.YtfdbffopcdpfeaaGreatDoor
