/- Supers: what is put and read at a start on a new disk. -/
import Derived.Test.YtfdbffopcdpfeaaGreatDoorProg
import Derived.WalkKit
import Derived.WalkSpells
import Derived.WalkLawsBesides
import Derived.Deep.QuietTactic
import Derived.BigQuiet
import Derived.Lib.Hide
import Derived.Deep.RegionHeld3
import Derived.Deep.DrawnRows
import Derived.Deep.AppendLies
import Derived.Deep.RegionLaw
import Derived.Lib.AppendZerosOnto
import Derived.Lib.SlBytesConst
import Derived.Test.YtfdbffopcdpfeaaGreatDoorBase
import Derived.Test.YtfdbffopcdpfeaaGreatDoorDisk
import Derived.Test.YtfdbffopcdpfeaaGreatDoorDisk2
import Derived.Test.YtfdbffopcdpfeaaGreatDoorDisk3
import Derived.Test.YtfdbffopcdpfeaaGreatDoorDisk4
import Derived.Test.YtfdbffopcdpfeaaGreatDoorSums
set_option linter.unusedVariables false
set_option linter.unusedSimpArgs false
namespace Go.Proofs.YtfdbffopcdpfeaaGreatDoor
open Go.RowKit
attribute [local go_sem ↓] Go.wp_at_zero Go.wp_at_succ

open Go
theorem u8_info : (Tryz.prog.info? 5).map (fun i => (i.zero, i.size, i.bytes)) = some (some (.int .u8 0), 1, 1) := by kernel_rfl
/-- Bytes: so many, each a byte. -/
def IsBytes (xs : List Value) : Prop := ∀ v ∈ xs, ∃ i : Int, v = Value.int .u8 i
theorem IsBytes.one {xs : List Value} (h : IsBytes xs) : ∀ v ∈ xs, v.oneCell' = true := fun v hv => by obtain ⟨i, rfl⟩ := h v hv; rfl
theorem own_base' {w : World} {base : Nat} {e : TypeId} {size n : Nat} {v : Value} {xs : List Value} (h : w.ownsRow base e size v n xs) (k : Nat) (hk : v.ownBlock = some k) : base ≤ k := by
  rcases h.2 with ⟨rfl, _⟩ | ⟨g, cap, cur, rfl, hb, _⟩
  · simp [Value.ownBlock] at hk
  · have : g = k := by simpa [Value.ownBlock] using hk
    omega
/-- A number's bytes, the greatest first: the first k of m. -/
def beB (x : Int) (m k : Nat) : List Value := (List.range k).map fun i => Value.int .u8 (x / 2 ^ (8 * (m - 1 - i)) % 256)
theorem beB_len (x : Int) (m k : Nat) : (beB x m k).length = k := by simp [beB]
theorem beB_bytes (x : Int) (m k : Nat) : IsBytes (beB x m k) := fun v hv => by
  simp only [beB, List.mem_map] at hv; obtain ⟨i, _, rfl⟩ := hv; exact ⟨_, rfl⟩
theorem beB_succ (x : Int) (m k : Nat) : beB x m (k + 1) = beB x m k ++ [Value.int .u8 (x / 2 ^ (8 * (m - 1 - k)) % 256)] := by simp [beB, List.range_succ]
/-- Bytes onto which one may append: the call's own, or full ones. -/
def AppOK (w : World) (base : Nat) (v : Value) (n : Nat) (xs : List Value) : Prop :=
  w.ownsRow base 5 1 v n xs ∨ ∃ g, v = .slice (some ⟨g, 0, none⟩) n n ∧ xs.length = n ∧ ∀ j u, xs[j]? = some u → w.cell? ⟨g, j, none⟩ = some u
theorem addZ (g j : Nat) : (⟨g, 0, none⟩ : Addr).add j = ⟨g, j, none⟩ := by rw [Addr.add_mid]; simp
theorem wpList_byte {ops : Array Oper} {rest : List Oper} {o : Oper} {a : Act} {Q : Exit → Act → World → Prop} (W : World) (hgd : o.guard = none) (s x : Operand)
    (ho : o.op = .call { callee := .builtin .append, args := #[s, x], argTypes := #[68, 68] }) (base : Nat) (v : Value) (n : Nat) (xs : List Value) (hs : a.eval s = v) (hown : AppOK W base v n xs)
    (y : Int) (hx : a.eval x = .slice (some ⟨W.heap.size, 0, none⟩) 1 1) (hn : n ≤ 100000000000000) (hb : base ≤ W.heap.size)
    (h : ∀ v' w', w'.ownsRow base 5 1 v' (n + 1) (xs ++ [Value.int .u8 y]) → Below base W w' → base ≤ w'.heap.size → W.grownBy w' v.ownBlock → wpList Tryz.prog ops Q rest (a.put o.dst v') w') :
    wpList Tryz.prog ops Q (o :: rest) a (W.alloc (.cells #[.int .u8 y] 5)) := by
  obtain ⟨i0, hi0, hz0, hz1, hz2⟩ := info_parts u8_info
  rcases hown with hown | ⟨g, rfl, hxl, hc⟩
  · refine wpList_append_own_at _ hgd s x 68 ho base 5 i0 (.int .u8 0) 1 1 Tryz.underlying68 hi0 hz0 hz1 hz2 rfl (by decide) v n xs hs (hown.alloc _) ⟨W.heap.size, 0, none⟩ 1 1 [.int .u8 y] hx rfl (cell_one_new _ _ _) (by simp [Value.oneCell']) (by unfold maxLen; omega) (by omega) (by simp; omega) ?_
    intro v' w1 hown2 hgrow _ _
    exact h v' w1 hown2 (((Below.refl base W).alloc hb _).grown hgrow (by simp; omega) (own_base' hown)) (Nat.le_trans (Nat.le_trans hb (by simp)) hgrow.size) (World.grownBy.trans (World.grownBy_alloc W _ _) hgrow)
  · refine wpList_append_grows _ hgd s x 68 ho 5 i0 (.int .u8 0) 1 1 Tryz.underlying68 hi0 hz0 hz1 hz2 rfl (by decide) (some ⟨g, 0, none⟩) n n xs hs (fun h => by cases h) (by omega) ?_ ⟨W.heap.size, 0, none⟩ 1 1 [.int .u8 y] hx rfl (cell_one_new _ _ _) (by simp [Value.oneCell']) (by omega) (by unfold maxLen; omega) (by omega) ?_
    · intro b hb j u hj
      cases hb
      rw [addZ]
      have h1 := hc j u hj
      exact ((((Below.refl _ _).alloc (Nat.le_refl _) _ : Below W.heap.size W (W.alloc _)).cell (World.block_lt_of_cell? W _ h1)).trans h1)
    · intro v' w1 hown2 hgrow
      have hB : Below base W w1 := ((Below.refl base W).alloc hb _).grown hgrow (by simp; omega) (fun k hk => by cases hk)
      refine h v' w1 ?_ hB (Nat.le_trans (Nat.le_trans hb (by simp)) hgrow.size) (World.grownBy.trans (World.grownBy_alloc W _ _) ⟨hgrow.os, hgrow.tape, hgrow.output, hgrow.size, fun k hk _ => hgrow.block k hk (by simp)⟩)
      rcases hown2 with ⟨h1, h2⟩
      refine ⟨h1, h2.imp id ?_⟩
      rintro ⟨g', cap, cur, e, hbg, rest⟩
      exact ⟨g', cap, cur, e, by have : W.heap.size ≤ (W.alloc (.cells #[.int .u8 y] 5)).heap.size := by simp
                                 omega, rest⟩
def PutPost (w : World) (base n m : Nat) (xs : List Value) (x : Int) (e : Ending) (w' : World) : Prop := ∃ v', e = .returned v' ∧ w'.ownsRow base 5 1 v' (n + m) (xs ++ beB x m m) ∧ Below base w w' ∧ base ≤ w'.heap.size
set_option maxRecDepth 100000 in
set_option maxHeartbeats 400000 in
theorem super_put (v : Value) (base n m : Nat) (xs : List Value) (x : Int) (w : World) (h0 : 0 < m) (hm : m ≤ 8) (hn : n ≤ 1000) (hown : AppOK w base v n xs) (hb : base ≤ w.heap.size) :
    Calls Tryz.prog 421 #[v, .int .u64 x, .int .i64 m] w (PutPost w base n m xs x) := by
  go_enter Tryz.func421, Tryz.ntmps421
  go_wp2
  go_loopw [0, 7, 9] (fun v i7 i wr => ∃ k : Nat, k ≤ m ∧ i = .int .i64 k ∧ AppOK wr base v (n + k) (xs ++ beB x m k) ∧ (k = m → wr.ownsRow base 5 1 v (n + k) (xs ++ beB x m k)) ∧ Below base w wr ∧ base ≤ wr.heap.size) (fun _ _ i _ => m - (intOf i).toNat)
  case atStart => exact ⟨0, by omega, rfl, by simpa [beB] using hown, (fun h => by omega), Below.refl _ _, hb⟩
  case round =>
    obtain ⟨k, hk, rfl, hown1, hown3, hbl, hbs⟩ := hrel
    by_cases hlt : k < m
    · clear hown3
      go_wp2_with (at_builtin; refine wpList_byte _ rfl _ _ rfl base _ _ _ rfl hown1 (x / 2 ^ (8 * (m - 1 - k)) % 256) rfl (by omega) hbs ?_; intro v' w1 hown2 hB1 hS _)
      have hB : Below base w w1 := hbl.trans hB1
      have hO := hown2
      rw [List.append_assoc, ← beB_succ] at hO
      clear hown2 hown1
      go_wp2
      go_roundw
      case rel => exact ⟨k + 1, by omega, by go_num, .inl hO, (fun _ => hO), hB, hS⟩
      case measure => simp [intOf]; omega
    · obtain rfl : k = m := by omega
      have HO := hown3 rfl
      clear hown3
      go_wp2
      go_ret
      exact ⟨_, rfl, HO, hbl, hbs⟩
end Go.Proofs.YtfdbffopcdpfeaaGreatDoor
