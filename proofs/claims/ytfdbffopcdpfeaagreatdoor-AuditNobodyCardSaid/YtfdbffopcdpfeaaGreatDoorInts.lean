/- How the judge reads words that are numbers. -/
import Derived.LoopTactic
import Derived.Maps.AppendAt
import Derived.Test.YtfdbffopcdpfeaaGreatDoorProg
import Derived.WalkKit
import Derived.WalkSpells
import Derived.WalkLawsBesides
import Derived.Deep.QuietTactic
import Derived.BigQuiet
import Derived.Lib.Hide
import Derived.Deep.RegionHeld3
import Derived.Deep.DrawnRows
import Derived.Deep.AppendLies
import Derived.Deep.RegionLaw
import Derived.Lib.AppendZerosOnto
import Derived.Lib.SlBytesConst
import Derived.Test.YtfdbffopcdpfeaaGreatDoorShelf
import Derived.Test.YtfdbffopcdpfeaaGreatDoorBase
import Derived.Test.YtfdbffopcdpfeaaGreatDoorWords
import Derived.Test.YtfdbffopcdpfeaaGreatDoorRead
set_option linter.unusedVariables false
set_option linter.unusedSimpArgs false
namespace Go.Proofs.YtfdbffopcdpfeaaGreatDoor
open Go.RowKit
attribute [local go_sem ↓] Go.wp_at_zero Go.wp_at_succ

open Go
/-- A number as a word. -/
def ds (n : Nat) : ByteArray := ⟨(Lib.decDigits n).toArray⟩
def iv (l : List Nat) : List Value := l.map fun n : Nat => .int .i64 (n : Int)
theorem iv_length (l : List Nat) : (iv l).length = l.length := by simp [iv]
theorem iv_snoc (l : List Nat) (k : Nat) (h : k < l.length) : iv (l.take k) ++ [.int .i64 ((l[k] : Nat) : Int)] = iv (l.take (k + 1)) := by
  unfold iv
  rw [List.take_succ_eq_append_getElem h, List.map_append]; rfl
theorem int_info : (Tryz.prog.info? 3).map (fun i => (i.zero, i.size, i.bytes)) = some (some (.int .i64 0), 1, 8) := by kernel_rfl
theorem itoa_ds (n : Nat) (hn : n < 100) (w : World) : Calls Tryz.prog 23 #[.int .i64 n] w fun e w' => e = .returned (.string (ds n)) ∧ w = w' := itoa_lit n hn _ rfl w
theorem atoi_ds (n : Nat) (h : (ds n).size ≤ 18) (ha : Lib.atoi (Lib.decDigits n) = some (n : Int)) (w : World) : Calls Tryz.prog 22 #[.string (ds n)] w fun e w' => e = .returned (.tuple #[.int .i64 n, .nilIface]) ∧ Below w.heap.size w w' := by
  refine (Tryz.strconv_Atoi (ds n) n h (by simpa [ds] using ha) w).mono ?_
  rintro e w' ⟨he, t, hw⟩
  exact ⟨he, hw ▸ Lib.bytesWorld_below _ _ _⟩
theorem ownBelow {w w' : World} {b : Nat} {e : TypeId} {size : Nat} {v : Value} {n : Nat} {xs : List Value} (h : w.ownsRow b e size v n xs) (hb : Below w.heap.size w w') : w'.ownsRow b e size v n xs := by
  obtain ⟨h1, h2⟩ := h
  refine ⟨h1, h2.imp id ?_⟩
  rintro ⟨g, cap, cur, h3, h4, h5, h6⟩
  exact ⟨g, cap, cur, h3, h4, blkBelow h5 hb (blkLt h5), h6⟩
theorem ownLt {w : World} {b : Nat} {e : TypeId} {size : Nat} {v : Value} {n : Nat} {xs : List Value} (h : w.ownsRow b e size v n xs) : ∀ k, v.ownBlock = some k → b ≤ k := by
  obtain ⟨_, ⟨rfl, _⟩ | ⟨g, cap, cur, rfl, h4, _⟩⟩ := h
  · intro k hk; cases hk
  · intro k hk; cases hk; exact h4
/-- Numbers that a word's reading gives back. -/
def Fine (l : List Nat) : Prop := ∀ n ∈ l, n < 100 ∧ (ds n).size ≤ 18 ∧ Lib.atoi (Lib.decDigits n) = some (n : Int)
def IntsOK (l : List Nat) (w : World) (e : Ending) (w' : World) : Prop := ∃ v, e = .returned (.tuple #[v, .bool true]) ∧ w'.ownsRow w.heap.size 3 1 v l.length (iv l) ∧ Below w.heap.size w w'
set_option maxHeartbeats 1000000 in
set_option maxRecDepth 100000 in
theorem ints_any (g o c : Nat) (l : List Nat) (hl : (l.length : Int) ≤ 1000) (hf : Fine l) (w : World) (hg : g < w.heap.size) (hc : ∀ j (h : j < l.length), w.cell? ⟨g, o + j, none⟩ = some (.string (ds l[j]))) :
    Calls Tryz.prog 19 #[.slice (some ⟨g, o, none⟩) l.length c] w (IntsOK l w) := by
  obtain ⟨i0, hi0, hz0, hz1, hz2⟩ := info_parts int_info
  have HC := Lib.hid hc
  have HF := Lib.hid hf
  clear hc hf
  go_enter Tryz.func19, Tryz.ntmps19
  go_wp2
  go_loopw [4, 11] (fun v i wr => ∃ k : Nat, k ≤ l.length ∧ i = .int .i64 k ∧ wr.ownsRow w.heap.size 3 1 v k (iv (l.take k)) ∧ Below w.heap.size w wr) (fun _ i _ => l.length - (intOf i).toNat)
  case atStart => exact ⟨0, Nat.zero_le _, rfl, (by simpa [iv] using World.ownsRow_nil _ _ _ _), Below.refl _ _⟩
  case round =>
    obtain ⟨k, hk, rfl, hown, hB⟩ := hrel
    by_cases hlt : k < l.length
    · have hcell : wr.cell? ⟨g, o + k, none⟩ = some (.string (ds l[k])) := (hB.cell (p := ⟨g, o + k, none⟩) hg).trans (HC.out k hlt)
      obtain ⟨hn, hs, ha⟩ := HF.out l[k] (List.getElem_mem hlt)
      have hnn : (0 : Int) ≤ (l[k] : Nat) := by omega
      have HD : Hid (iv (l.take k) ++ [.int .i64 ((l[k] : Nat) : Int)] = iv (l.take (k + 1))) := Lib.hid (iv_snoc l k hlt)
      have hsi : ((ds l[k]).size : Int) ≤ 18 := by omega
      have hbs := hB.size
      generalize l[k] = n at *
      go_wp2_with (first | (go_at_call 22; refine (atoi_ds n hs ha _).mono ?_; rintro e w1 ⟨rfl, hB1⟩) | (go_at_call 23; refine (itoa_ds n hn _).mono ?_; rintro e w' ⟨rfl, rfl⟩) | (at_builtin; go_loud (refine wpList_append_own_at _ rfl (.tmp 37) (.tmp 39) 48 rfl w.heap.size 3 i0 (.int .i64 0) 1 8 Tryz.underlying48 hi0 hz0 hz1 hz2 rfl (by decide) _ k (iv (l.take k)) rfl ((ownBelow hown hB1).alloc _) ⟨w1.heap.size, 0, none⟩ 1 1 [.int .i64 n] rfl rfl (cell_one_new _ _ _) (by simp [Value.oneCell']) (by unfold maxLen; omega) (by omega) (by have := hB1.size; simp; omega) ?_); intro v' w2 hown2 hgrow _ _))
      refine ⟨⟨k + 1, by omega, by go_num, ?_, ?_⟩, by simp [intOf]; omega⟩
      · rw [← HD.out]; exact hown2
      · have hB2 : Below w.heap.size w w1 := hB.trans (hB1.mono hB.size)
        exact (hB2.alloc hB2.size _).grown hgrow (by have := hB2.size; simp; omega) (ownLt hown)
    · obtain rfl : k = l.length := by omega
      go_wp2
      go_ret2
      exact ⟨_, rfl, by simpa using hown, hB⟩
/-- One number, small enough. -/
theorem one_any (g o c n : Nat) (most : Int) (hf : Fine [n]) (hm : (n : Int) ≤ most) (w : World) (hc : w.cell? ⟨g, o, none⟩ = some (.string (ds n))) :
    Calls Tryz.prog 13 #[.slice (some ⟨g, o, none⟩) 1 c, .int .i64 most] w fun e w' => e = .returned (.bool true) ∧ Below w.heap.size w w' := by
  have hi := ints_any g o c [n] (by simp) hf w (World.block_lt_of_cell? w _ hc) (by intro j hj; obtain rfl : j = 0 := (by simp at hj; omega); simpa using hc)
  go_enter Tryz.func13, Tryz.ntmps13
  go_wp2_with fail
  refine hi.mono ?_
  rintro e w1 ⟨v, rfl, hown, hB⟩
  obtain ⟨g', cap, cur, rfl, hgs, hge, _⟩ := ownN (by simp [iv]) hown
  have hcell := hgs 0 (.int .i64 n) rfl
  clear hown hgs
  simp only [List.length_cons, List.length_nil]
  go_wp2
  go_ret
  exact ⟨rfl, hB⟩
end Go.Proofs.YtfdbffopcdpfeaaGreatDoor
