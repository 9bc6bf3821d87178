/- The fixed calls. -/
import Derived.IntWalk
import Derived.Test.YtfdbffopcdpfeaaGreatDoorProg
import Derived.WalkKit
import Derived.WalkSpells
import Derived.WalkLawsBesides
import Derived.Deep.QuietTactic
import Derived.BigQuiet
import Derived.Lib.Hide
import Derived.Deep.RegionHeld3
import Derived.Deep.DrawnRows
import Derived.Deep.AppendLies
import Derived.Deep.RegionLaw
import Derived.Lib.AppendZerosOnto
import Derived.Lib.SlBytesConst
import Derived.Test.YtfdbffopcdpfeaaGreatDoorShelf
import Derived.Test.YtfdbffopcdpfeaaGreatDoorBase
import Derived.Test.YtfdbffopcdpfeaaGreatDoorJour
import Derived.Test.YtfdbffopcdpfeaaGreatDoorWords
import Derived.Test.YtfdbffopcdpfeaaGreatDoorRead
import Derived.Test.YtfdbffopcdpfeaaGreatDoorInts
import Derived.Test.YtfdbffopcdpfeaaGreatDoorLine
import Derived.Test.YtfdbffopcdpfeaaGreatDoorBook
import Derived.Test.YtfdbffopcdpfeaaGreatDoorOks
import Derived.Test.YtfdbffopcdpfeaaGreatDoorReply
import Derived.Test.YtfdbffopcdpfeaaGreatDoorFits
import Derived.Test.YtfdbffopcdpfeaaGreatDoorHear
import Derived.Test.YtfdbffopcdpfeaaGreatDoorHears
set_option linter.unusedVariables false
set_option linter.unusedSimpArgs false
namespace Go.Proofs.YtfdbffopcdpfeaaGreatDoor
open Go.RowKit
attribute [local go_sem ↓] Go.wp_at_zero Go.wp_at_succ

open Go
theorem judge_nil (w : World) : Calls Tryz.prog 8 #[.slice none 0 0] w fun e w' => e = .returned (.int .i64 0) ∧ Below w.heap.size w w' := by
  go_enter Tryz.func8, Tryz.ntmps8
  go_wp2_with (go_at_call 10; refine (audit_New _).mono ?_; rintro e w' ⟨rfl, rfl⟩)
  refine wp_loop_rounds 1 ?_
  rw [rounds_succ]
  go_wp2
  go_ret
  exact ⟨rfl, (Below.refl _ _).alloc (Nat.le_refl _) _⟩
/-- The cells of entries, one behind the other. -/
def entCells (es : List (ByteArray × ByteArray)) : List Value := es.flatMap fun e => [.string e.1, .string e.2]
theorem entCells_get : ∀ (es : List (ByteArray × ByteArray)) (k : Nat) (h : k < es.length), (entCells es)[k * 2]? = some (.string es[k].1) ∧ (entCells es)[k * 2 + 1]? = some (.string es[k].2)
  | e :: es, 0, _ => ⟨rfl, rfl⟩
  | e :: es, k + 1, h => by
    have ih := entCells_get es k (by simpa using h)
    have h1 : (k + 1) * 2 = k * 2 + 1 + 1 := by omega
    have h2 : (k + 1) * 2 + 1 = k * 2 + 1 + 1 + 1 := by omega
    constructor
    · rw [h1]; simpa [entCells] using ih.1
    · rw [h2]; simpa [entCells] using ih.2
theorem judge_at (es : List (ByteArray × ByteArray)) (hlen : (es.length : Int) ≤ 100) (K : Nat) (ns cs : Nat → Int) (hn0 : ns 0 = 0) (hc0 : cs 0 = 0) (hK : K ≤ es.length) (m : Int)
    (htrue : ∀ k (h : k < es.length), k < K → ∀ (W : World) (b : Nat), b ≠ 0 → W.cell? ⟨0, 0, none⟩ = some (.int .i64 m) → BookAt W b false k (ns k) (cs k) → Calls Tryz.prog 6 #[.pointer (some ⟨b, 0, none⟩), .agg #[.string es[k].1, .string es[k].2]] W (Heard b (.tuple #[.bool true, .int .i64 0]) false ((k : Int) + 1) (ns (k + 1)) (cs (k + 1)) W))
    (hfalse : ∀ (h : K < es.length) (W : World) (b : Nat), b ≠ 0 → W.cell? ⟨0, 0, none⟩ = some (.int .i64 m) → BookAt W b false K (ns K) (cs K) → Calls Tryz.prog 6 #[.pointer (some ⟨b, 0, none⟩), .agg #[.string es[K].1, .string es[K].2]] W (fun e w' => e = .returned (.tuple #[.bool false, .int .i64 0]) ∧ Chg (fun k => k = b) W w'))
    (g c : Nat) (w : World) (h0 : w.cell? ⟨0, 0, none⟩ = some (.int .i64 m)) (hb : w.heap[g]? = some (.cells (entCells es).toArray 23 (0, 0))) :
    Calls Tryz.prog 8 #[.slice (some ⟨g, 0, none⟩) es.length c] w fun e w' => e = .returned (.int .i64 K) ∧ Below w.heap.size w w' :=
  judge_gen es hlen K ns cs hn0 hc0 hK m htrue hfalse g c w h0 (blkLt hb) (fun k h => blkCell hb _ (by simpa using (entCells_get es k h).1)) (fun k h => blkCell hb _ (by simpa using (entCells_get es k h).2))
theorem chgOf {b : Nat} {v : Value} {x : Bool} {h n c : Int} {w w' : World} {e : Ending} (H : Heard b v x h n c w e w') : e = .returned v ∧ Chg (fun k => k = b) w w' := ⟨H.1, H.2.2⟩
theorem judge_five (g c : Nat) (w : World) (m : Int) (h0 : w.cell? ⟨0, 0, none⟩ = some (.int .i64 m)) (hb : w.heap[g]? = some (.cells #[.string ⟨#[99, 111, 110, 110, 101, 99, 116]⟩, .string ⟨#[111, 107, 32, 49]⟩, .string ⟨#[116, 105, 99, 107, 32, 53]⟩, .string ⟨#[111, 107]⟩, .string ⟨#[119, 104, 97, 116]⟩, .string ⟨#[98, 97, 100]⟩, .string ⟨#[110, 111, 119]⟩, .string ⟨#[111, 107, 32, 53]⟩, .string ⟨#[114, 117, 110, 32, 49, 32, 55]⟩, .string ⟨#[111, 107, 32, 51, 32, 52, 32, 49, 32, 48, 32, 48, 32, 45]⟩] 23 (0, 0))) :
    Calls Tryz.prog 8 #[.slice (some ⟨g, 0, none⟩) 5 c] w fun e w' => e = .returned (.int .i64 4) ∧ Below w.heap.size w w' := by
  refine judge_at [(⟨#[99, 111, 110, 110, 101, 99, 116]⟩, ⟨#[111, 107, 32, 49]⟩), (⟨#[116, 105, 99, 107, 32, 53]⟩, ⟨#[111, 107]⟩), (⟨#[119, 104, 97, 116]⟩, ⟨#[98, 97, 100]⟩), (⟨#[110, 111, 119]⟩, ⟨#[111, 107, 32, 53]⟩), (⟨#[114, 117, 110, 32, 49, 32, 55]⟩, ⟨#[111, 107, 32, 51, 32, 52, 32, 49, 32, 48, 32, 48, 32, 45]⟩)] (by decide) 4 (fun k => if k < 2 then 0 else 5) (fun k => if k < 1 then 0 else 1) rfl rfl (by decide) m ?_ ?_ g c w h0 hb
  · intro k h hk
    match k, hk with
    | 0, _ => exact fun W b hb0 h0 hb => hear_connect_0 (h := 0) (by decide) h0 hb0 hb
    | 1, _ => exact fun W b hb0 h0 hb => hear_tick (h := 1) (by decide) h0 hb0 hb
    | 2, _ => exact fun W b hb0 h0 hb => hear_what (h := 2) (by decide) h0 hb0 hb
    | 3, _ => exact fun W b hb0 h0 hb => hear_now_5 (h := 3) (by decide) h0 hb0 hb
  · intro h W b hb0 h0 hb
    exact (hear_run (h := 4) (by decide) h0 hb0 hb).mono fun e w' => chgOf
theorem judge_two (g c : Nat) (w : World) (m : Int) (h0 : w.cell? ⟨0, 0, none⟩ = some (.int .i64 m)) (hb : w.heap[g]? = some (.cells #[.string ⟨#[99, 111, 110, 110, 101, 99, 116]⟩, .string ⟨#[111, 107, 32, 49]⟩, .string ⟨#[99, 111, 110, 110, 101, 99, 116]⟩, .string ⟨#[111, 107, 32, 49]⟩] 23 (0, 0))) :
    Calls Tryz.prog 8 #[.slice (some ⟨g, 0, none⟩) 2 c] w fun e w' => e = .returned (.int .i64 1) ∧ Below w.heap.size w w' := by
  refine judge_at [(⟨#[99, 111, 110, 110, 101, 99, 116]⟩, ⟨#[111, 107, 32, 49]⟩), (⟨#[99, 111, 110, 110, 101, 99, 116]⟩, ⟨#[111, 107, 32, 49]⟩)] (by decide) 1 (fun k => 0) (fun k => if k < 1 then 0 else 1) rfl rfl (by decide) m ?_ ?_ g c w h0 hb
  · intro k h hk
    match k, hk with
    | 0, _ => exact fun W b hb0 h0 hb => hear_connect_0 (h := 0) (by decide) h0 hb0 hb
  · intro h W b hb0 h0 hb
    exact (hear_connect_1 (h := 1) (by decide) h0 hb0 hb).mono fun e w' => chgOf
theorem judge_one (g c : Nat) (w : World) (m : Int) (h0 : w.cell? ⟨0, 0, none⟩ = some (.int .i64 m)) (hb : w.heap[g]? = some (.cells #[.string ⟨#[110, 111, 119]⟩, .string ⟨#[111, 107, 32, 53]⟩] 23 (0, 0))) :
    Calls Tryz.prog 8 #[.slice (some ⟨g, 0, none⟩) 1 c] w fun e w' => e = .returned (.int .i64 0) ∧ Below w.heap.size w w' := by
  refine judge_at [(⟨#[110, 111, 119]⟩, ⟨#[111, 107, 32, 53]⟩)] (by decide) 0 (fun k => 0) (fun k => 0) rfl rfl (by decide) m ?_ ?_ g c w h0 hb
  · intro k h hk
    omega
  · intro h W b hb0 h0 hb
    exact (hear_now_0 (h := 0) (by decide) h0 hb0 hb).mono fun e w' => chgOf
set_option maxHeartbeats 1000000 in
theorem alive_any (w : World) (m : Int) (h0 : w.cell? ⟨0, 0, none⟩ = some (.int .i64 m)) : Calls Tryz.prog 5 #[] w fun e w' => e = .returned (.bool true) ∧ Below w.heap.size w w' := by
  have hB0 : Below w.heap.size w ((((((w.alloc (.cells #[.string ⟨#[99, 111, 110, 110, 101, 99, 116]⟩, .string ⟨#[111, 107, 32, 49]⟩] 23)).alloc (.cells #[.string ⟨#[116, 105, 99, 107, 32, 53]⟩, .string ⟨#[111, 107]⟩] 23)).alloc (.cells #[.string ⟨#[110, 111, 119]⟩, .string ⟨#[111, 107, 32, 53]⟩] 23)).alloc (.cells #[.string ⟨#[119, 104, 97, 116]⟩, .string ⟨#[98, 97, 100]⟩] 23)).alloc (.cells #[.string ⟨#[114, 117, 110, 32, 49, 32, 55]⟩, .string ⟨#[111, 107, 32, 51, 32, 52, 32, 49, 32, 48, 32, 48, 32, 45]⟩] 23)).alloc (.cells #[.string ⟨#[99, 111, 110, 110, 101, 99, 116]⟩, .string ⟨#[111, 107, 32, 49]⟩, .string ⟨#[116, 105, 99, 107, 32, 53]⟩, .string ⟨#[111, 107]⟩, .string ⟨#[119, 104, 97, 116]⟩, .string ⟨#[98, 97, 100]⟩, .string ⟨#[110, 111, 119]⟩, .string ⟨#[111, 107, 32, 53]⟩, .string ⟨#[114, 117, 110, 32, 49, 32, 55]⟩, .string ⟨#[111, 107, 32, 51, 32, 52, 32, 49, 32, 48, 32, 48, 32, 45]⟩] 23)) := by (repeat first | assumption | exact Below.refl _ _ | refine Below.drew ?_ | refine Below.alloc ?_ (by first | omega | (simp; done) | (simp; omega) | (simp [*] <;> omega)) _ | refine Below.setCell ?_ (by first | omega | (simp; done) | (simp; omega) | (simp [*] <;> omega)) _)
  have b1 : ((((((w.alloc (.cells #[.string ⟨#[99, 111, 110, 110, 101, 99, 116]⟩, .string ⟨#[111, 107, 32, 49]⟩] 23)).alloc (.cells #[.string ⟨#[116, 105, 99, 107, 32, 53]⟩, .string ⟨#[111, 107]⟩] 23)).alloc (.cells #[.string ⟨#[110, 111, 119]⟩, .string ⟨#[111, 107, 32, 53]⟩] 23)).alloc (.cells #[.string ⟨#[119, 104, 97, 116]⟩, .string ⟨#[98, 97, 100]⟩] 23)).alloc (.cells #[.string ⟨#[114, 117, 110, 32, 49, 32, 55]⟩, .string ⟨#[111, 107, 32, 51, 32, 52, 32, 49, 32, 48, 32, 48, 32, 45]⟩] 23)).alloc (.cells #[.string ⟨#[99, 111, 110, 110, 101, 99, 116]⟩, .string ⟨#[111, 107, 32, 49]⟩, .string ⟨#[116, 105, 99, 107, 32, 53]⟩, .string ⟨#[111, 107]⟩, .string ⟨#[119, 104, 97, 116]⟩, .string ⟨#[98, 97, 100]⟩, .string ⟨#[110, 111, 119]⟩, .string ⟨#[111, 107, 32, 53]⟩, .string ⟨#[114, 117, 110, 32, 49, 32, 55]⟩, .string ⟨#[111, 107, 32, 51, 32, 52, 32, 49, 32, 48, 32, 48, 32, 45]⟩] 23)).heap[w.heap.size]? = some (.cells #[.string ⟨#[99, 111, 110, 110, 101, 99, 116]⟩, .string ⟨#[111, 107, 32, 49]⟩] 23) := blkOld (blkOld (blkOld (blkOld (blkOld (blkNew w _) _) _) _) _) _
  have b3 : ((((((w.alloc (.cells #[.string ⟨#[99, 111, 110, 110, 101, 99, 116]⟩, .string ⟨#[111, 107, 32, 49]⟩] 23)).alloc (.cells #[.string ⟨#[116, 105, 99, 107, 32, 53]⟩, .string ⟨#[111, 107]⟩] 23)).alloc (.cells #[.string ⟨#[110, 111, 119]⟩, .string ⟨#[111, 107, 32, 53]⟩] 23)).alloc (.cells #[.string ⟨#[119, 104, 97, 116]⟩, .string ⟨#[98, 97, 100]⟩] 23)).alloc (.cells #[.string ⟨#[114, 117, 110, 32, 49, 32, 55]⟩, .string ⟨#[111, 107, 32, 51, 32, 52, 32, 49, 32, 48, 32, 48, 32, 45]⟩] 23)).alloc (.cells #[.string ⟨#[99, 111, 110, 110, 101, 99, 116]⟩, .string ⟨#[111, 107, 32, 49]⟩, .string ⟨#[116, 105, 99, 107, 32, 53]⟩, .string ⟨#[111, 107]⟩, .string ⟨#[119, 104, 97, 116]⟩, .string ⟨#[98, 97, 100]⟩, .string ⟨#[110, 111, 119]⟩, .string ⟨#[111, 107, 32, 53]⟩, .string ⟨#[114, 117, 110, 32, 49, 32, 55]⟩, .string ⟨#[111, 107, 32, 51, 32, 52, 32, 49, 32, 48, 32, 48, 32, 45]⟩] 23)).heap[w.heap.size + 1 + 1]? = some (.cells #[.string ⟨#[110, 111, 119]⟩, .string ⟨#[111, 107, 32, 53]⟩] 23) := by
    refine blkOld (blkOld (blkOld ?_ _) _) _
    have h7 := blkNew ((w.alloc (.cells #[.string ⟨#[99, 111, 110, 110, 101, 99, 116]⟩, .string ⟨#[111, 107, 32, 49]⟩] 23)).alloc (.cells #[.string ⟨#[116, 105, 99, 107, 32, 53]⟩, .string ⟨#[111, 107]⟩] 23)) (.cells #[.string ⟨#[110, 111, 119]⟩, .string ⟨#[111, 107, 32, 53]⟩] 23)
    simpa only [sizeAlloc] using h7
  have b6 : ((((((w.alloc (.cells #[.string ⟨#[99, 111, 110, 110, 101, 99, 116]⟩, .string ⟨#[111, 107, 32, 49]⟩] 23)).alloc (.cells #[.string ⟨#[116, 105, 99, 107, 32, 53]⟩, .string ⟨#[111, 107]⟩] 23)).alloc (.cells #[.string ⟨#[110, 111, 119]⟩, .string ⟨#[111, 107, 32, 53]⟩] 23)).alloc (.cells #[.string ⟨#[119, 104, 97, 116]⟩, .string ⟨#[98, 97, 100]⟩] 23)).alloc (.cells #[.string ⟨#[114, 117, 110, 32, 49, 32, 55]⟩, .string ⟨#[111, 107, 32, 51, 32, 52, 32, 49, 32, 48, 32, 48, 32, 45]⟩] 23)).alloc (.cells #[.string ⟨#[99, 111, 110, 110, 101, 99, 116]⟩, .string ⟨#[111, 107, 32, 49]⟩, .string ⟨#[116, 105, 99, 107, 32, 53]⟩, .string ⟨#[111, 107]⟩, .string ⟨#[119, 104, 97, 116]⟩, .string ⟨#[98, 97, 100]⟩, .string ⟨#[110, 111, 119]⟩, .string ⟨#[111, 107, 32, 53]⟩, .string ⟨#[114, 117, 110, 32, 49, 32, 55]⟩, .string ⟨#[111, 107, 32, 51, 32, 52, 32, 49, 32, 48, 32, 48, 32, 45]⟩] 23)).heap[w.heap.size + 1 + 1 + 1 + 1 + 1]? = some (.cells #[.string ⟨#[99, 111, 110, 110, 101, 99, 116]⟩, .string ⟨#[111, 107, 32, 49]⟩, .string ⟨#[116, 105, 99, 107, 32, 53]⟩, .string ⟨#[111, 107]⟩, .string ⟨#[119, 104, 97, 116]⟩, .string ⟨#[98, 97, 100]⟩, .string ⟨#[110, 111, 119]⟩, .string ⟨#[111, 107, 32, 53]⟩, .string ⟨#[114, 117, 110, 32, 49, 32, 55]⟩, .string ⟨#[111, 107, 32, 51, 32, 52, 32, 49, 32, 48, 32, 48, 32, 45]⟩] 23) := by
    have h7 := blkNew (((((w.alloc (.cells #[.string ⟨#[99, 111, 110, 110, 101, 99, 116]⟩, .string ⟨#[111, 107, 32, 49]⟩] 23)).alloc (.cells #[.string ⟨#[116, 105, 99, 107, 32, 53]⟩, .string ⟨#[111, 107]⟩] 23)).alloc (.cells #[.string ⟨#[110, 111, 119]⟩, .string ⟨#[111, 107, 32, 53]⟩] 23)).alloc (.cells #[.string ⟨#[119, 104, 97, 116]⟩, .string ⟨#[98, 97, 100]⟩] 23)).alloc (.cells #[.string ⟨#[114, 117, 110, 32, 49, 32, 55]⟩, .string ⟨#[111, 107, 32, 51, 32, 52, 32, 49, 32, 48, 32, 48, 32, 45]⟩] 23)) (.cells #[.string ⟨#[99, 111, 110, 110, 101, 99, 116]⟩, .string ⟨#[111, 107, 32, 49]⟩, .string ⟨#[116, 105, 99, 107, 32, 53]⟩, .string ⟨#[111, 107]⟩, .string ⟨#[119, 104, 97, 116]⟩, .string ⟨#[98, 97, 100]⟩, .string ⟨#[110, 111, 119]⟩, .string ⟨#[111, 107, 32, 53]⟩, .string ⟨#[114, 117, 110, 32, 49, 32, 55]⟩, .string ⟨#[111, 107, 32, 51, 32, 52, 32, 49, 32, 48, 32, 48, 32, 45]⟩] 23)
    simpa only [sizeAlloc] using h7
  have hJ := judge_five (w.heap.size + 1 + 1 + 1 + 1 + 1) 5 _ m (cellBelow h0 hB0) b6
  go_enter Tryz.func5, Tryz.ntmps5
  go_wp2_with fail
  refine hJ.mono ?_
  rintro e w1 ⟨rfl, hB1⟩
  clear hJ
  have c1 := blkBelow b1 hB1 (blkLt b1)
  have c3 := blkBelow b3 hB1 (blkLt b3)
  have hB01 := hB0.trans (hB1.mono hB0.size)
  clear b1 b3 b6 hB0 hB1
  have x0 := blkCell c1 0 (v := .string ⟨#[99, 111, 110, 110, 101, 99, 116]⟩) rfl
  have x1 := blkCell c1 1 (v := .string ⟨#[111, 107, 32, 49]⟩) rfl
  have hBa : Below w1.heap.size w1 (w1.alloc (.cells #[.string ⟨#[99, 111, 110, 110, 101, 99, 116]⟩, .string ⟨#[111, 107, 32, 49]⟩, .string ⟨#[99, 111, 110, 110, 101, 99, 116]⟩, .string ⟨#[111, 107, 32, 49]⟩] 23)) := (Below.refl _ _).alloc (Nat.le_refl _) _
  have hJ := judge_two w1.heap.size 2 _ m (cellBelow (cellBelow h0 hB01) hBa) (blkNew w1 (.cells #[.string ⟨#[99, 111, 110, 110, 101, 99, 116]⟩, .string ⟨#[111, 107, 32, 49]⟩, .string ⟨#[99, 111, 110, 110, 101, 99, 116]⟩, .string ⟨#[111, 107, 32, 49]⟩] 23))
  go_wp2_with fail
  refine hJ.mono ?_
  rintro e w2 ⟨rfl, hB2⟩
  have hB12 : Below w1.heap.size w1 w2 := hBa.trans (hB2.mono hBa.size)
  have d3 := blkBelow c3 hB12 (blkLt c3)
  have hB02 := hB01.trans (hB12.mono hB01.size)
  clear hJ c1 c3 x0 x1 hBa hB2 hB12 hB01
  have x0 := blkCell d3 0 (v := .string ⟨#[110, 111, 119]⟩) rfl
  have x1 := blkCell d3 1 (v := .string ⟨#[111, 107, 32, 53]⟩) rfl
  have hBa : Below w2.heap.size w2 (w2.alloc (.cells #[.string ⟨#[110, 111, 119]⟩, .string ⟨#[111, 107, 32, 53]⟩] 23)) := (Below.refl _ _).alloc (Nat.le_refl _) _
  have hJ := judge_one w2.heap.size 1 _ m (cellBelow (cellBelow h0 hB02) hBa) (blkNew w2 (.cells #[.string ⟨#[110, 111, 119]⟩, .string ⟨#[111, 107, 32, 53]⟩] 23))
  go_wp2_with fail
  refine hJ.mono ?_
  rintro e w3 ⟨rfl, hB3⟩
  have hB23 : Below w2.heap.size w2 w3 := hBa.trans (hB3.mono hBa.size)
  have hB03 := hB02.trans (hB23.mono hB02.size)
  clear hJ x0 x1 d3 hBa hB3 hB23 hB02
  go_wp2_with fail
  refine (judge_nil w3).mono ?_
  rintro e w4 ⟨rfl, hB4⟩
  go_wp2_with fail
  go_ret
  exact ⟨rfl, hB03.trans (hB4.mono hB03.size)⟩
def SomeB (w : World) (e : Ending) (w' : World) : Prop := ∃ r : Bool, e = .returned (.bool r) ∧ w = w'
set_option maxHeartbeats 1000000 in
theorem great_one (g : Nat) (s t : ByteArray) (w : World) (hs0 : w.cell? ⟨g, 0, none⟩ = some (.string s)) (hs1 : w.cell? ⟨g, 1, none⟩ = some (.string t)) (hs : s.size ≤ 9223372036854775807) (ht : t.size ≤ 9223372036854775807) :
    Calls Tryz.prog 4 #[.slice (some ⟨g, 0, none⟩) 1 1] w (SomeB w) := by
  by_cases h3 : 4200 < s.size
  · have k1 : (1000 : Int) < s.size := by omega
    have k2 : ¬ ((s.size : Int) ≤ 4096) := by omega
    have k3 : (4200 : Int) < s.size := by omega
    go_enter Tryz.func4, Tryz.ntmps4
    go_wp2
    refine wp_loop_rounds 2 ?_
    rw [rounds_succ]
    go_wp2
    go_ret
    exact ⟨true, rfl, rfl⟩
  · have k3 : ¬ ((4200 : Int) < s.size) := by omega
    by_cases h1 : 1000 < s.size ∧ s.size ≤ 4096
    · have k1 : (1000 : Int) < s.size := by omega
      have k2 : ((s.size : Int) ≤ 4096) := by omega
      go_enter Tryz.func4, Tryz.ntmps4
      go_wp2
      refine wp_loop_rounds 2 ?_
      rw [rounds_succ]
      go_wp2
      go_ret
      exact ⟨true, rfl, rfl⟩
    · have k6 : ¬ ((12000 : Int) < s.size) := by omega
      have k7 : (0 : Int) ≤ s.size := by omega
      have k8 : (s.size : Int) ≤ 4200 := by omega
      have kw : IntKind.i64.wrap (0 + (s.size : Int)) = (s.size : Int) := by rw [Int.zero_add]; exact IntWalk.i64_in _ (by omega)
      by_cases h4 : 3000 < t.size
      · have k4 : (3000 : Int) < t.size := by omega
        by_cases h5 : 1000 < s.size
        · have k1 : (1000 : Int) < s.size := by omega
          have k2 : ¬ ((s.size : Int) ≤ 4096) := by omega
          go_enter Tryz.func4, Tryz.ntmps4
          go_wp2
          refine wp_loop_rounds 2 ?_
          rw [rounds_succ]
          go_wp2
          go_ret
          exact ⟨true, rfl, rfl⟩
        · have k1 : ¬ ((1000 : Int) < s.size) := by omega
          go_enter Tryz.func4, Tryz.ntmps4
          go_wp2
          refine wp_loop_rounds 2 ?_
          rw [rounds_succ]
          go_wp2
          go_ret
          exact ⟨true, rfl, rfl⟩
      · have k4 : ¬ ((3000 : Int) < t.size) := by omega
        by_cases h5 : 1000 < s.size
        · have k1 : (1000 : Int) < s.size := by omega
          have k2 : ¬ ((s.size : Int) ≤ 4096) := by omega
          go_enter Tryz.func4, Tryz.ntmps4
          go_wp2
          refine wp_loop_rounds 2 ?_
          rw [rounds_succ]
          go_wp2
          rw [rounds_succ]
          go_wp2
          go_ret
          exact ⟨_, rfl, rfl⟩
        · have k1 : ¬ ((1000 : Int) < s.size) := by omega
          go_enter Tryz.func4, Tryz.ntmps4
          go_wp2
          refine wp_loop_rounds 2 ?_
          rw [rounds_succ]
          go_wp2
          rw [rounds_succ]
          go_wp2
          go_ret
          exact ⟨_, rfl, rfl⟩
end Go.Proofs.YtfdbffopcdpfeaaGreatDoor
