/- What the judge hears of the fixed entries. -/
import Derived.Test.YtfdbffopcdpfeaaGreatDoorProg
import Derived.WalkKit
import Derived.WalkSpells
import Derived.WalkLawsBesides
import Derived.Deep.QuietTactic
import Derived.BigQuiet
import Derived.Lib.Hide
import Derived.Deep.RegionHeld3
import Derived.Deep.DrawnRows
import Derived.Deep.AppendLies
import Derived.Deep.RegionLaw
import Derived.Lib.AppendZerosOnto
import Derived.Lib.SlBytesConst
import Derived.Test.YtfdbffopcdpfeaaGreatDoorShelf
import Derived.Test.YtfdbffopcdpfeaaGreatDoorBase
import Derived.Test.YtfdbffopcdpfeaaGreatDoorJour
import Derived.Test.YtfdbffopcdpfeaaGreatDoorWords
import Derived.Test.YtfdbffopcdpfeaaGreatDoorRead
import Derived.Test.YtfdbffopcdpfeaaGreatDoorInts
import Derived.Test.YtfdbffopcdpfeaaGreatDoorLine
import Derived.Test.YtfdbffopcdpfeaaGreatDoorBook
import Derived.Test.YtfdbffopcdpfeaaGreatDoorOks
import Derived.Test.YtfdbffopcdpfeaaGreatDoorReply
set_option linter.unusedVariables false
set_option linter.unusedSimpArgs false
namespace Go.Proofs.YtfdbffopcdpfeaaGreatDoor
open Go.RowKit
attribute [local go_sem ↓] Go.wp_at_zero Go.wp_at_succ

open Go
set_option maxRecDepth 100000 in
theorem ok_run {w : World} {b g gl cl : Nat} (h n k : Int) (hb : BookAt w b false h n k) (hr : RepWords w g) (hl : w.cell? ⟨gl, 0, none⟩ = some (.string ⟨#[114, 117, 110]⟩)) :
    Calls Tryz.prog 15 #[.pointer (some ⟨b, 0, none⟩), .slice (some ⟨gl, 0, none⟩) 3 cl, .slice (some ⟨g, 1, none⟩) 6 6] w (Heard b (.bool false) false h n k w) := by
  go_enter Tryz.func15, Tryz.ntmps15
  go_wp2_with fail
  refine (reply_no hr).mono ?_
  rintro e w1 ⟨rfl, hB⟩
  go_wp2_with fail
  go_ret
  exact ⟨rfl, blkBelow hb hB (blkLt hb), Chg.ofBelow hB⟩
/-- The words of a line, as Split lays them. -/
def wordsObj (l : List ByteArray) : Obj := .cells (l.map Value.string).toArray 9 (0, 0)
theorem wordsCell {w : World} {g : Nat} {l : List ByteArray} (h : w.heap[g]? = some (wordsObj l)) (j : Nat) {s : ByteArray} (hs : l[j]? = some s) : w.cell? ⟨g, j, none⟩ = some (.string s) :=
  blkCell h j (by simp [hs])
set_option maxRecDepth 100000 in
set_option maxHeartbeats 1000000 in
theorem fits_ok {line told : ByteArray} (ls ts : List ByteArray) (a1 : Lib.countB line sSp + 1 = ls.length) (a2 : Lib.splitB sSp 0 (Lib.countB line sSp) line = ls) (a3 : line.size < 4294967281)
    (b1 : Lib.countB told sSp + 1 = ts.length) (b2 : Lib.splitB sSp 0 (Lib.countB told sSp) told = ts) (b3 : told.size < 4294967281) (hok : ts[0]? = some ⟨#[111, 107]⟩) (h2 : 2 ≤ ts.length)
    {w : World} {b : Nat} {m : Int} {h n c : Int} {r : Bool} {n' c' : Int} (h0 : w.cell? ⟨0, 0, none⟩ = some (.int .i64 m)) (hb : BookAt w b false h n c)
    (his : ∀ w : World, w.cell? ⟨0, 0, none⟩ = some (.int .i64 m) → Calls Tryz.prog 11 #[.string line] w (IsOK true w))
    (hcall : ∀ (W : World) (gl gt : Nat), BookAt W b false h n c → gt ≠ b → W.heap[gl]? = some (wordsObj ls) → W.heap[gt]? = some (wordsObj ts) → Calls Tryz.prog 15 #[.pointer (some ⟨b, 0, none⟩), .slice (some ⟨gl, 0, none⟩) ls.length ls.length, .slice (some ⟨gt, 1, none⟩) (ts.length - 1) (ts.length - 1)] W (Heard b (.bool r) false h n' c' W)) :
    Calls Tryz.prog 9 #[.pointer (some ⟨b, 0, none⟩), .agg #[.string line, .string told]] w (Heard b (.bool r) false h n' c' w) := by
  have hB0 : Below w.heap.size w (w.alloc (.cells #[.string line, .string told] 23)) := (Below.refl _ _).alloc (Nat.le_refl _) _
  have bx := blkNew w (.cells #[.string line, .string told] 23)
  have h0a := cellBelow h0 hB0
  have hi := his _ h0a
  go_enter Tryz.func9, Tryz.ntmps9
  go_wp2_with fail
  refine hi.mono ?_
  rintro e w1 ⟨rfl, hB1⟩
  have bx1 := blkBelow bx hB1 (by simp)
  have hB01 : Below w.heap.size w w1 := hB0.trans (hB1.mono (by simp))
  have h01 := cellBelow h0a hB1
  have hb1 : BookAt w1 b false h n c := blkBelow hb hB01 (blkLt hb)
  have c0 := blkCell bx1 0 (v := .string line) rfl
  have c1 := blkCell bx1 1 (v := .string told) rfl
  clear hB0 bx h0a hi hB1
  have hs1 := hB01.size
  have hs2 := blkLt bx1
  have hw0 := World.block_lt_of_cell? w1 _ h01
  have hsl := split_lit line ls a1 a2 a3 w1.drew m h01
  have h02 : (w1.drew.alloc (wordsObj ls)).cell? ⟨0, 0, none⟩ = some (.int .i64 m) := cellBelow (w := w1) h01 (((Below.refl _ w1).drew).alloc (Nat.le_refl _) _)
  have hst := split_lit told ts b1 b2 b3 (w1.drew.alloc (wordsObj ls)) m h02
  go_wp2_with fail
  go_region_held3 (fun X : World => X.cell? ⟨w.heap.size, 0, none⟩ = some (.string line) ∧ X.cell? ⟨w.heap.size, 1, none⟩ = some (.string told)) (go_keep) (first | (go_at_call 12; refine hsl.mono ?_; rintro e w' ⟨rfl, rfl⟩) | (go_at_call 12; refine hst.mono ?_; rintro e w' ⟨rfl, rfl⟩))
  have bl : ((w1.alloc (wordsObj ls)).alloc (wordsObj ts)).drew.heap[w1.heap.size]? = some (wordsObj ls) := blkOld (blkNew w1 _) _
  have bt : ((w1.alloc (wordsObj ls)).alloc (wordsObj ts)).drew.heap[w1.heap.size + 1]? = some (wordsObj ts) := by have h7 := blkNew (w1.alloc (wordsObj ls)) (wordsObj ts); rw [sizeAlloc] at h7; exact h7
  have hb2 : BookAt ((w1.alloc (wordsObj ls)).alloc (wordsObj ts)).drew b false h n c := blkOld (blkOld hb1 _) _
  have hB2 : Below w.heap.size w ((w1.alloc (wordsObj ls)).alloc (wordsObj ts)).drew := ((hB01.alloc hB01.size _).alloc (by simp; omega) _).drew
  have hbl := blkLt hb1
  have hne : w1.heap.size + 1 ≠ b := by omega
  generalize hW : ((w1.alloc (wordsObj ls)).alloc (.cells (List.map Value.string ts).toArray 9)).drew = W
  have hW' : ((w1.alloc (wordsObj ls)).alloc (wordsObj ts)).drew = W := hW
  rw [hW'] at bl bt hb2 hB2
  clear hW hW' c0 c1 h01 h02 hst hsl bx1 hb1 hB01 hb
  have hH := hcall W w1.heap.size (w1.heap.size + 1) hb2 hne bl bt
  have t0 := wordsCell bt 0 hok
  clear hcall
  generalize w1.heap.size = gl at *
  generalize ts.length = nt at *
  have k1 : (1 : Int) ≤ nt := by omega
  have k2 : ¬ ((nt : Int) = 1) := by omega
  have k3 : ¬ (nt = 1) := by omega
  have k5 : 0 < nt := by omega
  have k6 : 1 ≤ nt := by omega
  go_wp2_with fail
  refine hH.mono ?_
  rintro e w2 ⟨rfl, hb3, hC⟩
  go_wp2_with fail
  go_ret
  exact ⟨rfl, hb3, (Chg.ofBelow hB2).trans hC⟩
set_option maxRecDepth 100000 in
set_option maxHeartbeats 1000000 in
theorem fits_ok1 {line told : ByteArray} (ls ts : List ByteArray) (a1 : Lib.countB line sSp + 1 = ls.length) (a2 : Lib.splitB sSp 0 (Lib.countB line sSp) line = ls) (a3 : line.size < 4294967281)
    (b1 : Lib.countB told sSp + 1 = ts.length) (b2 : Lib.splitB sSp 0 (Lib.countB told sSp) told = ts) (b3 : told.size < 4294967281) (hok : ts[0]? = some ⟨#[111, 107]⟩) (h2 : ts.length = 1)
    {w : World} {b : Nat} {m : Int} {h n c : Int} {r : Bool} {n' c' : Int} (h0 : w.cell? ⟨0, 0, none⟩ = some (.int .i64 m)) (hb : BookAt w b false h n c)
    (his : ∀ w : World, w.cell? ⟨0, 0, none⟩ = some (.int .i64 m) → Calls Tryz.prog 11 #[.string line] w (IsOK true w))
    (hcall : ∀ (W : World) (gl gt : Nat), BookAt W b false h n c → gt ≠ b → W.heap[gl]? = some (wordsObj ls) → W.heap[gt]? = some (wordsObj ts) → Calls Tryz.prog 15 #[.pointer (some ⟨b, 0, none⟩), .slice (some ⟨gl, 0, none⟩) ls.length ls.length, .slice (some ⟨gt, 0, none⟩) 0 0] W (Heard b (.bool r) false h n' c' W)) :
    Calls Tryz.prog 9 #[.pointer (some ⟨b, 0, none⟩), .agg #[.string line, .string told]] w (Heard b (.bool r) false h n' c' w) := by
  have hB0 : Below w.heap.size w (w.alloc (.cells #[.string line, .string told] 23)) := (Below.refl _ _).alloc (Nat.le_refl _) _
  have bx := blkNew w (.cells #[.string line, .string told] 23)
  have h0a := cellBelow h0 hB0
  have hi := his _ h0a
  go_enter Tryz.func9, Tryz.ntmps9
  go_wp2_with fail
  refine hi.mono ?_
  rintro e w1 ⟨rfl, hB1⟩
  have bx1 := blkBelow bx hB1 (by simp)
  have hB01 : Below w.heap.size w w1 := hB0.trans (hB1.mono (by simp))
  have h01 := cellBelow h0a hB1
  have hb1 : BookAt w1 b false h n c := blkBelow hb hB01 (blkLt hb)
  have c0 := blkCell bx1 0 (v := .string line) rfl
  have c1 := blkCell bx1 1 (v := .string told) rfl
  clear hB0 bx h0a hi hB1
  have hs1 := hB01.size
  have hs2 := blkLt bx1
  have hw0 := World.block_lt_of_cell? w1 _ h01
  have hsl := split_lit line ls a1 a2 a3 w1.drew m h01
  have h02 : (w1.drew.alloc (wordsObj ls)).cell? ⟨0, 0, none⟩ = some (.int .i64 m) := cellBelow (w := w1) h01 (((Below.refl _ w1).drew).alloc (Nat.le_refl _) _)
  have hst := split_lit told ts b1 b2 b3 (w1.drew.alloc (wordsObj ls)) m h02
  go_wp2_with fail
  go_region_held3 (fun X : World => X.cell? ⟨w.heap.size, 0, none⟩ = some (.string line) ∧ X.cell? ⟨w.heap.size, 1, none⟩ = some (.string told)) (go_keep) (first | (go_at_call 12; refine hsl.mono ?_; rintro e w' ⟨rfl, rfl⟩) | (go_at_call 12; refine hst.mono ?_; rintro e w' ⟨rfl, rfl⟩))
  have bl : ((w1.alloc (wordsObj ls)).alloc (wordsObj ts)).drew.heap[w1.heap.size]? = some (wordsObj ls) := blkOld (blkNew w1 _) _
  have bt : ((w1.alloc (wordsObj ls)).alloc (wordsObj ts)).drew.heap[w1.heap.size + 1]? = some (wordsObj ts) := by have h7 := blkNew (w1.alloc (wordsObj ls)) (wordsObj ts); rw [sizeAlloc] at h7; exact h7
  have hb2 : BookAt ((w1.alloc (wordsObj ls)).alloc (wordsObj ts)).drew b false h n c := blkOld (blkOld hb1 _) _
  have hB2 : Below w.heap.size w ((w1.alloc (wordsObj ls)).alloc (wordsObj ts)).drew := ((hB01.alloc hB01.size _).alloc (by simp; omega) _).drew
  have hbl := blkLt hb1
  have hne : w1.heap.size + 1 ≠ b := by omega
  generalize hW : ((w1.alloc (wordsObj ls)).alloc (.cells (List.map Value.string ts).toArray 9)).drew = W
  have hW' : ((w1.alloc (wordsObj ls)).alloc (wordsObj ts)).drew = W := hW
  rw [hW'] at bl bt hb2 hB2
  clear hW hW' c0 c1 h01 h02 hst hsl bx1 hb1 hB01 hb
  have hH := hcall W w1.heap.size (w1.heap.size + 1) hb2 hne bl bt
  have t0 := wordsCell bt 0 hok
  clear hcall
  generalize w1.heap.size = gl at *
  rw [h2] at *
  clear h2 b1
  go_wp2_with fail
  refine hH.mono ?_
  rintro e w2 ⟨rfl, hb3, hC⟩
  go_wp2_with fail
  go_ret
  exact ⟨rfl, hb3, (Chg.ofBelow hB2).trans hC⟩
theorem fits_what {w : World} {b : Nat} {m : Int} {h n c : Int} (h0 : w.cell? ⟨0, 0, none⟩ = some (.int .i64 m)) (hb : BookAt w b false h n c) :
    Calls Tryz.prog 9 #[.pointer (some ⟨b, 0, none⟩), .agg #[.string ⟨#[119, 104, 97, 116]⟩, .string ⟨#[98, 97, 100]⟩]] w (Heard b (.bool true) false h n c w) := by
  have hB0 : Below w.heap.size w (w.alloc (.cells #[.string ⟨#[119, 104, 97, 116]⟩, .string ⟨#[98, 97, 100]⟩] 23)) := (Below.refl _ _).alloc (Nat.le_refl _) _
  have bx := blkNew w (.cells #[.string ⟨#[119, 104, 97, 116]⟩, .string ⟨#[98, 97, 100]⟩] 23)
  have hi := isLine_what _ m (cellBelow h0 hB0)
  go_enter Tryz.func9, Tryz.ntmps9
  go_wp2_with fail
  refine hi.mono ?_
  rintro e w1 ⟨rfl, hB1⟩
  have bx1 := blkBelow bx hB1 (by simp)
  have c1 := blkCell bx1 1 (v := .string ⟨#[98, 97, 100]⟩) rfl
  have hB01 : Below w.heap.size w w1 := hB0.trans (hB1.mono (by simp))
  clear hB0 bx hi hB1
  go_wp2_with fail
  go_ret
  exact ⟨rfl, blkBelow hb hB01 (blkLt hb), Chg.ofBelow hB01⟩
end Go.Proofs.YtfdbffopcdpfeaaGreatDoor
