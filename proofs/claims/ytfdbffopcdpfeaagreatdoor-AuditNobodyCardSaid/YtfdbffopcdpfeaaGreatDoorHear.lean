/- Hearing an entry; judging entries. -/
import Derived.LoopTactic
import Derived.Test.YtfdbffopcdpfeaaGreatDoorProg
import Derived.WalkKit
import Derived.WalkSpells
import Derived.WalkLawsBesides
import Derived.Deep.QuietTactic
import Derived.BigQuiet
import Derived.Lib.Hide
import Derived.Deep.RegionHeld3
import Derived.Deep.DrawnRows
import Derived.Deep.AppendLies
import Derived.Deep.RegionLaw
import Derived.Lib.AppendZerosOnto
import Derived.Lib.SlBytesConst
import Derived.Test.YtfdbffopcdpfeaaGreatDoorShelf
import Derived.Test.YtfdbffopcdpfeaaGreatDoorBase
import Derived.Test.YtfdbffopcdpfeaaGreatDoorJour
import Derived.Test.YtfdbffopcdpfeaaGreatDoorWords
import Derived.Test.YtfdbffopcdpfeaaGreatDoorRead
import Derived.Test.YtfdbffopcdpfeaaGreatDoorInts
import Derived.Test.YtfdbffopcdpfeaaGreatDoorLine
import Derived.Test.YtfdbffopcdpfeaaGreatDoorBook
import Derived.Test.YtfdbffopcdpfeaaGreatDoorOks
import Derived.Test.YtfdbffopcdpfeaaGreatDoorReply
import Derived.Test.YtfdbffopcdpfeaaGreatDoorFits
set_option linter.unusedVariables false
set_option linter.unusedSimpArgs false
namespace Go.Proofs.YtfdbffopcdpfeaaGreatDoor
open Go.RowKit
attribute [local go_sem ↓] Go.wp_at_zero Go.wp_at_succ

open Go
theorem hear_gen {line told : ByteArray} {w : World} {b : Nat} {m : Int} {h : Nat} {n c : Int} {r : Bool} {n' c' : Int} (hh : (h : Int) ≤ 1000) (h0 : w.cell? ⟨0, 0, none⟩ = some (.int .i64 m)) (hb0 : b ≠ 0) (hb : BookAt w b false h n c)
    (hf : ∀ W : World, W.cell? ⟨0, 0, none⟩ = some (.int .i64 m) → BookAt W b false ((h : Int) + 1) n c → Calls Tryz.prog 9 #[.pointer (some ⟨b, 0, none⟩), .agg #[.string line, .string told]] W (Heard b (.bool r) false ((h : Int) + 1) n' c' W)) :
    Calls Tryz.prog 6 #[.pointer (some ⟨b, 0, none⟩), .agg #[.string line, .string told]] w (Heard b (.tuple #[.bool r, .int .i64 0]) (!r) ((h : Int) + 1) n' c' w) := by
  have bx := blkNew w (.cells #[.string line, .string told] 23)
  have hb1 : BookAt (w.alloc (.cells #[.string line, .string told] 23)) b false h n c := blkOld hb _
  have hbl := blkLt hb
  have hnn : (0 : Int) ≤ h := by omega
  have c0 := blkCell hb1 0 (v := .bool true) rfl
  have c1 := blkCell hb1 1 (v := .bool false) rfl
  have c2 := blkCell hb1 2 (v := .int .i64 h) rfl
  have f2 := blkFree hb1 2
  have hb2 : BookAt ((w.setCell ⟨b, 2, none⟩ (.int .i64 ((h : Int) + 1))).alloc (.cells #[.string line, .string told] 23)) b false ((h : Int) + 1) n c := blkOld (blkSet hb 2 _) _
  have bx2 : ((w.setCell ⟨b, 2, none⟩ (.int .i64 ((h : Int) + 1))).alloc (.cells #[.string line, .string told] 23)).heap[w.heap.size]? = some (.cells #[.string line, .string told] 23) := by
    have h7 := blkNew (w.setCell ⟨b, 2, none⟩ (.int .i64 ((h : Int) + 1))) (.cells #[.string line, .string told] 23)
    simpa using h7
  have d0 := blkCell bx2 0 (v := .string line) rfl
  have d1 := blkCell bx2 1 (v := .string told) rfl
  have h0a := cellBelow ((cellFar (j := 2) (v := .int .i64 ((h : Int) + 1)) hb0).trans h0) ((Below.refl _ _).alloc (Nat.le_refl _) (.cells #[.string line, .string told] 23))
  have hH := hf _ h0a hb2
  have hCC : Chg (fun k => k = b) w ((w.setCell ⟨b, 2, none⟩ (.int .i64 ((h : Int) + 1))).alloc (.cells #[.string line, .string told] 23)) := ((Chg.refl (fun k => k = b) w).set (b := b) (.inl rfl) 2 _).alloc _
  go_enter Tryz.func6, Tryz.ntmps6
  go_wp2_with fail
  refine hH.mono ?_
  rintro e w2 ⟨rfl, hb3, hC⟩
  clear c0 c1 c2 f2 d0 d1 hH
  have c1 := blkCell hb3 1 (v := .bool false) rfl
  have f1 := blkFree hb3 1
  have hb4 := blkSet hb3 1 (.bool (!r))
  go_wp2_with fail
  go_ret2
  refine ⟨?_, hb4, (hCC.trans hC).set (b := b) (.inl rfl) 1 _⟩
  simp
theorem audit_New (w : World) : Calls Tryz.prog 10 #[] w fun e w' => e = .returned (.pointer (some ⟨w.heap.size, 0, none⟩)) ∧ w.alloc (.cells #[.bool true, .bool false, .int .i64 0, .int .i64 0, .int .i64 0, .int .i64 0, .int .i64 0, .int .i64 0] 30) = w' := by
  go_enter Tryz.func10, Tryz.ntmps10
  go_wp2
  go_ret; exact ⟨rfl, rfl⟩
set_option maxHeartbeats 1000000 in
theorem judge_gen (es : List (ByteArray × ByteArray)) (hlen : (es.length : Int) ≤ 100) (K : Nat) (ns cs : Nat → Int) (hn0 : ns 0 = 0) (hc0 : cs 0 = 0) (hK : K ≤ es.length) (m : Int)
    (htrue : ∀ k (h : k < es.length), k < K → ∀ (W : World) (b : Nat), b ≠ 0 → W.cell? ⟨0, 0, none⟩ = some (.int .i64 m) → BookAt W b false k (ns k) (cs k) → Calls Tryz.prog 6 #[.pointer (some ⟨b, 0, none⟩), .agg #[.string es[k].1, .string es[k].2]] W (Heard b (.tuple #[.bool true, .int .i64 0]) false ((k : Int) + 1) (ns (k + 1)) (cs (k + 1)) W))
    (hfalse : ∀ (h : K < es.length) (W : World) (b : Nat), b ≠ 0 → W.cell? ⟨0, 0, none⟩ = some (.int .i64 m) → BookAt W b false K (ns K) (cs K) → Calls Tryz.prog 6 #[.pointer (some ⟨b, 0, none⟩), .agg #[.string es[K].1, .string es[K].2]] W (fun e w' => e = .returned (.tuple #[.bool false, .int .i64 0]) ∧ Chg (fun k => k = b) W w'))
    (g c : Nat) (w : World) (h0 : w.cell? ⟨0, 0, none⟩ = some (.int .i64 m)) (hg : g < w.heap.size)
    (hc1 : ∀ k (h : k < es.length), w.cell? ⟨g, k * 2, none⟩ = some (.string es[k].1)) (hc2 : ∀ k (h : k < es.length), w.cell? ⟨g, k * 2 + 1, none⟩ = some (.string es[k].2)) :
    Calls Tryz.prog 8 #[.slice (some ⟨g, 0, none⟩) es.length c] w fun e w' => e = .returned (.int .i64 K) ∧ Below w.heap.size w w' := by
  have HT := Lib.hid htrue
  have HF := Lib.hid hfalse
  have H1 := Lib.hid hc1
  have H2 := Lib.hid hc2
  have HN := Lib.hid (And.intro hn0 hc0)
  clear htrue hfalse hc1 hc2 hn0 hc0
  have hw0 := World.block_lt_of_cell? w _ h0
  have hlen' : (es.length : Int) ≤ 9223372036854775807 := by omega
  go_enter Tryz.func8, Tryz.ntmps8
  go_wp2_with (go_at_call 10; refine (audit_New _).mono ?_; rintro e w' ⟨rfl, rfl⟩)
  go_loopw [11] (fun i wr => ∃ k : Nat, k ≤ K ∧ i = .int .i64 k ∧ BookAt wr w.heap.size false k (ns k) (cs k) ∧ Below w.heap.size w wr) (fun i _ => es.length - (intOf i).toNat)
  case atStart => exact ⟨0, Nat.zero_le _, rfl, by rw [HN.out.1, HN.out.2]; exact blkNew w _, (Below.refl _ _).alloc (Nat.le_refl _) _⟩
  case round =>
    obtain ⟨k, hk, rfl, hbk, hB⟩ := hrel
    by_cases hlt : k < es.length
    · have e1 := (hB.cell (p := ⟨g, k * 2, none⟩) hg).trans (H1.out k hlt)
      have e2 := (hB.cell (p := ⟨g, k * 2 + 1, none⟩) hg).trans (H2.out k hlt)
      have h0k := (hB.cell (p := ⟨0, 0, none⟩) hw0).trans h0
      have HT2 := Lib.hid (HT.out k hlt)
      have HE1' : ∃ x, es[k].1 = x := ⟨_, rfl⟩
      have HE2' : ∃ x, es[k].2 = x := ⟨_, rfl⟩
      obtain ⟨ek1, HE1⟩ := HE1'
      obtain ⟨ek2, HE2⟩ := HE2'
      rw [HE1] at e1
      rw [HE2] at e2
      rw [HE1, HE2] at HT2
      replace HE1 := Lib.hid HE1
      replace HE2 := Lib.hid HE2
      have hbE : BookAt (wr.alloc (.cells #[.string ek1, .string ek2] 23)) w.heap.size false k (ns k) (cs k) := blkOld hbk _
      have hBE : Below w.heap.size w (wr.alloc (.cells #[.string ek1, .string ek2] 23)) := hB.alloc hB.size _
      have h0E := (hBE.cell (p := ⟨0, 0, none⟩) hw0).trans h0
      have hbz : w.heap.size ≠ 0 := by omega
      by_cases hkK : k < K
      · go_wp2_with fail
        refine (HT2.out hkK _ _ hbz h0E hbE).mono ?_
        rintro e w2 ⟨rfl, hb3, hC⟩
        go_wp2_with fail
        refine ⟨⟨k + 1, by omega, by go_num, ?_, ?_⟩, by simp [intOf]; omega⟩
        · simpa using hb3
        · exact hBE.trans (hC.below hBE.size (fun j hj => by omega))
      · obtain rfl : k = K := by omega
        clear HT2
        have hfx := HF.out hlt _ _ hbz h0E hbE
        rw [HE1.out, HE2.out] at hfx
        go_wp2_with fail
        refine hfx.mono ?_
        rintro e w2 ⟨rfl, hC⟩
        go_wp2_with fail
        go_ret
        exact ⟨rfl, hBE.trans (hC.below hBE.size (fun j hj => by omega))⟩
    · obtain rfl : k = K := by omega
      have hkl : k = es.length := by omega
      have Hkl := Lib.hid hkl
      clear hkl
      go_wp2_with fail
      go_ret
      exact ⟨by rw [Hkl.out]; rfl, hB⟩
end Go.Proofs.YtfdbffopcdpfeaaGreatDoor
