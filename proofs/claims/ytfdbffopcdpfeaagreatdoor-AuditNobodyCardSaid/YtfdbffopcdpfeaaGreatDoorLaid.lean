/- The types are laid out as they should: chunk by chunk, each checked for itself. -/
import Derived.Test.YtfdbffopcdpfeaaGreatDoorRows
import Derived.JoinedOf
import Derived.KernelRfl
set_option linter.unusedVariables false
namespace Go.Proofs.YtfdbffopcdpfeaaGreatDoor
open Go
theorem range_chunk {p : Nat → Bool} {a : Nat} (b : Nat) {n : Nat} (h : (List.range a).all p = true) (hn : a + b = n) (k : (List.range' a b).all p = true) : (List.range n).all p = true := by
  subst hn
  rw [List.range_eq_range'] at h ⊢
  have e : List.range' 0 (a + b) = List.range' 0 a ++ List.range' a b := by
    have := List.range'_append_1 (s := 0) (m := a) (n := b)
    rw [Nat.zero_add] at this
    exact this.symm
  rw [e, List.all_append, h, k]; rfl
theorem types_size : Tryz.prog.types.size = 731 := by kernel_rfl
theorem rf0 : (List.range' 0 30).all (rowFine Tryz.prog) = true := by kernel_rfl
theorem rf30 : (List.range' 30 30).all (rowFine Tryz.prog) = true := by kernel_rfl
theorem rf60 : (List.range' 60 30).all (rowFine Tryz.prog) = true := by kernel_rfl
theorem rf90 : (List.range' 90 30).all (rowFine Tryz.prog) = true := by kernel_rfl
theorem rf120 : (List.range' 120 30).all (rowFine Tryz.prog) = true := by kernel_rfl
theorem rf150 : (List.range' 150 30).all (rowFine Tryz.prog) = true := by kernel_rfl
theorem rf180 : (List.range' 180 30).all (rowFine Tryz.prog) = true := by kernel_rfl
theorem rf210 : (List.range' 210 30).all (rowFine Tryz.prog) = true := by kernel_rfl
theorem rf240 : (List.range' 240 30).all (rowFine Tryz.prog) = true := by kernel_rfl
theorem rf270 : (List.range' 270 30).all (rowFine Tryz.prog) = true := by kernel_rfl
theorem rf300 : (List.range' 300 30).all (rowFine Tryz.prog) = true := by kernel_rfl
theorem rf330 : (List.range' 330 30).all (rowFine Tryz.prog) = true := by kernel_rfl
theorem rf360 : (List.range' 360 30).all (rowFine Tryz.prog) = true := by kernel_rfl
theorem rf390 : (List.range' 390 30).all (rowFine Tryz.prog) = true := by kernel_rfl
theorem rf420 : (List.range' 420 30).all (rowFine Tryz.prog) = true := by kernel_rfl
theorem rf450 : (List.range' 450 30).all (rowFine Tryz.prog) = true := by kernel_rfl
theorem rf480 : (List.range' 480 30).all (rowFine Tryz.prog) = true := by kernel_rfl
theorem rf510 : (List.range' 510 30).all (rowFine Tryz.prog) = true := by kernel_rfl
theorem rf540 : (List.range' 540 30).all (rowFine Tryz.prog) = true := by kernel_rfl
theorem rf570 : (List.range' 570 30).all (rowFine Tryz.prog) = true := by kernel_rfl
theorem rf600 : (List.range' 600 30).all (rowFine Tryz.prog) = true := by kernel_rfl
theorem rf630 : (List.range' 630 30).all (rowFine Tryz.prog) = true := by kernel_rfl
theorem rf660 : (List.range' 660 30).all (rowFine Tryz.prog) = true := by kernel_rfl
theorem rf690 : (List.range' 690 30).all (rowFine Tryz.prog) = true := by kernel_rfl
theorem rf720 : (List.range' 720 11).all (rowFine Tryz.prog) = true := by kernel_rfl
theorem rf_all : (List.range 731).all (rowFine Tryz.prog) = true := by
  have h0 : (List.range 0).all (rowFine Tryz.prog) = true := rfl
  have h30 := range_chunk (n := 30) 30 h0 rfl rf0
  have h60 := range_chunk (n := 60) 30 h30 rfl rf30
  have h90 := range_chunk (n := 90) 30 h60 rfl rf60
  have h120 := range_chunk (n := 120) 30 h90 rfl rf90
  have h150 := range_chunk (n := 150) 30 h120 rfl rf120
  have h180 := range_chunk (n := 180) 30 h150 rfl rf150
  have h210 := range_chunk (n := 210) 30 h180 rfl rf180
  have h240 := range_chunk (n := 240) 30 h210 rfl rf210
  have h270 := range_chunk (n := 270) 30 h240 rfl rf240
  have h300 := range_chunk (n := 300) 30 h270 rfl rf270
  have h330 := range_chunk (n := 330) 30 h300 rfl rf300
  have h360 := range_chunk (n := 360) 30 h330 rfl rf330
  have h390 := range_chunk (n := 390) 30 h360 rfl rf360
  have h420 := range_chunk (n := 420) 30 h390 rfl rf390
  have h450 := range_chunk (n := 450) 30 h420 rfl rf420
  have h480 := range_chunk (n := 480) 30 h450 rfl rf450
  have h510 := range_chunk (n := 510) 30 h480 rfl rf480
  have h540 := range_chunk (n := 540) 30 h510 rfl rf510
  have h570 := range_chunk (n := 570) 30 h540 rfl rf540
  have h600 := range_chunk (n := 600) 30 h570 rfl rf570
  have h630 := range_chunk (n := 630) 30 h600 rfl rf600
  have h660 := range_chunk (n := 660) 30 h630 rfl rf630
  have h690 := range_chunk (n := 690) 30 h660 rfl rf660
  have h720 := range_chunk (n := 720) 30 h690 rfl rf690
  have h731 := range_chunk (n := 731) 11 h720 rfl rf720
  exact h731
theorem laid_globals : Tryz.prog.globals.all (fun g => decide (g.type < Tryz.prog.types.size)) = true := by kernel_rfl
theorem laid_funcs : Tryz.prog.funcs.all (fun f => f.params.all fun t => decide (t < Tryz.prog.types.size)) = true := by kernel_rfl
theorem laid_out : laidOutB Tryz.prog = true := by
  unfold laidOutB
  rw [types_size, rf_all]
  have h1 := laid_globals
  have h2 := laid_funcs
  rw [types_size] at h1 h2
  rw [h1, h2]; rfl
end Go.Proofs.YtfdbffopcdpfeaaGreatDoor
