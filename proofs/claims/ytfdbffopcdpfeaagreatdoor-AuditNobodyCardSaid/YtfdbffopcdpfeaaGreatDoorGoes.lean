/- No function of the program starts a goroutine: chunk by chunk, each checked for itself. -/
import Derived.Test.YtfdbffopcdpfeaaGreatDoorLaid
import GoSem.ClaimGoes
set_option linter.unusedVariables false
namespace Go.Proofs.YtfdbffopcdpfeaaGreatDoor
open Go
theorem funcs_size : Tryz.prog.funcs.size = 611 := by kernel_rfl
theorem gf0 : (List.range' 0 30).all (fun i => !(Tryz.prog.funcs[i]?).any Func.goes) = true := by kernel_rfl
theorem gf30 : (List.range' 30 30).all (fun i => !(Tryz.prog.funcs[i]?).any Func.goes) = true := by kernel_rfl
theorem gf60 : (List.range' 60 30).all (fun i => !(Tryz.prog.funcs[i]?).any Func.goes) = true := by kernel_rfl
theorem gf90 : (List.range' 90 30).all (fun i => !(Tryz.prog.funcs[i]?).any Func.goes) = true := by kernel_rfl
theorem gf120 : (List.range' 120 30).all (fun i => !(Tryz.prog.funcs[i]?).any Func.goes) = true := by kernel_rfl
theorem gf150 : (List.range' 150 30).all (fun i => !(Tryz.prog.funcs[i]?).any Func.goes) = true := by kernel_rfl
theorem gf180 : (List.range' 180 30).all (fun i => !(Tryz.prog.funcs[i]?).any Func.goes) = true := by kernel_rfl
theorem gf210 : (List.range' 210 30).all (fun i => !(Tryz.prog.funcs[i]?).any Func.goes) = true := by kernel_rfl
theorem gf240 : (List.range' 240 30).all (fun i => !(Tryz.prog.funcs[i]?).any Func.goes) = true := by kernel_rfl
theorem gf270 : (List.range' 270 30).all (fun i => !(Tryz.prog.funcs[i]?).any Func.goes) = true := by kernel_rfl
theorem gf300 : (List.range' 300 30).all (fun i => !(Tryz.prog.funcs[i]?).any Func.goes) = true := by kernel_rfl
theorem gf330 : (List.range' 330 30).all (fun i => !(Tryz.prog.funcs[i]?).any Func.goes) = true := by kernel_rfl
theorem gf360 : (List.range' 360 30).all (fun i => !(Tryz.prog.funcs[i]?).any Func.goes) = true := by kernel_rfl
theorem gf390 : (List.range' 390 30).all (fun i => !(Tryz.prog.funcs[i]?).any Func.goes) = true := by kernel_rfl
theorem gf420 : (List.range' 420 30).all (fun i => !(Tryz.prog.funcs[i]?).any Func.goes) = true := by kernel_rfl
theorem gf450 : (List.range' 450 30).all (fun i => !(Tryz.prog.funcs[i]?).any Func.goes) = true := by kernel_rfl
theorem gf480 : (List.range' 480 30).all (fun i => !(Tryz.prog.funcs[i]?).any Func.goes) = true := by kernel_rfl
theorem gf510 : (List.range' 510 30).all (fun i => !(Tryz.prog.funcs[i]?).any Func.goes) = true := by kernel_rfl
theorem gf540 : (List.range' 540 30).all (fun i => !(Tryz.prog.funcs[i]?).any Func.goes) = true := by kernel_rfl
theorem gf570 : (List.range' 570 30).all (fun i => !(Tryz.prog.funcs[i]?).any Func.goes) = true := by kernel_rfl
theorem gf600 : (List.range' 600 11).all (fun i => !(Tryz.prog.funcs[i]?).any Func.goes) = true := by kernel_rfl
theorem gf_all : (List.range 611).all (fun i => !(Tryz.prog.funcs[i]?).any Func.goes) = true := by
  have h0 : (List.range 0).all (fun i => !(Tryz.prog.funcs[i]?).any Func.goes) = true := rfl
  have h30 := range_chunk (n := 30) 30 h0 rfl gf0
  have h60 := range_chunk (n := 60) 30 h30 rfl gf30
  have h90 := range_chunk (n := 90) 30 h60 rfl gf60
  have h120 := range_chunk (n := 120) 30 h90 rfl gf90
  have h150 := range_chunk (n := 150) 30 h120 rfl gf120
  have h180 := range_chunk (n := 180) 30 h150 rfl gf150
  have h210 := range_chunk (n := 210) 30 h180 rfl gf180
  have h240 := range_chunk (n := 240) 30 h210 rfl gf210
  have h270 := range_chunk (n := 270) 30 h240 rfl gf240
  have h300 := range_chunk (n := 300) 30 h270 rfl gf270
  have h330 := range_chunk (n := 330) 30 h300 rfl gf300
  have h360 := range_chunk (n := 360) 30 h330 rfl gf330
  have h390 := range_chunk (n := 390) 30 h360 rfl gf360
  have h420 := range_chunk (n := 420) 30 h390 rfl gf390
  have h450 := range_chunk (n := 450) 30 h420 rfl gf420
  have h480 := range_chunk (n := 480) 30 h450 rfl gf450
  have h510 := range_chunk (n := 510) 30 h480 rfl gf480
  have h540 := range_chunk (n := 540) 30 h510 rfl gf510
  have h570 := range_chunk (n := 570) 30 h540 rfl gf540
  have h600 := range_chunk (n := 600) 30 h570 rfl gf570
  have h611 := range_chunk (n := 611) 11 h600 rfl gf600
  exact h611
set_option maxRecDepth 100000 in
theorem none_goes (i : Nat) : (Tryz.prog.funcs[i]?).any Func.goes = false := by
  by_cases h : i < 611
  · have := List.all_eq_true.1 gf_all i (List.mem_range.2 h)
    exact (Bool.not_eq_true' _).mp this
  · rw [Array.getElem?_eq_none (by rw [funcs_size]; omega)]; rfl
set_option maxRecDepth 100000 in
theorem any_goes : Tryz.prog.funcs.any Func.goes = false := by
  rw [Array.any_eq_false]
  intro i hi
  have h := none_goes i
  rw [Array.getElem?_eq_getElem hi, Option.any_some] at h
  rw [h]; exact Bool.noConfusion
set_option maxRecDepth 100000 in
theorem prog_goes (f : FuncId) : Tryz.prog.goes f = false := by
  unfold Program.goes
  rw [any_goes, Bool.and_false, Bool.or_false, List.any_eq_false]
  intro g _
  rw [none_goes g]; exact Bool.noConfusion
theorem goesFrom_of {P : Program} (h : ∀ f, P.goes f = false) (s : String) : P.goesFrom s = false := by
  unfold Program.goesFrom
  cases P.funcNamed s with
  | none => rfl
  | some f => exact h f
theorem prog_goesFrom (s : String) : Tryz.prog.goesFrom s = false := goesFrom_of prog_goes s
end Go.Proofs.YtfdbffopcdpfeaaGreatDoor
