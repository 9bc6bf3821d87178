/- The row of AuditNobody, proved. -/
import Derived.Test.YtfdbffopcdpfeaaGreatDoorRow
set_option linter.unusedVariables false
namespace Go.Proofs.YtfdbffopcdpfeaaGreatDoor
open Go
open Go.ChangeShapes Go.WideShapes Go.ChangeAt Go.RowKit Go.Joins
set_option maxRecDepth 100000 in
theorem lifted (os : Os) (started : os.Started) (H : Type) (enc : TypeId × Value → H) :
    ReturnsInHanded {} Tryz.checked os 3 .any (fun w args => (Rows.auditNobodySpec.pre enc Tryz.prog Tryz.f3 [] false w args ∧ laidMetH Tryz.prog laidL w) ∧ sizedMet enc Tryz.prog Tryz.f3 (OpenSpec.ofChange Rows.auditNobodySpec) false w args)
      (Rows.auditNobodySpec.post enc Tryz.prog Tryz.f3 false true false false) := by
  refine handed_laid_shaped (C := Tryz.checked) (X := fun w _ => laidMetH Tryz.prog laidL w) (fun _ _ _ hh h => h.of_heap hh) ownNone started (by kernel_rfl) Tryz.func3
    (ChangeSpec.witness_shaped (enc := enc) (C := Tryz.checked) (os := os) (X := fun w _ => laidMetH Tryz.prog laidL w) false (World.laidAll Tryz.prog os laidL) #[.agg #[.string ⟨#[]⟩, .string ⟨#[]⟩]] 8 (World.laidAll_os _ _ _)
      (witness_shaped os) (by kernel_rfl) (by kernel_rfl) (by kernel_rfl) (witness_laid os)) ?_
  intro W base args ds gs before hval0 hW hL hsh
  have hval : ∀ (j : Nat) t v, Tryz.f3.params[j]? = some t → args[j]? = some v → Value.okWide Tryz.prog W .any base t v := hval0
  have hW' := hW
  obtain ⟨p, q, hA0, hV, rfl, hfz, hnd⟩ := hW
  have hA : DataW.TrodAll enc Tryz.prog W 0 (fun _ => true) true Tryz.f3.params.toList args.toList ds p := hA0
  rw [Tryz.params3] at hA hval
  obtain ⟨v0, d0, rfl, rfl, h0⟩ := trodAll_one hA
  obtain ⟨rfl, rfl⟩ := trodVars_none hV
  obtain ⟨c0, c1, y0, y1, mm, rfl, rfl, rfl, hy0, hy1⟩ := open_agg2 Tryz.underlying23 (by kernel_rfl) cellsEntry (hval 0 23 v0 rfl rfl) h0
  obtain ⟨s, e0, rfl, ws⟩ := DataW.trod_string Tryz.underlying9 hy0
  obtain ⟨t, e1, rfl, wt⟩ := DataW.trod_string Tryz.underlying9 hy1
  simp at e0 e1
  subst e0 e1
  clear hA0 hval0
  simp only [List.append_nil] at hW'
  obtain ⟨m, h00⟩ := maxLenCell hsh
  have structReads : ∀ (W' : World) (sp : Nat → Bool), DataW.Trod enc Tryz.prog W' 0 sp true 23 (.agg #[.string s, .string t]) (.agg [.lit (.string s.data.toList), .lit (.string t.data.toList)]) [] := fun W' sp =>
    shut_agg2 (y0 := (.lit (.string s.data.toList), [])) (y1 := (.lit (.string t.data.toList), [])) Tryz.underlying23 (by kernel_rfl) cellsEntry ⟨1, by simp [DataW.trod, Tryz.underlying9, ws]⟩ ⟨1, by simp [DataW.trod, Tryz.underlying9, wt]⟩
  unfold maxLen at ws wt
  refine (nobody_any s t ws wt W m h00).mono fun e W' ⟨he, hb⟩ => ?_
  subst he
  exact ⟨_, rfl, _, _, _, [], [], [], hW', trodAll_mk1 (shut_bool Tryz.underlying4 _), trodAll_mk1 (structReads _ _), rfl, hb.frame _, fun h => by cases h⟩
end Go.Proofs.YtfdbffopcdpfeaaGreatDoor
