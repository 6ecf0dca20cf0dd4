/- The program's MeanRuns returns what the reference's returns, for every number. -/
import Derived.Test.YtnfcopikfbnheaaPFnExactMeanRunsx6
import Derived.Test.YtnfcopikfbnheaaK
set_option linter.unusedVariables false
set_option linter.unusedSimpArgs false
namespace Go.Proofs.Ytnfcopikfbnheaa.Pure
open Go.RowKit Go.Proofs.Ytnfcopikfbnheaa.PFnExactMeanRuns Go.Proofs.YtnfcopikfbnheaaW.PrintWords Go.Proofs.YtnfcopikfbnheaaW.PrintLast Go.Proofs.YtnfcopikfbnheaaW.PrintMore

set_option maxRecDepth 100000 in
set_option maxHeartbeats 100000000 in
theorem at_each5 : ∀ n ∈ [1, 2, 3, 4, 5], laws_FnExactMeanRuns.f 2000 n = some true := by decide +kernel
set_option maxRecDepth 100000 in
set_option maxHeartbeats 100000000 in
theorem at_each6 : laws_FnExactMeanRuns.f 2000 6 = some true := by decide +kernel
theorem at_each : ∀ n ∈ [1, 2, 3, 4, 5, 6], laws_FnExactMeanRuns.f 2000 n = some true := by
  intro n hn
  by_cases h : n = 6
  · subst h; exact at_each6
  · exact at_each5 n (by simp at hn ⊢; omega)
theorem l1In_is (a b c : Int) : spec_l1In.f a b c = some (decide (b ≤ a ∧ a ≤ c)) := by
  unfold spec_l1In.f
  by_cases h : a ≥ b
  · rw [if_pos h]; simp [h]
  · rw [if_neg h]; simp; omega
theorem isDrawn_is (a : Int) : impl_isDrawn.f a = some (decide (1 ≤ a ∧ a ≤ 6)) := by
  unfold impl_isDrawn.f
  by_cases h : a ≥ 1
  · rw [if_pos h]; simp [h]
  · rw [if_neg h]; simp; omega
theorem FnExactMeanRuns : laws_FnExactMeanRuns.Pure := by
  intro n _
  by_cases h : 1 ≤ n ∧ n ≤ 6
  · refine ⟨2000, at_each n ?_⟩
    have : n = 1 ∨ n = 2 ∨ n = 3 ∨ n = 4 ∨ n = 5 ∨ n = 6 := by omega
    simp [this]
  · refine ⟨1, ?_⟩
    unfold laws_FnExactMeanRuns.f spec_MeanRuns.f impl_MeanRuns.f impl_drawnMean.f laws_eqIntA2.f spec_l9Size.f
    simp [l1In_is, isDrawn_is, h]

end Go.Proofs.Ytnfcopikfbnheaa.Pure
