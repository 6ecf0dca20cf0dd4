/- The program's MeanKept returns what the reference's returns, for every number. -/
import Derived.Test.YtgmhehgjmlokdaaPFnExactMeanKeptx5
import Derived.Test.YtgmhehgjmlokdaaK
set_option linter.unusedVariables false
set_option linter.unusedSimpArgs false
namespace Go.Proofs.Ytgmhehgjmlokdaa.Pure
open Go.RowKit Go.Proofs.Ytgmhehgjmlokdaa.PFnExactMeanKept Go.Proofs.YtgmhehgjmlokdaaW.PrintWords Go.Proofs.YtgmhehgjmlokdaaW.PrintLast Go.Proofs.YtgmhehgjmlokdaaW.PrintMore

theorem at_each : ∀ n ∈ [1, 2, 3, 4, 5, 6], laws_FnExactMeanKept.f 3000 n = some true := by decide +kernel
theorem l1In_is (a b c : Int) : spec_l1In.f a b c = some (decide (b ≤ a ∧ a ≤ c)) := by
  unfold spec_l1In.f
  by_cases h : a ≥ b
  · rw [if_pos h]; simp [h]
  · rw [if_neg h]; simp; omega
theorem isDrawn_is (a : Int) : impl_isDrawn.f a = some (decide (1 ≤ a ∧ a ≤ 6)) := by
  unfold impl_isDrawn.f
  by_cases h : a ≥ 1
  · rw [if_pos h]; simp [h]
  · rw [if_neg h]; simp; omega
theorem FnExactMeanKept : laws_FnExactMeanKept.Pure := by
  intro n _
  by_cases h : 1 ≤ n ∧ n ≤ 6
  · refine ⟨3000, at_each n ?_⟩
    have : n = 1 ∨ n = 2 ∨ n = 3 ∨ n = 4 ∨ n = 5 ∨ n = 6 := by omega
    simp [this]
  · refine ⟨1, ?_⟩
    unfold laws_FnExactMeanKept.f spec_MeanKept.f impl_MeanKept.f impl_wordMean.f laws_eqIntA2.f spec_l9Size.f
    simp [l1In_is, isDrawn_is, h, impl_wordMean.j0]

end Go.Proofs.Ytgmhehgjmlokdaa.Pure
