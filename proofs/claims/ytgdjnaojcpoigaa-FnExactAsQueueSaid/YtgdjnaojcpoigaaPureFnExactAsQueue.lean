/- The program's AsQueue returns what the reference's returns, for every number. -/
import Derived.Test.YtgdjnaojcpoigaaPFnExactAsQueuex1
import Derived.Test.YtgdjnaojcpoigaaK
set_option linter.unusedVariables false
set_option linter.unusedSimpArgs false
namespace Go.Proofs.Ytgdjnaojcpoigaa.Pure
open Go.RowKit Go.Proofs.Ytgdjnaojcpoigaa.PFnExactAsQueue Go.Proofs.YtgdjnaojcpoigaaW.PrintWords Go.Proofs.YtgdjnaojcpoigaaW.PrintLast Go.Proofs.YtgdjnaojcpoigaaW.PrintMore

theorem at_each : ∀ n ∈ [1, 2, 3, 4, 5, 6, 7], laws_FnExactAsQueue.f 300 n = some true := by decide +kernel
theorem l1In_is (a b c : Int) : spec_l1In.f a b c = some (decide (b ≤ a ∧ a ≤ c)) := by
  unfold spec_l1In.f
  by_cases h : a ≥ b
  · rw [if_pos h]; simp [h]
  · rw [if_neg h]; simp; omega
theorem isSize_is (a : Int) : impl_isSize.f a = some (decide (1 ≤ a ∧ a ≤ 7)) := by
  unfold impl_isSize.f
  by_cases h : a ≥ 1
  · rw [if_pos h]; simp [h]
  · rw [if_neg h]; simp; omega
theorem FnExactAsQueue : laws_FnExactAsQueue.Pure := by
  intro n _
  by_cases h : 1 ≤ n ∧ n ≤ 7
  · refine ⟨300, at_each n ?_⟩
    have : n = 1 ∨ n = 2 ∨ n = 3 ∨ n = 4 ∨ n = 5 ∨ n = 6 ∨ n = 7 := by omega
    simp [this]
  · refine ⟨300, ?_⟩
    unfold laws_FnExactAsQueue.f spec_AsQueue.f impl_AsQueue.f
    simp [l1In_is, isSize_is, h]

end Go.Proofs.Ytgdjnaojcpoigaa.Pure
