/- The program's ChanceDepth returns what the reference's returns, for all numbers. -/
import Derived.Test.YtfoededcgeemcaaPFnExactChanceDepthx4
import Derived.Test.YtfoededcgeemcaaK
set_option linter.unusedVariables false
set_option linter.unusedSimpArgs false
namespace Go.Proofs.Ytfoededcgeemcaa.Pure
open Go.RowKit Go.Proofs.Ytfoededcgeemcaa.PFnExactChanceDepth Go.Proofs.YtfoededcgeemcaaW.PrintWords Go.Proofs.YtfoededcgeemcaaW.PrintLast Go.Proofs.YtfoededcgeemcaaW.PrintMore

theorem at_each : ∀ n ∈ [1, 2, 3, 4, 5, 6], ∀ d ∈ [1, 2, 3, 4, 5, 6], laws_FnExactChanceDepth.f 2000 n d = some true := by decide +kernel
theorem l1In_is (a b c : Int) : spec_l1In.f a b c = some (decide (b ≤ a ∧ a ≤ c)) := by
  unfold spec_l1In.f
  by_cases h : a ≥ b
  · rw [if_pos h]; simp [h]
  · rw [if_neg h]; simp; omega
theorem isDrawn_is (a : Int) : impl_isDrawn.f a = some (decide (1 ≤ a ∧ a ≤ 6)) := by
  unfold impl_isDrawn.f
  by_cases h : a ≥ 1
  · rw [if_pos h]; simp [h]
  · rw [if_neg h]; simp; omega
theorem mem6 (n : Int) (h : 1 ≤ n ∧ n ≤ 6) : n ∈ [1, 2, 3, 4, 5, 6] := by
  have : n = 1 ∨ n = 2 ∨ n = 3 ∨ n = 4 ∨ n = 5 ∨ n = 6 := by omega
  simp [this]
theorem FnExactChanceDepth : laws_FnExactChanceDepth.Pure := by
  intro n d _ _
  by_cases h : 1 ≤ n ∧ n ≤ 6
  · by_cases hd : 1 ≤ d ∧ d ≤ 6
    · exact ⟨2000, at_each n (mem6 n h) d (mem6 d hd)⟩
    · refine ⟨1, ?_⟩
      unfold laws_FnExactChanceDepth.f spec_ChanceDepth.f impl_ChanceDepth.f impl_wordMean.f laws_eqIntA2.f spec_l9Size.f
      simp [l1In_is, isDrawn_is, h, hd, impl_wordMean.j0, spec_ChanceDepth.j0]
  · refine ⟨1, ?_⟩
    unfold laws_FnExactChanceDepth.f spec_ChanceDepth.f impl_ChanceDepth.f impl_wordMean.f laws_eqIntA2.f spec_l9Size.f
    simp [l1In_is, isDrawn_is, h, impl_wordMean.j0, spec_ChanceDepth.j0]

end Go.Proofs.Ytfoededcgeemcaa.Pure
