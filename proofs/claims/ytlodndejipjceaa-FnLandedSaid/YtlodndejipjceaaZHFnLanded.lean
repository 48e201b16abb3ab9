/- What the law's helper functions answer: sizes, conversions, comparisons. By this repo's wip/tools/pg.py. -/
import Derived.Test.YtlodndejipjceaaZPFnLandedx0
import Derived.Test.YtlodndejipjceaaZPFnLandedx1
import Derived.Test.YtlodndejipjceaaZPFnLandedx5
import Derived.Test.YtlodndejipjceaaZPFnLandedx6
import Derived.Test.YtlodndejipjceaaZEv
set_option maxHeartbeats 2000000
set_option linter.unusedVariables false
set_option linter.unusedSimpArgs false
namespace Go.Proofs.Ytlodndejipjceaa.PFnLanded
open Go.RowKit Go.Proofs.YtlodndejipjceaaW.PrintWords Go.Proofs.YtlodndejipjceaaW.PrintLast Go.Proofs.Ytlodndejipjceaa.XEv

theorem spec_l1In_eq (a b c : Int) : spec_l1In.f a b c = some (decide (b ≤ a ∧ a ≤ c)) := by
  unfold spec_l1In.f
  by_cases h : a ≥ b
  · rw [if_pos h]; simp [show b ≤ a from h]
  · rw [if_neg h]; simp [show ¬ b ≤ a from h]
theorem impl_between_eq (a b c : Int) : impl_between.f a b c = some (decide (b ≤ a ∧ a ≤ c)) := by
  unfold impl_between.f
  by_cases h : a ≥ b
  · rw [if_pos h]; simp [show b ≤ a from h]
  · rw [if_neg h]; simp [show ¬ b ≤ a from h]
theorem spec_l1Amount_eq (a : Int) : spec_l1Amount.f a = some (decide (-100000000000 ≤ a ∧ a ≤ 100000000000)) := by
  unfold spec_l1Amount.f
  rw [spec_l1In_eq]
  rfl
theorem spec_l1Factor_eq (a : Int) : spec_l1Factor.f a = some (decide (0 ≤ a ∧ a ≤ 10000000)) := by
  unfold spec_l1Factor.f
  rw [spec_l1In_eq]
  rfl
theorem impl_amount_eq (a : Int) : impl_amount.f a = some (decide (-100000000000 ≤ a ∧ a ≤ 100000000000)) := by
  unfold impl_amount.f
  rw [impl_between_eq]
  rfl
theorem impl_factor_eq (a : Int) : impl_factor.f a = some (decide (0 ≤ a ∧ a ≤ 10000000)) := by
  unfold impl_factor.f
  rw [impl_between_eq]
  rfl
end Go.Proofs.Ytlodndejipjceaa.PFnLanded
