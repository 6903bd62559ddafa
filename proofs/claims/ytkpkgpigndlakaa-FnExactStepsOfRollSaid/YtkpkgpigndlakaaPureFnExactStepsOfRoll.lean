/- The program's StepsOfRoll returns what the reference's returns, for all arguments. No condition. -/
import Derived.Test.YtkpkgpigndlakaaPFnExactStepsOfRollx1
namespace Go.Proofs.Ytkpkgpigndlakaa.Pure
open Go.RowKit Go.Proofs.Ytkpkgpigndlakaa.PFnExactStepsOfRoll Go.Proofs.YtkpkgpigndlakaaW.PrintWords Go.Proofs.YtkpkgpigndlakaaW.PrintLast

-- block within
theorem within_eq (a b c : Int) : impl_within.f a b c = some (decide (b ≤ a ∧ a ≤ c)) := by
  unfold impl_within.f
  by_cases h : b ≤ a
  · rw [if_pos h]; simp [h]
  · rw [if_neg h]; simp [h]

-- block isRoll
theorem isRoll_eq (a : Int) : impl_isRoll.f a = some (decide (1 ≤ a ∧ a ≤ 2000)) := by
  unfold impl_isRoll.f; rw [within_eq]; rfl

-- block isNeed
theorem isNeed_eq (a : Int) : impl_isNeed.f a = some (decide (1 ≤ a ∧ a ≤ 100)) := by
  unfold impl_isNeed.f; rw [within_eq]; rfl

-- block l1In
theorem l1In_eq (a b c : Int) : spec_l1In.f a b c = some (decide (b ≤ a ∧ a ≤ c)) := by
  unfold spec_l1In.f
  by_cases h : a ≥ b
  · rw [if_pos h]; simp [show b ≤ a from h]
  · rw [if_neg h]; simp [show ¬ b ≤ a from h]

-- block cpNeed
theorem cpNeed_eq (a : Int) : spec_cpNeed.f a = some (decide (1 ≤ a ∧ a ≤ 100)) := by
  unfold spec_cpNeed.f; rw [l1In_eq]; rfl

theorem FnExactStepsOfRoll : laws_FnExactStepsOfRoll.Pure := by
  intro a b _ _
  unfold laws_FnExactStepsOfRoll.f spec_StepsOfRoll.f impl_StepsOfRoll.f
  rw [l1In_eq, isRoll_eq, cpNeed_eq, isNeed_eq]
  simp only [Option.bind_some]
  by_cases h : 1 ≤ a ∧ a ≤ 2000
  · by_cases g : 1 ≤ b ∧ b ≤ 100
    · have hb : ¬ b = 0 := by omega
      simp [h, g, hb]
    · simp [h, g]
  · simp [h]

end Go.Proofs.Ytkpkgpigndlakaa.Pure
