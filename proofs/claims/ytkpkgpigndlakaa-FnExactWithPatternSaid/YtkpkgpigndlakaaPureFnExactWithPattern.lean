/- The program's WithPattern returns what the reference's returns, for all arguments. No condition. -/
import Derived.Test.YtkpkgpigndlakaaPFnExactWithPatternx1
namespace Go.Proofs.Ytkpkgpigndlakaa.Pure
open Go.RowKit Go.Proofs.Ytkpkgpigndlakaa.PFnExactWithPattern Go.Proofs.YtkpkgpigndlakaaW.PrintWords Go.Proofs.YtkpkgpigndlakaaW.PrintLast

-- block within
theorem within_eq (a b c : Int) : impl_within.f a b c = some (decide (b ≤ a ∧ a ≤ c)) := by
  unfold impl_within.f
  by_cases h : b ≤ a
  · rw [if_pos h]; simp [h]
  · rw [if_neg h]; simp [h]

-- block isRoll
theorem isRoll_eq (a : Int) : impl_isRoll.f a = some (decide (1 ≤ a ∧ a ≤ 2000)) := by
  unfold impl_isRoll.f; rw [within_eq]; rfl

-- block isNeed
theorem isNeed_eq (a : Int) : impl_isNeed.f a = some (decide (1 ≤ a ∧ a ≤ 100)) := by
  unfold impl_isNeed.f; rw [within_eq]; rfl

-- block l1In
theorem l1In_eq (a b c : Int) : spec_l1In.f a b c = some (decide (b ≤ a ∧ a ≤ c)) := by
  unfold spec_l1In.f
  by_cases h : a ≥ b
  · rw [if_pos h]; simp [show b ≤ a from h]
  · rw [if_neg h]; simp [show ¬ b ≤ a from h]

-- block cpNeed
theorem cpNeed_eq (a : Int) : spec_cpNeed.f a = some (decide (1 ≤ a ∧ a ≤ 100)) := by
  unfold spec_cpNeed.f; rw [l1In_eq]; rfl

-- block cpPattern
theorem cpPattern_eq (a b : Int) : spec_cpPattern.f a b = some (decide ((1 ≤ a ∧ a ≤ 100) ∧ (1 ≤ b ∧ b ≤ 2000))) := by
  unfold spec_cpPattern.f; rw [cpNeed_eq, Option.bind_some]
  by_cases h : 1 ≤ a ∧ a ≤ 100
  · rw [if_pos (decide_eq_true h), l1In_eq]; simp [h]
  · rw [if_neg (by simp; omega)]; simp [h]

theorem FnExactWithPattern : laws_FnExactWithPattern.Pure := by
  intro a b _ _
  unfold laws_FnExactWithPattern.f spec_WithPattern.f impl_WithPattern.f
  rw [isRoll_eq, cpPattern_eq, isNeed_eq]
  simp only [Option.bind_some]
  by_cases h : 1 ≤ a ∧ a ≤ 100
  · by_cases g : 1 ≤ b ∧ b ≤ 2000
    · have hb : ¬ b = 0 := by omega
      simp [h, g, hb]
    · simp [h, g]
  · simp [h]

end Go.Proofs.Ytkpkgpigndlakaa.Pure
