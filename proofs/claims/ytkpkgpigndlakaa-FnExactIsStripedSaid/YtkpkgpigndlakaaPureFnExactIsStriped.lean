/- The program's IsStriped returns what the reference's returns, for all arguments. No condition. -/
import Derived.Test.YtkpkgpigndlakaaPFnExactIsStripedx1
namespace Go.Proofs.Ytkpkgpigndlakaa.Pure
open Go.RowKit Go.Proofs.Ytkpkgpigndlakaa.PFnExactIsStriped Go.Proofs.YtkpkgpigndlakaaW.PrintWords Go.Proofs.YtkpkgpigndlakaaW.PrintLast

-- block within
theorem within_eq (a b c : Int) : impl_within.f a b c = some (decide (b ≤ a ∧ a ≤ c)) := by
  unfold impl_within.f
  by_cases h : b ≤ a
  · rw [if_pos h]; simp [h]
  · rw [if_neg h]; simp [h]

-- block l1In
theorem l1In_eq (a b c : Int) : spec_l1In.f a b c = some (decide (b ≤ a ∧ a ≤ c)) := by
  unfold spec_l1In.f
  by_cases h : a ≥ b
  · rw [if_pos h]; simp [show b ≤ a from h]
  · rw [if_neg h]; simp [show ¬ b ≤ a from h]

-- block w64
theorem w64 {x : Int} (h : -9223372036854775808 ≤ x ∧ x ≤ 9223372036854775807) : wrap64 x = x := by
  unfold wrap64; omega

-- block striped
abbrev low (s : ByteArray) : Prop := ∀ j : Nat, j < s.size → 97 ≤ bt s j ∧ bt s j ≤ 122
theorem cpStripes_good (s : ByteArray) (hs : s.size ≤ 1048576) (h : low s) (d : Nat) : ∀ (k i : Nat), i + d = s.size → d < k → spec_cpStripes.l0 k s i = some true := by
  induction d with
  | zero =>
    intro k i hd hk
    obtain ⟨k, rfl⟩ : ∃ m, k = m + 1 := ⟨k - 1, by omega⟩
    simp only [spec_cpStripes.l0]; rw [if_neg (by omega)]
  | succ d ih =>
    intro k i hd hk
    obtain ⟨k, rfl⟩ : ∃ m, k = m + 1 := ⟨k - 1, by omega⟩
    simp only [spec_cpStripes.l0]
    have := h i (by omega)
    rw [if_pos (by omega), if_pos (by omega), if_neg (by omega), if_neg (by omega), w64 (by omega)]
    exact ih k (i + 1) (by omega) (by omega)
theorem cpStripes_bad (s : ByteArray) (hs : s.size ≤ 1048576) (j : Nat) (hj : j < s.size) (h : ¬ (97 ≤ bt s j ∧ bt s j ≤ 122)) (d : Nat) : ∀ (k i : Nat), i ≤ j → i + d = s.size → d < k → spec_cpStripes.l0 k s i = some false := by
  induction d with
  | zero => intro k i hi hd hk; omega
  | succ d ih =>
    intro k i hi hd hk
    obtain ⟨k, rfl⟩ : ∃ m, k = m + 1 := ⟨k - 1, by omega⟩
    simp only [spec_cpStripes.l0]
    rw [if_pos (by omega), if_pos (by omega)]
    by_cases h1 : bt s (i : Int) < 97
    · rw [if_pos h1]
    · by_cases h2 : bt s (i : Int) > 122
      · rw [if_neg h1, if_pos h2]
      · rw [if_neg h1, if_neg h2, w64 (by omega)]
        have hne : i ≠ j := by rintro rfl; exact h ⟨by omega, by omega⟩
        exact ih k (i + 1) (by omega) (by omega) (by omega)
theorem cpStripes_eq {k : Nat} {s : ByteArray} (hs : s.size ≤ 1048576) (hk : 1048576 < k) : spec_cpStripes.f k s = some (decide ((1 ≤ s.size ∧ s.size ≤ 10) ∧ low s)) := by
  unfold spec_cpStripes.f
  rw [l1In_eq, Option.bind_some]
  by_cases h : 1 ≤ s.size ∧ s.size ≤ 10
  · rw [if_pos (by simp; omega)]
    by_cases g : low s
    · rw [show (0 : Int) = ((0 : Nat) : Int) from rfl, cpStripes_good s hs g s.size k 0 (by omega) (by omega), decide_eq_true ⟨h, g⟩]
    · have g' := g
      simp only [low, Classical.not_forall] at g
      obtain ⟨j, hj, hb⟩ := g
      rw [show (0 : Int) = ((0 : Nat) : Int) from rfl, cpStripes_bad s hs j hj hb s.size k 0 (by omega) (by omega) (by omega), decide_eq_false (fun z => g' z.2)]
  · rw [if_neg (by simp; omega), decide_eq_false (fun z => h z.1)]
theorem IsStriped_good (s : ByteArray) (hs : s.size ≤ 1048576) (h : low s) (d : Nat) : ∀ (k i : Nat), i + d = s.size → d < k → impl_IsStriped.l0 k s s.size i = some (decide (1 ≤ s.size ∧ s.size ≤ 10)) := by
  induction d with
  | zero =>
    intro k i hd hk
    obtain ⟨k, rfl⟩ : ∃ m, k = m + 1 := ⟨k - 1, by omega⟩
    simp only [impl_IsStriped.l0]; rw [if_neg (by omega), within_eq, Option.bind_some]
    congr 1; rw [decide_eq_decide]; omega
  | succ d ih =>
    intro k i hd hk
    obtain ⟨k, rfl⟩ : ∃ m, k = m + 1 := ⟨k - 1, by omega⟩
    simp only [impl_IsStriped.l0]
    have := h i (by omega)
    rw [if_pos (by omega), if_pos (by omega), if_pos (by omega), if_neg (by omega), if_neg (by omega), w64 (by omega)]
    exact ih k (i + 1) (by omega) (by omega)
theorem IsStriped_bad (s : ByteArray) (hs : s.size ≤ 1048576) (j : Nat) (hj : j < s.size) (h : ¬ (97 ≤ bt s j ∧ bt s j ≤ 122)) (d : Nat) : ∀ (k i : Nat), i ≤ j → i + d = s.size → d < k → impl_IsStriped.l0 k s s.size i = some false := by
  induction d with
  | zero => intro k i hi hd hk; omega
  | succ d ih =>
    intro k i hi hd hk
    obtain ⟨k, rfl⟩ : ∃ m, k = m + 1 := ⟨k - 1, by omega⟩
    simp only [impl_IsStriped.l0]
    rw [if_pos (by omega), if_pos (by omega), if_pos (by omega)]
    by_cases h1 : bt s (i : Int) < 97
    · rw [if_pos h1]
    · by_cases h2 : bt s (i : Int) > 122
      · rw [if_neg h1, if_pos h2]
      · rw [if_neg h1, if_neg h2, w64 (by omega)]
        have hne : i ≠ j := by rintro rfl; exact h ⟨by omega, by omega⟩
        exact ih k (i + 1) (by omega) (by omega) (by omega)
theorem IsStriped_eq {k : Nat} {s : ByteArray} (hs : s.size ≤ 1048576) (hk : 1048576 < k) : impl_IsStriped.f k s = some (decide ((1 ≤ s.size ∧ s.size ≤ 10) ∧ low s)) := by
  unfold impl_IsStriped.f
  by_cases g : low s
  · rw [show (0 : Int) = ((0 : Nat) : Int) from rfl, IsStriped_good s hs g s.size k 0 (by omega) (by omega)]
    congr 1; rw [decide_eq_decide]; exact ⟨fun h => ⟨h, g⟩, fun h => h.1⟩
  · have g' := g
    simp only [low, Classical.not_forall] at g
    obtain ⟨j, hj, hb⟩ := g
    rw [show (0 : Int) = ((0 : Nat) : Int) from rfl, IsStriped_bad s hs j hj hb s.size k 0 (by omega) (by omega) (by omega), decide_eq_false (fun z => g' z.2)]

theorem FnExactIsStriped : laws_FnExactIsStriped.Pure := by
  intro s _
  obtain ⟨k, hk⟩ : ∃ k, 1048576 < k := ⟨1048577, by omega⟩
  refine ⟨k, ?_⟩
  unfold laws_FnExactIsStriped.f
  by_cases hs : (s.size : Int) > 1048576
  · rw [if_pos hs]
  · rw [if_neg hs]
    unfold spec_IsStriped.f
    rw [cpStripes_eq (by omega) hk, IsStriped_eq (by omega) hk]
    simp

end Go.Proofs.Ytkpkgpigndlakaa.Pure
