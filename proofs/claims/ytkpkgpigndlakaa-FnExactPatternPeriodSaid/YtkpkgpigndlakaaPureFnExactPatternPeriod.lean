/- The program's PatternPeriod returns what the reference's returns, for all arguments. No condition. -/
import Derived.Test.YtkpkgpigndlakaaPFnExactPatternPeriodx1
namespace Go.Proofs.Ytkpkgpigndlakaa.Pure
open Go.RowKit Go.Proofs.Ytkpkgpigndlakaa.PFnExactPatternPeriod Go.Proofs.YtkpkgpigndlakaaW.PrintWords Go.Proofs.YtkpkgpigndlakaaW.PrintLast

-- block within
theorem within_eq (a b c : Int) : impl_within.f a b c = some (decide (b ≤ a ∧ a ≤ c)) := by
  unfold impl_within.f
  by_cases h : b ≤ a
  · rw [if_pos h]; simp [h]
  · rw [if_neg h]; simp [h]

-- block isRoll
theorem isRoll_eq (a : Int) : impl_isRoll.f a = some (decide (1 ≤ a ∧ a ≤ 2000)) := by
  unfold impl_isRoll.f; rw [within_eq]; rfl

-- block isNeed
theorem isNeed_eq (a : Int) : impl_isNeed.f a = some (decide (1 ≤ a ∧ a ≤ 100)) := by
  unfold impl_isNeed.f; rw [within_eq]; rfl

-- block l1In
theorem l1In_eq (a b c : Int) : spec_l1In.f a b c = some (decide (b ≤ a ∧ a ≤ c)) := by
  unfold spec_l1In.f
  by_cases h : a ≥ b
  · rw [if_pos h]; simp [show b ≤ a from h]
  · rw [if_neg h]; simp [show ¬ b ≤ a from h]

-- block cpNeed
theorem cpNeed_eq (a : Int) : spec_cpNeed.f a = some (decide (1 ≤ a ∧ a ≤ 100)) := by
  unfold spec_cpNeed.f; rw [l1In_eq]; rfl

-- block cpPattern
theorem cpPattern_eq (a b : Int) : spec_cpPattern.f a b = some (decide ((1 ≤ a ∧ a ≤ 100) ∧ (1 ≤ b ∧ b ≤ 2000))) := by
  unfold spec_cpPattern.f; rw [cpNeed_eq, Option.bind_some]
  by_cases h : 1 ≤ a ∧ a ≤ 100
  · rw [if_pos (decide_eq_true h), l1In_eq]; simp [h]
  · rw [if_neg (by simp; omega)]; simp [h]

-- block tdiv
theorem tdiv_nat (a b : Nat) : Int.tdiv (a : Int) (b : Int) = ((a / b : Nat) : Int) := rfl
theorem tmod_nat (a b : Nat) : Int.tmod (a : Int) (b : Int) = ((a % b : Nat) : Int) := rfl
theorem tdiv_pos {a b : Int} (ha : 0 ≤ a) : Int.tdiv a b = a / b := Int.tdiv_eq_ediv_of_nonneg ha
theorem tmod_pos {a b : Int} (ha : 0 ≤ a) : Int.tmod a b = a % b := Int.tmod_eq_emod_of_nonneg ha

-- block gcd
theorem gcd_l0 (b : Nat) : ∀ (k a : Nat), b < k → impl_gcd.l0 k a b = some ((Nat.gcd a b : Nat) : Int) := by
  induction b using Nat.strongRecOn with
  | _ b ih =>
    intro k a hk
    obtain ⟨k, rfl⟩ : ∃ m, k = m + 1 := ⟨k - 1, by omega⟩
    simp only [impl_gcd.l0]
    by_cases h : b = 0
    · subst h; simp
    · rw [if_neg (by omega), tmod_nat, ih (a % b) (Nat.mod_lt _ (by omega)) k b (by have := Nat.mod_lt a (show 0 < b by omega); omega)]
      rw [Nat.gcd_comm b, ← Nat.gcd_rec, Nat.gcd_comm]
theorem gcd_eq {k a b : Nat} (h : b < k) : impl_gcd.f k a b = some ((Nat.gcd a b : Nat) : Int) := gcd_l0 b k a h

-- block period
theorem period_dvd (a b i : Nat) (hb : 0 < b) : b ∣ i * a ↔ b / Nat.gcd a b ∣ i := by
  have hg : 0 < Nat.gcd a b := Nat.gcd_pos_of_pos_right _ hb
  obtain ⟨a', ha⟩ := Nat.gcd_dvd_left a b
  obtain ⟨b', hb'⟩ := Nat.gcd_dvd_right a b
  have e : b / Nat.gcd a b = b' := Nat.div_eq_of_eq_mul_right hg hb'
  have e2 : a / Nat.gcd a b = a' := Nat.div_eq_of_eq_mul_right hg ha
  have hc : Nat.Coprime a' b' := by
    have := Nat.coprime_div_gcd_div_gcd hg
    rwa [e, e2] at this
  rw [e]
  constructor
  · intro h
    have h2 : Nat.gcd a b * b' ∣ Nat.gcd a b * (i * a') := by
      rw [← hb', show Nat.gcd a b * (i * a') = i * (Nat.gcd a b * a') from by ac_rfl, ← ha]; exact h
    have h3 := Nat.dvd_of_mul_dvd_mul_left hg h2
    exact Nat.Coprime.dvd_of_dvd_mul_right hc.symm h3
  · rintro ⟨c, rfl⟩
    refine ⟨c * a', ?_⟩
    calc b' * c * a = b' * c * (Nat.gcd a b * a') := by rw [← ha]
      _ = (Nat.gcd a b * b') * (c * a') := by ac_rfl
      _ = b * (c * a') := by rw [← hb']
theorem period_pos (a b : Nat) (hb : 0 < b) : 0 < b / Nat.gcd a b :=
  Nat.div_pos (Nat.le_of_dvd hb (Nat.gcd_dvd_right a b)) (Nat.gcd_pos_of_pos_right _ hb)

-- block w64
theorem w64 {x : Int} (h : -9223372036854775808 ≤ x ∧ x ≤ 9223372036854775807) : wrap64 x = x := by
  unfold wrap64; omega

-- block cpPeriod
theorem cpPeriod_l0 (a b : Nat) (ha : a ≤ 100) (hb : 0 < b) (hb2 : b ≤ 2000) (d : Nat) : ∀ (k i : Nat), 0 < i → i + d = b / Nat.gcd a b → d < k →
    spec_cpPeriod.l0 k a b i = some ((b / Nat.gcd a b : Nat) : Int) := by
  have hP : b / Nat.gcd a b ≤ b := Nat.div_le_self _ _
  induction d with
  | zero =>
    intro k i hi hd hk
    obtain ⟨k, rfl⟩ : ∃ m, k = m + 1 := ⟨k - 1, by omega⟩
    simp only [spec_cpPeriod.l0]
    have hm : (i : Int) * a ≤ 2000 * 100 := Int.mul_le_mul (by omega) (by omega) (by omega) (by omega)
    have h0 : (0 : Int) ≤ (i : Int) * a := Int.mul_nonneg (by omega) (by omega)
    rw [if_neg (by omega), w64 (by omega), ← Int.natCast_mul, tmod_nat, if_pos, ← hd]; rfl
    have := (period_dvd a b i hb).2 ⟨1, by omega⟩
    rw [Nat.mod_eq_zero_of_dvd this]; rfl
  | succ d ih =>
    intro k i hi hd hk
    obtain ⟨k, rfl⟩ : ∃ m, k = m + 1 := ⟨k - 1, by omega⟩
    simp only [spec_cpPeriod.l0]
    have hm : (i : Int) * a ≤ 2000 * 100 := Int.mul_le_mul (by omega) (by omega) (by omega) (by omega)
    have h0 : (0 : Int) ≤ (i : Int) * a := Int.mul_nonneg (by omega) (by omega)
    rw [if_neg (by omega), w64 (by omega), ← Int.natCast_mul, tmod_nat, if_neg, w64 (by omega)]
    · exact ih k (i + 1) (by omega) (by omega) (by omega)
    · intro h
      have h1 : b ∣ i * a := Nat.dvd_of_mod_eq_zero (by omega)
      have h2 := Nat.le_of_dvd hi ((period_dvd a b i hb).1 h1)
      omega
theorem cpPeriod_eq {k a b : Nat} (ha : a ≤ 100) (hb : 0 < b) (hb2 : b ≤ 2000) (hk : 2000 < k) : spec_cpPeriod.f k a b = some ((b / Nat.gcd a b : Nat) : Int) := by
  have hP : b / Nat.gcd a b ≤ b := Nat.div_le_self _ _
  have := period_pos a b hb
  exact cpPeriod_l0 a b ha hb hb2 (b / Nat.gcd a b - 1) k 1 (by omega) (by omega) (by omega)

theorem FnExactPatternPeriod : laws_FnExactPatternPeriod.Pure := by
  intro a b _ _
  refine ⟨2001, ?_⟩
  generalize hk0 : (2001 : Nat) = k
  have hk : 2000 < k := by omega
  unfold laws_FnExactPatternPeriod.f spec_PatternPeriod.f impl_PatternPeriod.f
  rw [isRoll_eq, cpPattern_eq, isNeed_eq]
  simp only [Option.bind_some]
  by_cases h : 1 ≤ a ∧ a ≤ 100
  · by_cases g : 1 ≤ b ∧ b ≤ 2000
    · obtain ⟨m, rfl⟩ := Int.eq_ofNat_of_zero_le (show 0 ≤ a by omega)
      obtain ⟨n, rfl⟩ := Int.eq_ofNat_of_zero_le (show 0 ≤ b by omega)
      rw [if_pos (by simp; omega), if_pos (by simp; omega), if_pos (by simp; omega), cpPeriod_eq (by omega) (by omega) (by omega) hk, gcd_eq (by omega)]
      simp only [Option.bind_some]
      have hg : 0 < Nat.gcd m n := Nat.gcd_pos_of_pos_right _ (by omega)
      have hP : n / Nat.gcd m n ≤ n := Nat.div_le_self _ _
      rw [if_neg (by omega), tdiv_nat]
      generalize n / Nat.gcd m n = q at *
      rw [w64 (by omega)]
      simp
    · simp [h, g]
  · simp [h]

end Go.Proofs.Ytkpkgpigndlakaa.Pure
