/- The program's SideOf returns what the reference's returns, for all arguments. No condition. -/
import Derived.Test.YtkpkgpigndlakaaPFnExactSideOfx1
namespace Go.Proofs.Ytkpkgpigndlakaa.Pure
open Go.RowKit Go.Proofs.Ytkpkgpigndlakaa.PFnExactSideOf Go.Proofs.YtkpkgpigndlakaaW.PrintWords Go.Proofs.YtkpkgpigndlakaaW.PrintLast

-- block within
theorem within_eq (a b c : Int) : impl_within.f a b c = some (decide (b ≤ a ∧ a ≤ c)) := by
  unfold impl_within.f
  by_cases h : b ≤ a
  · rw [if_pos h]; simp [h]
  · rw [if_neg h]; simp [h]

-- block l1In
theorem l1In_eq (a b c : Int) : spec_l1In.f a b c = some (decide (b ≤ a ∧ a ≤ c)) := by
  unfold spec_l1In.f
  by_cases h : a ≥ b
  · rw [if_pos h]; simp [show b ≤ a from h]
  · rw [if_neg h]; simp [show ¬ b ≤ a from h]

-- block w64
theorem w64 {x : Int} (h : -9223372036854775808 ≤ x ∧ x ≤ 9223372036854775807) : wrap64 x = x := by
  unfold wrap64; omega

-- block tdiv
theorem tdiv_nat (a b : Nat) : Int.tdiv (a : Int) (b : Int) = ((a / b : Nat) : Int) := rfl
theorem tmod_nat (a b : Nat) : Int.tmod (a : Int) (b : Int) = ((a % b : Nat) : Int) := rfl
theorem tdiv_pos {a b : Int} (ha : 0 ≤ a) : Int.tdiv a b = a / b := Int.tdiv_eq_ediv_of_nonneg ha
theorem tmod_pos {a b : Int} (ha : 0 ≤ a) : Int.tmod a b = a % b := Int.tmod_eq_emod_of_nonneg ha

-- block spiral
def goodB (a b c : Int) : Bool := decide ((1 ≤ a ∧ a ≤ 400) ∧ (3 ≤ b ∧ b ≤ 60) ∧ (1 ≤ c ∧ c ≤ 300))
theorem spGood_eq (a b c : Int) : spec_spGood.f a b c = some (goodB a b c) := by
  unfold spec_spGood.f goodB
  rw [l1In_eq, l1In_eq, l1In_eq]
  simp only [Option.bind_some]
  by_cases h : 1 ≤ a ∧ a ≤ 400
  · by_cases g : 3 ≤ b ∧ b ≤ 60
    · rw [if_pos (decide_eq_true h), if_pos (decide_eq_true g)]; congr 1; rw [decide_eq_decide]; omega
    · rw [if_pos (decide_eq_true h), if_neg (by simpa using g)]; congr 1; rw [eq_comm, decide_eq_false_iff_not]; omega
  · rw [if_neg (by simpa using h)]; congr 1; rw [eq_comm, decide_eq_false_iff_not]; omega

-- block spStep
def stepB (a b c s : Int) : Bool := goodB a b c && decide (1 ≤ s ∧ s ≤ a)
theorem spStep_eq (a b c s : Int) : spec_spStep.f a b c s = some (stepB a b c s) := by
  unfold spec_spStep.f stepB
  rw [spGood_eq, Option.bind_some]
  cases goodB a b c
  · simp
  · rw [if_pos rfl, l1In_eq]; simp
theorem stepB_true {a b c s : Int} (h : stepB a b c s = true) : ((1 ≤ a ∧ a ≤ 400) ∧ (3 ≤ b ∧ b ≤ 60) ∧ (1 ≤ c ∧ c ≤ 300)) ∧ (1 ≤ s ∧ s ≤ a) := by
  unfold stepB goodB at h
  simpa only [Bool.and_eq_true, decide_eq_true_eq] using h

-- block IsSpiral
theorem IsSpiral_eq (a b c : Int) : impl_IsSpiral.f a b c = some (goodB a b c) := by
  unfold impl_IsSpiral.f goodB
  rw [within_eq, within_eq, within_eq]
  simp only [Option.bind_some]
  by_cases h : 1 ≤ a ∧ a ≤ 400
  · by_cases g : 3 ≤ b ∧ b ≤ 60
    · rw [if_pos (decide_eq_true h), if_pos (decide_eq_true g)]; congr 1; rw [decide_eq_decide]; omega
    · rw [if_pos (decide_eq_true h), if_neg (by simpa using g)]; congr 1; rw [eq_comm, decide_eq_false_iff_not]; omega
  · rw [if_neg (by simpa using h)]; congr 1; rw [eq_comm, decide_eq_false_iff_not]; omega

-- block has
theorem has_l0 (a b c : Int) (l : List Int) (hl : l.length ≤ 100) (d : Nat) : ∀ (k i : Nat), i + d = l.length → d < k → impl_Spiral_has.l0 k l l.length i a b c = some (((l.drop i).all fun n => decide (1 ≤ n ∧ n ≤ a)) && goodB a b c) := by
  induction d with
  | zero =>
    intro k i hd hk
    obtain ⟨k, rfl⟩ : ∃ m, k = m + 1 := ⟨k - 1, by omega⟩
    simp only [impl_Spiral_has.l0]; rw [if_neg (by omega), List.drop_eq_nil_of_le (by omega), IsSpiral_eq]; simp
  | succ d ih =>
    intro k i hd hk
    obtain ⟨k, rfl⟩ : ∃ m, k = m + 1 := ⟨k - 1, by omega⟩
    simp only [impl_Spiral_has.l0]
    have h : i < l.length := by omega
    have e : rd l i = l[i] := by simp [rd, List.getD_eq_getElem?_getD, List.getElem?_eq_getElem h]
    rw [if_pos (by omega), if_pos (by omega), if_pos (by omega), within_eq, Option.bind_some, List.drop_eq_getElem_cons h, e, List.all_cons]
    by_cases g : 1 ≤ l[i] ∧ l[i] ≤ a
    · rw [if_pos (decide_eq_true g), w64 (by omega), decide_eq_true g, Bool.true_and]
      exact ih k (i + 1) (by omega) (by omega)
    · rw [if_neg (by simpa using g), decide_eq_false g, Bool.false_and, Bool.false_and]
theorem has_eq {k : Nat} {l : List Int} (a b c : Int) (hl : l.length ≤ 100) (hk : 100 < k) : impl_Spiral_has.f k a b c l = some ((l.all fun n => decide (1 ≤ n ∧ n ≤ a)) && goodB a b c) := by
  unfold impl_Spiral_has.f
  exact has_l0 a b c l hl l.length k 0 (by omega) (by omega)
theorem has_one {k : Nat} (a b c s : Int) (hk : 100 < k) : impl_Spiral_has.f k a b c [s] = some (stepB a b c s) := by
  rw [has_eq a b c (by simp) hk]; unfold stepB; rw [Bool.and_comm]; simp
theorem has_two {k : Nat} (a b c s t : Int) (hk : 100 < k) : impl_Spiral_has.f k a b c [s, t] = some (stepB a b c s && stepB a b c t) := by
  rw [has_eq a b c (by simp) hk]; unfold stepB
  cases goodB a b c <;> simp

-- block angle
theorem angle_eq (a c : Int) (R s : Nat) (hR : 0 < R) (hs : 0 < s) (hs2 : s ≤ 1000) : impl_Spiral_angle.f a R c s = some (((s - 1) % R : Nat) : Int) := by
  unfold impl_Spiral_angle.f
  rw [if_neg (by omega), w64 (by omega), show (s : Int) - 1 = ((s - 1 : Nat) : Int) from by omega, tmod_nat]

-- block side
def sideN (R s : Nat) : Nat := (4 * ((s - 1) % R) / R + if 2 * (4 * ((s - 1) % R) % R) > R then 1 else 0) % 4
theorem sideN_lt (R s : Nat) : sideN R s < 4 := Nat.mod_lt _ (by omega)
theorem side_eq (a c : Int) (R s : Nat) (hR : 0 < R) (hR2 : R ≤ 100) (hs : 0 < s) (hs2 : s ≤ 1000) : impl_Spiral_side.f a R c s = some (sideN R s : Int) := by
  unfold impl_Spiral_side.f sideN
  rw [angle_eq a c R s hR hs hs2, Option.bind_some, if_neg (by omega)]
  have hat := Nat.mod_lt (s - 1) hR
  generalize (s - 1) % R = t at *
  have hr := Nat.mod_lt (4 * t) hR
  have hq : 4 * t / R ≤ 4 * t := Nat.div_le_self _ _
  rw [w64 (x := 4 * (t : Int)) (by omega), show 4 * (t : Int) = ((4 * t : Nat) : Int) from by omega, tmod_nat, tdiv_nat]
  generalize 4 * t / R = q at *
  generalize 4 * t % R = r at *
  rw [w64 (x := 2 * (r : Int)) (by omega), w64 (x := (q : Int)) (by omega), w64 (by omega)]
  by_cases h : 2 * r > R
  · rw [if_pos (by omega), if_pos h, show (q : Int) + 1 = ((q + 1 : Nat) : Int) from rfl, show (4 : Int) = ((4 : Nat) : Int) from rfl, tmod_nat]
  · rw [if_neg (by omega), if_neg h, show (4 : Int) = ((4 : Nat) : Int) from rfl, tmod_nat]; simp
theorem spSide_l0 (a c : Int) (R t q r e : Nat) (hR : 0 < R) (hR2 : R ≤ 100) (ht : t < R) (hn : R * q + r = 4 * t) (hr : r < R) (he : e = q + if 2 * r > R then 1 else 0) (d : Nat) : ∀ (k j : Nat), j + d = e → d < k →
    spec_spSide.l0 k t j a R c = some ((e % 4 : Nat) : Int) := by
  have hq4 : q ≤ 400 := by
    have : 1 * q ≤ R * q := Nat.mul_le_mul_right _ hR
    omega
  have lin : ∀ j : Nat, R * (2 * j + 1) = 2 * (R * j) + R := fun j => by rw [Nat.mul_add, Nat.mul_one, Nat.mul_left_comm]
  induction d with
  | zero =>
    intro k j hd hk
    obtain ⟨k, rfl⟩ : ∃ m, k = m + 1 := ⟨k - 1, by omega⟩
    simp only [spec_spSide.l0]
    have hj : j ≤ 401 := by split at he <;> omega
    have hm : R * (2 * j + 1) ≤ 100 * 1000 := Nat.mul_le_mul hR2 (by omega)
    have key : 8 * t ≤ R * (2 * j + 1) := by
      rw [lin]
      have : j = e := by omega
      subst this
      rw [he]
      by_cases h : 2 * r > R
      · rw [if_pos h, Nat.mul_add]; omega
      · rw [if_neg h, Nat.add_zero]; omega
    rw [w64 (x := 8 * (t : Int)) (by omega), w64 (x := 2 * (j : Int)) (by omega), w64 (x := 2 * (j : Int) + 1) (by omega), show 2 * (j : Int) + 1 = ((2 * j + 1 : Nat) : Int) from by omega, ← Int.natCast_mul, w64 (by omega), if_neg (by omega), show (4 : Int) = ((4 : Nat) : Int) from rfl, tmod_nat, show j = e from by omega]
  | succ d ih =>
    intro k j hd hk
    obtain ⟨k, rfl⟩ : ∃ m, k = m + 1 := ⟨k - 1, by omega⟩
    simp only [spec_spSide.l0]
    have hj : j ≤ 401 := by split at he <;> omega
    have hm : R * (2 * j + 1) ≤ 100 * 1000 := Nat.mul_le_mul hR2 (by omega)
    have key : 8 * t > R * (2 * j + 1) := by
      rw [lin]
      by_cases h : j < q
      · have : R * (j + 1) ≤ R * q := Nat.mul_le_mul_left _ h
        rw [Nat.mul_add] at this
        omega
      · have hjq : j = q := by split at he <;> omega
        subst hjq
        have : 2 * r > R := by
          by_cases h2 : 2 * r > R
          · exact h2
          · rw [if_neg h2] at he; omega
        omega
    rw [w64 (x := 8 * (t : Int)) (by omega), w64 (x := 2 * (j : Int)) (by omega), w64 (x := 2 * (j : Int) + 1) (by omega), show 2 * (j : Int) + 1 = ((2 * j + 1 : Nat) : Int) from by omega, ← Int.natCast_mul, w64 (x := ((R * (2 * j + 1) : Nat) : Int)) (by omega), if_pos (by omega), w64 (by omega)]
    exact ih k (j + 1) (by omega) (by omega)
theorem spSide_eq {k : Nat} (a c : Int) (R s : Nat) (hR : 0 < R) (hR2 : R ≤ 100) (hs : 0 < s) (hs2 : s ≤ 1000) (hk : 1000 < k) : spec_spSide.f k a R c s = some (sideN R s : Int) := by
  unfold spec_spSide.f sideN
  have hat := Nat.mod_lt (s - 1) hR
  rw [if_neg (by omega), w64 (by omega), show (s : Int) - 1 = ((s - 1 : Nat) : Int) from by omega, tmod_nat]
  generalize (s - 1) % R = t at *
  have hr := Nat.mod_lt (4 * t) hR
  have hn := Nat.div_add_mod (4 * t) R
  have hq : 4 * t / R ≤ 4 * t := Nat.div_le_self _ _
  generalize 4 * t / R = q at *
  generalize 4 * t % R = r at *
  exact spSide_l0 a c R t q r _ hR hR2 hat hn hr rfl (q + if 2 * r > R then 1 else 0) k 0 (by omega) (by split <;> omega)

theorem FnExactSideOf : laws_FnExactSideOf.Pure := by
  intro a b c s _ _ _ _
  obtain ⟨k, hk⟩ : ∃ k, 2000 < k := ⟨2001, by omega⟩
  refine ⟨k, ?_⟩
  unfold laws_FnExactSideOf.f laws_toSpiral.f spec_SideOf.f impl_SideOf.f
  simp only [Option.bind_some]
  generalize (⟨#[110, 101, 115, 119]⟩ : ByteArray) = S
  rw [has_one a b c s (by omega), spStep_eq]
  simp only [Option.bind_some]
  cases h : stepB a b c s with
  | false => simp
  | true =>
    have g := stepB_true h
    obtain ⟨b, rfl⟩ := Int.eq_ofNat_of_zero_le (show 0 ≤ b by omega)
    obtain ⟨s, rfl⟩ := Int.eq_ofNat_of_zero_le (show 0 ≤ s by omega)
    rw [side_eq a c b s (by omega) (by omega) (by omega) (by omega), spSide_eq a c b s (by omega) (by omega) (by omega) (by omega) (by omega)]
    have hl := sideN_lt b s
    rw [if_pos rfl, Option.bind_some, w64 (by omega), if_pos (by omega), if_pos (by omega), if_pos (by omega)]
    simp

end Go.Proofs.Ytkpkgpigndlakaa.Pure
