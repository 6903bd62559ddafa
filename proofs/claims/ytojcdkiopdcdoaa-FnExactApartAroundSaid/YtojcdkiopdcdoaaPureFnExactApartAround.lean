/- The program's ApartAround returns what the reference's returns, for all arguments. No condition. -/
import Derived.Test.YtojcdkiopdcdoaaPFnExactApartAroundx2
namespace Go.Proofs.Ytojcdkiopdcdoaa.Pure
open Go.RowKit Go.Proofs.Ytojcdkiopdcdoaa.PFnExactApartAround Go.Proofs.YtojcdkiopdcdoaaW.PrintWords Go.Proofs.YtojcdkiopdcdoaaW.PrintLast Go.Proofs.YtojcdkiopdcdoaaW.PrintMore
set_option linter.unusedVariables false
set_option linter.unusedSimpArgs false

-- block within
theorem within_eq (a b c : Int) : impl_within.f a b c = some (decide (b ≤ a ∧ a ≤ c)) := by
  unfold impl_within.f
  by_cases h : b ≤ a
  · rw [if_pos h]; simp [h]
  · rw [if_neg h]; simp [h]

-- block l1In
theorem l1In_eq (a b c : Int) : spec_l1In.f a b c = some (decide (b ≤ a ∧ a ≤ c)) := by
  unfold spec_l1In.f
  by_cases h : a ≥ b
  · rw [if_pos h]; simp [show b ≤ a from h]
  · rw [if_neg h]; simp [show ¬ b ≤ a from h]

-- block w64
theorem w64 {x : Int} (h : -9223372036854775808 ≤ x ∧ x ≤ 9223372036854775807) : wrap64 x = x := by
  unfold wrap64; omega

-- block tdiv
theorem tdiv_nat (a b : Nat) : Int.tdiv (a : Int) (b : Int) = ((a / b : Nat) : Int) := rfl
theorem tmod_nat (a b : Nat) : Int.tmod (a : Int) (b : Int) = ((a % b : Nat) : Int) := rfl
theorem tdiv_pos {a b : Int} (ha : 0 ≤ a) : Int.tdiv a b = a / b := Int.tdiv_eq_ediv_of_nonneg ha
theorem tmod_pos {a b : Int} (ha : 0 ≤ a) : Int.tmod a b = a % b := Int.tmod_eq_emod_of_nonneg ha

-- block spiral
def goodB (a b c : Int) : Bool := decide ((1 ≤ a ∧ a ≤ 400) ∧ (3 ≤ b ∧ b ≤ 60) ∧ (1 ≤ c ∧ c ≤ 300))
theorem spGood_eq (a b c : Int) : spec_spGood.f a b c = some (goodB a b c) := by
  unfold spec_spGood.f goodB
  rw [l1In_eq, l1In_eq, l1In_eq]
  simp only [Option.bind_some]
  by_cases h : 1 ≤ a ∧ a ≤ 400
  · by_cases g : 3 ≤ b ∧ b ≤ 60
    · rw [if_pos (decide_eq_true h), if_pos (decide_eq_true g)]; congr 1; rw [decide_eq_decide]; omega
    · rw [if_pos (decide_eq_true h), if_neg (by simpa using g)]; congr 1; rw [eq_comm, decide_eq_false_iff_not]; omega
  · rw [if_neg (by simpa using h)]; congr 1; rw [eq_comm, decide_eq_false_iff_not]; omega

-- block spStep
def stepB (a b c s : Int) : Bool := goodB a b c && decide (1 ≤ s ∧ s ≤ a)
theorem spStep_eq (a b c s : Int) : spec_spStep.f a b c s = some (stepB a b c s) := by
  unfold spec_spStep.f stepB
  rw [spGood_eq, Option.bind_some]
  cases goodB a b c
  · simp
  · rw [if_pos rfl, l1In_eq]; simp
theorem stepB_true {a b c s : Int} (h : stepB a b c s = true) : ((1 ≤ a ∧ a ≤ 400) ∧ (3 ≤ b ∧ b ≤ 60) ∧ (1 ≤ c ∧ c ≤ 300)) ∧ (1 ≤ s ∧ s ≤ a) := by
  unfold stepB goodB at h
  simpa only [Bool.and_eq_true, decide_eq_true_eq] using h

-- block IsSpiral
theorem IsSpiral_eq (a b c : Int) : impl_IsSpiral.f a b c = some (goodB a b c) := by
  unfold impl_IsSpiral.f goodB
  rw [within_eq, within_eq, within_eq]
  simp only [Option.bind_some]
  by_cases h : 1 ≤ a ∧ a ≤ 400
  · by_cases g : 3 ≤ b ∧ b ≤ 60
    · rw [if_pos (decide_eq_true h), if_pos (decide_eq_true g)]; congr 1; rw [decide_eq_decide]; omega
    · rw [if_pos (decide_eq_true h), if_neg (by simpa using g)]; congr 1; rw [eq_comm, decide_eq_false_iff_not]; omega
  · rw [if_neg (by simpa using h)]; congr 1; rw [eq_comm, decide_eq_false_iff_not]; omega

-- block has
theorem has_l0 (a b c : Int) (l : List Int) (hl : l.length ≤ 100) (d : Nat) : ∀ (k i : Nat), i + d = l.length → d < k → impl_Spiral_has.l0 k l l.length i a b c = some (((l.drop i).all fun n => decide (1 ≤ n ∧ n ≤ a)) && goodB a b c) := by
  induction d with
  | zero =>
    intro k i hd hk
    obtain ⟨k, rfl⟩ : ∃ m, k = m + 1 := ⟨k - 1, by omega⟩
    simp only [impl_Spiral_has.l0]; rw [if_neg (by omega), List.drop_eq_nil_of_le (by omega), IsSpiral_eq]; simp
  | succ d ih =>
    intro k i hd hk
    obtain ⟨k, rfl⟩ : ∃ m, k = m + 1 := ⟨k - 1, by omega⟩
    simp only [impl_Spiral_has.l0]
    have h : i < l.length := by omega
    have e : rd l i = l[i] := by simp [rd, List.getD_eq_getElem?_getD, List.getElem?_eq_getElem h]
    rw [if_pos (by omega), if_pos (by omega), if_pos (by omega), within_eq, Option.bind_some, List.drop_eq_getElem_cons h, e, List.all_cons]
    by_cases g : 1 ≤ l[i] ∧ l[i] ≤ a
    · rw [if_pos (decide_eq_true g), w64 (by omega), decide_eq_true g, Bool.true_and]
      exact ih k (i + 1) (by omega) (by omega)
    · rw [if_neg (by simpa using g), decide_eq_false g, Bool.false_and, Bool.false_and]
theorem has_eq {k : Nat} {l : List Int} (a b c : Int) (hl : l.length ≤ 100) (hk : 100 < k) : impl_Spiral_has.f k a b c l = some ((l.all fun n => decide (1 ≤ n ∧ n ≤ a)) && goodB a b c) := by
  unfold impl_Spiral_has.f
  exact has_l0 a b c l hl l.length k 0 (by omega) (by omega)
theorem has_one {k : Nat} (a b c s : Int) (hk : 100 < k) : impl_Spiral_has.f k a b c [s] = some (stepB a b c s) := by
  rw [has_eq a b c (by simp) hk]; unfold stepB; rw [Bool.and_comm]; simp
theorem has_two {k : Nat} (a b c s t : Int) (hk : 100 < k) : impl_Spiral_has.f k a b c [s, t] = some (stepB a b c s && stepB a b c t) := by
  rw [has_eq a b c (by simp) hk]; unfold stepB
  cases goodB a b c <;> simp

-- block gcd
theorem gcd_l0 (b : Nat) : ∀ (k a : Nat), b < k → impl_gcd.l0 k a b = some ((Nat.gcd a b : Nat) : Int) := by
  induction b using Nat.strongRecOn with
  | _ b ih =>
    intro k a hk
    obtain ⟨k, rfl⟩ : ∃ m, k = m + 1 := ⟨k - 1, by omega⟩
    simp only [impl_gcd.l0]
    by_cases h : b = 0
    · subst h; simp
    · rw [if_neg (by omega), tmod_nat, ih (a % b) (Nat.mod_lt _ (by omega)) k b (by have := Nat.mod_lt a (show 0 < b by omega); omega)]
      rw [Nat.gcd_comm b, ← Nat.gcd_rec, Nat.gcd_comm]
theorem gcd_eq {k a b : Nat} (h : b < k) : impl_gcd.f k a b = some ((Nat.gcd a b : Nat) : Int) := gcd_l0 b k a h

-- block part
theorem part_eq {k n m : Nat} (hn : n ≤ 1000000) (hm : m ≤ 1000000) (hm0 : 0 < m) (hk : m < k) : impl_part.f k n m = some (((n / Nat.gcd n m : Nat) : Int), ((m / Nat.gcd n m : Nat) : Int), true) := by
  unfold impl_part.f
  have hg : 0 < Nat.gcd n m := Nat.gcd_pos_of_pos_right _ hm0
  have h1 := Nat.div_le_self n (Nat.gcd n m)
  have h2 := Nat.div_le_self m (Nat.gcd n m)
  rw [if_neg (by omega), gcd_eq hk, Option.bind_some, if_neg (by omega), tdiv_nat, tdiv_nat]
  generalize n / Nat.gcd n m = x at *
  generalize m / Nat.gcd n m = y at *
  rw [w64 (by omega), w64 (by omega)]

-- block spLow
theorem spLow_l0 (n m : Nat) (hn : n ≤ 1000000) (hm : m ≤ 1000000) (b : Nat) : ∀ (k a : Nat), b < k → 0 < Nat.gcd a b → spec_spLow.l0 k n m a b = some (((n / Nat.gcd a b : Nat) : Int), ((m / Nat.gcd a b : Nat) : Int)) := by
  induction b using Nat.strongRecOn with
  | _ b ih =>
    intro k a hk hg
    obtain ⟨k, rfl⟩ : ∃ x, k = x + 1 := ⟨k - 1, by omega⟩
    simp only [spec_spLow.l0]
    by_cases h : b = 0
    · subst h
      rw [Nat.gcd_zero_right] at hg ⊢
      have h1 := Nat.div_le_self n a
      have h2 := Nat.div_le_self m a
      rw [if_neg (by omega), if_neg (by omega), tdiv_nat, tdiv_nat]
      generalize n / a = x at *
      generalize m / a = y at *
      rw [w64 (by omega), w64 (by omega)]
    · have e : Nat.gcd a b = Nat.gcd b (a % b) := by rw [Nat.gcd_comm b, ← Nat.gcd_rec, Nat.gcd_comm]
      rw [if_pos (by omega), if_neg (by omega), tmod_nat, ih (a % b) (Nat.mod_lt _ (by omega)) k b (by have := Nat.mod_lt a (show 0 < b by omega); omega) (by rw [← e]; exact hg), e]
theorem spLow_eq {k n m : Nat} (hn : n ≤ 1000000) (hm : m ≤ 1000000) (hm0 : 0 < m) (hk : m < k) : spec_spLow.f k n m = some (((n / Nat.gcd n m : Nat) : Int), ((m / Nat.gcd n m : Nat) : Int)) :=
  spLow_l0 n m hn hm m k n hk (Nat.gcd_pos_of_pos_right _ hm0)

-- block mxmn
theorem mx_eq (a b : Int) : mx a b = max a b := by unfold mx; omega
theorem mn_eq (a b : Int) : mn a b = min a b := by unfold mn; omega

theorem FnExactApartAround : laws_FnExactApartAround.Pure := by
  intro a b c s t _ _ _ _ _
  obtain ⟨k, hk⟩ : ∃ k, 2000 < k := ⟨2001, by omega⟩
  refine ⟨k + 1, ?_⟩
  unfold laws_FnExactApartAround.f laws_toSpiral.f spec_ApartAround.f impl_ApartAround.f
  simp only [Option.bind_some]
  rw [has_two a b c s t (by omega), spStep_eq, spStep_eq]
  simp only [Option.bind_some]
  cases h : stepB a b c s with
  | false => simp [spec_ApartAround.j0]
  | true =>
    cases h2 : stepB a b c t with
    | false => simp [spec_ApartAround.j0]
    | true =>
      have g := stepB_true h
      have g2 := stepB_true h2
      obtain ⟨b, rfl⟩ := Int.eq_ofNat_of_zero_le (show 0 ≤ b by omega)
      rw [if_pos rfl, if_pos (by rfl), spec_ApartAround.j0, if_neg (by decide), w64 (x := s - t) (by omega), w64 (x := t - s) (by omega)]
      unfold spec_l1Abs.f spec_l1Most.f spec_l1Least.f
      rw [w64 (x := -(s - t)) (by omega), mx_eq, mn_eq]
      obtain ⟨e, he⟩ : ∃ e : Nat, (e : Int) = max (s - t) (t - s) := ⟨(max (s - t) (t - s)).toNat, by omega⟩
      have e1 : (if s - t > -(s - t) then some (s - t) else some (-(s - t))) = some (e : Int) := by
        by_cases c0 : s - t > -(s - t)
        · rw [if_pos c0]; congr 1; omega
        · rw [if_neg c0]; congr 1; omega
      rw [e1, ← he, Option.bind_some, Option.bind_some, if_neg (show ¬ (b : Int) = 0 by omega), if_neg (show ¬ (b : Int) = 0 by omega), tmod_nat]
      have hm := Nat.mod_lt e (show 0 < b by omega)
      generalize e % b = m at *
      rw [w64 (by omega)]
      have e2 : (if (m : Int) < (b : Int) - m then some (m : Int) else some ((b : Int) - m)) = some ((min m (b - m) : Nat) : Int) := by
        by_cases c0 : (m : Int) < (b : Int) - m
        · rw [if_pos c0]; congr 1; omega
        · rw [if_neg c0]; congr 1; omega
      rw [e2, Option.bind_some, show min (m : Int) ((b : Int) - m) = ((min m (b - m) : Nat) : Int) from by omega]
      rw [part_eq (by omega) (by omega) (by omega) (by omega), spLow_eq (by omega) (by omega) (by omega) (by omega)]
      simp

end Go.Proofs.Ytojcdkiopdcdoaa.Pure
