/- FnSpiralsTurnOfAll: proved. No condition. -/
import Derived.Test.YtbbkbooiefoihaaSpiMain
namespace Go.Proofs.Ytbbkbooiefoihaa.Pure
open Go.RowKit Go.Proofs.Ytbbkbooiefoihaa.PFnSpiralsTurnOfAll Go.Proofs.YtbbkbooiefoihaaW.PrintWords Go.Proofs.YtbbkbooiefoihaaW.PrintLast Go.Proofs.YtbbkbooiefoihaaW.PrintMore
set_option linter.unusedVariables false
set_option linter.unusedSimpArgs false

-- block within
theorem within_eq (a b c : Int) : impl_within.f a b c = some (decide (b ≤ a ∧ a ≤ c)) := by
  unfold impl_within.f
  by_cases h : b ≤ a
  · rw [if_pos h]; simp [h]
  · rw [if_neg h]; simp [h]

-- block l1In
theorem l1In_eq (a b c : Int) : spec_l1In.f a b c = some (decide (b ≤ a ∧ a ≤ c)) := by
  unfold spec_l1In.f
  by_cases h : a ≥ b
  · rw [if_pos h]; simp [show b ≤ a from h]
  · rw [if_neg h]; simp [show ¬ b ≤ a from h]

-- block w64
theorem w64 {x : Int} (h : -9223372036854775808 ≤ x ∧ x ≤ 9223372036854775807) : wrap64 x = x := by
  unfold wrap64; omega

-- block tdiv
theorem tdiv_nat (a b : Nat) : Int.tdiv (a : Int) (b : Int) = ((a / b : Nat) : Int) := rfl
theorem tmod_nat (a b : Nat) : Int.tmod (a : Int) (b : Int) = ((a % b : Nat) : Int) := rfl
theorem tdiv_pos {a b : Int} (ha : 0 ≤ a) : Int.tdiv a b = a / b := Int.tdiv_eq_ediv_of_nonneg ha
theorem tmod_pos {a b : Int} (ha : 0 ≤ a) : Int.tmod a b = a % b := Int.tmod_eq_emod_of_nonneg ha

-- block spiral
def goodB (a b c : Int) : Bool := decide ((1 ≤ a ∧ a ≤ 400) ∧ (3 ≤ b ∧ b ≤ 60) ∧ (1 ≤ c ∧ c ≤ 300))
theorem spGood_eq (a b c : Int) : spec_spGood.f a b c = some (goodB a b c) := by
  unfold spec_spGood.f goodB
  rw [l1In_eq, l1In_eq, l1In_eq]
  simp only [Option.bind_some]
  by_cases h : 1 ≤ a ∧ a ≤ 400
  · by_cases g : 3 ≤ b ∧ b ≤ 60
    · rw [if_pos (decide_eq_true h), if_pos (decide_eq_true g)]; congr 1; rw [decide_eq_decide]; omega
    · rw [if_pos (decide_eq_true h), if_neg (by simpa using g)]; congr 1; rw [eq_comm, decide_eq_false_iff_not]; omega
  · rw [if_neg (by simpa using h)]; congr 1; rw [eq_comm, decide_eq_false_iff_not]; omega

-- block spStep
def stepB (a b c s : Int) : Bool := goodB a b c && decide (1 ≤ s ∧ s ≤ a)
theorem spStep_eq (a b c s : Int) : spec_spStep.f a b c s = some (stepB a b c s) := by
  unfold spec_spStep.f stepB
  rw [spGood_eq, Option.bind_some]
  cases goodB a b c
  · simp
  · rw [if_pos rfl, l1In_eq]; simp
theorem stepB_true {a b c s : Int} (h : stepB a b c s = true) : ((1 ≤ a ∧ a ≤ 400) ∧ (3 ≤ b ∧ b ≤ 60) ∧ (1 ≤ c ∧ c ≤ 300)) ∧ (1 ≤ s ∧ s ≤ a) := by
  unfold stepB goodB at h
  simpa only [Bool.and_eq_true, decide_eq_true_eq] using h

-- block IsSpiral
theorem IsSpiral_eq (a b c : Int) : impl_IsSpiral.f a b c = some (goodB a b c) := by
  unfold impl_IsSpiral.f goodB
  rw [within_eq, within_eq, within_eq]
  simp only [Option.bind_some]
  by_cases h : 1 ≤ a ∧ a ≤ 400
  · by_cases g : 3 ≤ b ∧ b ≤ 60
    · rw [if_pos (decide_eq_true h), if_pos (decide_eq_true g)]; congr 1; rw [decide_eq_decide]; omega
    · rw [if_pos (decide_eq_true h), if_neg (by simpa using g)]; congr 1; rw [eq_comm, decide_eq_false_iff_not]; omega
  · rw [if_neg (by simpa using h)]; congr 1; rw [eq_comm, decide_eq_false_iff_not]; omega

-- block has
theorem has_l0 (a b c : Int) (l : List Int) (hl : l.length ≤ 100) (d : Nat) : ∀ (k i : Nat), i + d = l.length → d < k → impl_Spiral_has.l0 k l l.length i a b c = some (((l.drop i).all fun n => decide (1 ≤ n ∧ n ≤ a)) && goodB a b c) := by
  induction d with
  | zero =>
    intro k i hd hk
    obtain ⟨k, rfl⟩ : ∃ m, k = m + 1 := ⟨k - 1, by omega⟩
    simp only [impl_Spiral_has.l0]; rw [if_neg (by omega), List.drop_eq_nil_of_le (by omega), IsSpiral_eq]; simp
  | succ d ih =>
    intro k i hd hk
    obtain ⟨k, rfl⟩ : ∃ m, k = m + 1 := ⟨k - 1, by omega⟩
    simp only [impl_Spiral_has.l0]
    have h : i < l.length := by omega
    have e : rd l i = l[i] := by simp [rd, List.getD_eq_getElem?_getD, List.getElem?_eq_getElem h]
    rw [if_pos (by omega), if_pos (by omega), if_pos (by omega), within_eq, Option.bind_some, List.drop_eq_getElem_cons h, e, List.all_cons]
    by_cases g : 1 ≤ l[i] ∧ l[i] ≤ a
    · rw [if_pos (decide_eq_true g), w64 (by omega), decide_eq_true g, Bool.true_and]
      exact ih k (i + 1) (by omega) (by omega)
    · rw [if_neg (by simpa using g), decide_eq_false g, Bool.false_and, Bool.false_and]
theorem has_eq {k : Nat} {l : List Int} (a b c : Int) (hl : l.length ≤ 100) (hk : 100 < k) : impl_Spiral_has.f k a b c l = some ((l.all fun n => decide (1 ≤ n ∧ n ≤ a)) && goodB a b c) := by
  unfold impl_Spiral_has.f
  exact has_l0 a b c l hl l.length k 0 (by omega) (by omega)
theorem has_one {k : Nat} (a b c s : Int) (hk : 100 < k) : impl_Spiral_has.f k a b c [s] = some (stepB a b c s) := by
  rw [has_eq a b c (by simp) hk]; unfold stepB; rw [Bool.and_comm]; simp
theorem has_two {k : Nat} (a b c s t : Int) (hk : 100 < k) : impl_Spiral_has.f k a b c [s, t] = some (stepB a b c s && stepB a b c t) := by
  rw [has_eq a b c (by simp) hk]; unfold stepB
  cases goodB a b c <;> simp

-- block angle
theorem angle_eq (a c : Int) (R s : Nat) (hR : 0 < R) (hs : 0 < s) (hs2 : s ≤ 1000) : impl_Spiral_angle.f a R c s = some (((s - 1) % R : Nat) : Int) := by
  unfold impl_Spiral_angle.f
  rw [if_neg (by omega), w64 (by omega), show (s : Int) - 1 = ((s - 1 : Nat) : Int) from by omega, tmod_nat]

-- block gcd
theorem gcd_l0 (b : Nat) : ∀ (k a : Nat), b < k → impl_gcd.l0 k a b = some ((Nat.gcd a b : Nat) : Int) := by
  induction b using Nat.strongRecOn with
  | _ b ih =>
    intro k a hk
    obtain ⟨k, rfl⟩ : ∃ m, k = m + 1 := ⟨k - 1, by omega⟩
    simp only [impl_gcd.l0]
    by_cases h : b = 0
    · subst h; simp
    · rw [if_neg (by omega), tmod_nat, ih (a % b) (Nat.mod_lt _ (by omega)) k b (by have := Nat.mod_lt a (show 0 < b by omega); omega)]
      rw [Nat.gcd_comm b, ← Nat.gcd_rec, Nat.gcd_comm]
theorem gcd_eq {k a b : Nat} (h : b < k) : impl_gcd.f k a b = some ((Nat.gcd a b : Nat) : Int) := gcd_l0 b k a h

-- block part
theorem part_eq {k n m : Nat} (hn : n ≤ 1000000) (hm : m ≤ 1000000) (hm0 : 0 < m) (hk : m < k) : impl_part.f k n m = some (((n / Nat.gcd n m : Nat) : Int), ((m / Nat.gcd n m : Nat) : Int), true) := by
  unfold impl_part.f
  have hg : 0 < Nat.gcd n m := Nat.gcd_pos_of_pos_right _ hm0
  have h1 := Nat.div_le_self n (Nat.gcd n m)
  have h2 := Nat.div_le_self m (Nat.gcd n m)
  rw [if_neg (by omega), gcd_eq hk, Option.bind_some, if_neg (by omega), tdiv_nat, tdiv_nat]
  generalize n / Nat.gcd n m = x at *
  generalize m / Nat.gcd n m = y at *
  rw [w64 (by omega), w64 (by omega)]

-- block spLow
theorem spLow_l0 (n m : Nat) (hn : n ≤ 1000000) (hm : m ≤ 1000000) (b : Nat) : ∀ (k a : Nat), b < k → 0 < Nat.gcd a b → spec_spLow.l0 k n m a b = some (((n / Nat.gcd a b : Nat) : Int), ((m / Nat.gcd a b : Nat) : Int)) := by
  induction b using Nat.strongRecOn with
  | _ b ih =>
    intro k a hk hg
    obtain ⟨k, rfl⟩ : ∃ x, k = x + 1 := ⟨k - 1, by omega⟩
    simp only [spec_spLow.l0]
    by_cases h : b = 0
    · subst h
      rw [Nat.gcd_zero_right] at hg ⊢
      have h1 := Nat.div_le_self n a
      have h2 := Nat.div_le_self m a
      rw [if_neg (by omega), if_neg (by omega), tdiv_nat, tdiv_nat]
      generalize n / a = x at *
      generalize m / a = y at *
      rw [w64 (by omega), w64 (by omega)]
    · have e : Nat.gcd a b = Nat.gcd b (a % b) := by rw [Nat.gcd_comm b, ← Nat.gcd_rec, Nat.gcd_comm]
      rw [if_pos (by omega), if_neg (by omega), tmod_nat, ih (a % b) (Nat.mod_lt _ (by omega)) k b (by have := Nat.mod_lt a (show 0 < b by omega); omega) (by rw [← e]; exact hg), e]
theorem spLow_eq {k n m : Nat} (hn : n ≤ 1000000) (hm : m ≤ 1000000) (hm0 : 0 < m) (hk : m < k) : spec_spLow.f k n m = some (((n / Nat.gcd n m : Nat) : Int), ((m / Nat.gcd n m : Nat) : Int)) :=
  spLow_l0 n m hn hm m k n hk (Nat.gcd_pos_of_pos_right _ hm0)

-- block mxmn
theorem mx_eq (a b : Int) : mx a b = max a b := by unfold mx; omega
theorem mn_eq (a b : Int) : mn a b = min a b := by unfold mn; omega

-- block side
def sideN (R s : Nat) : Nat := (4 * ((s - 1) % R) / R + if 2 * (4 * ((s - 1) % R) % R) > R then 1 else 0) % 4
theorem sideN_lt (R s : Nat) : sideN R s < 4 := Nat.mod_lt _ (by omega)
theorem side_eq (a c : Int) (R s : Nat) (hR : 0 < R) (hR2 : R ≤ 100) (hs : 0 < s) (hs2 : s ≤ 1000) : impl_Spiral_side.f a R c s = some (sideN R s : Int) := by
  unfold impl_Spiral_side.f sideN
  rw [angle_eq a c R s hR hs hs2, Option.bind_some, if_neg (by omega)]
  have hat := Nat.mod_lt (s - 1) hR
  generalize (s - 1) % R = t at *
  have hr := Nat.mod_lt (4 * t) hR
  have hq : 4 * t / R ≤ 4 * t := Nat.div_le_self _ _
  rw [w64 (x := 4 * (t : Int)) (by omega), show 4 * (t : Int) = ((4 * t : Nat) : Int) from by omega, tmod_nat, tdiv_nat]
  generalize 4 * t / R = q at *
  generalize 4 * t % R = r at *
  rw [w64 (x := 2 * (r : Int)) (by omega), w64 (x := (q : Int)) (by omega), w64 (by omega)]
  by_cases h : 2 * r > R
  · rw [if_pos (by omega), if_pos h, show (q : Int) + 1 = ((q + 1 : Nat) : Int) from rfl, show (4 : Int) = ((4 : Nat) : Int) from rfl, tmod_nat]
  · rw [if_neg (by omega), if_neg h, show (4 : Int) = ((4 : Nat) : Int) from rfl, tmod_nat]; simp
theorem spSide_l0 (a c : Int) (R t q r e : Nat) (hR : 0 < R) (hR2 : R ≤ 100) (ht : t < R) (hn : R * q + r = 4 * t) (hr : r < R) (he : e = q + if 2 * r > R then 1 else 0) (d : Nat) : ∀ (k j : Nat), j + d = e → d < k →
    spec_spSide.l0 k t j a R c = some ((e % 4 : Nat) : Int) := by
  have hq4 : q ≤ 400 := by
    have : 1 * q ≤ R * q := Nat.mul_le_mul_right _ hR
    omega
  have lin : ∀ j : Nat, R * (2 * j + 1) = 2 * (R * j) + R := fun j => by rw [Nat.mul_add, Nat.mul_one, Nat.mul_left_comm]
  induction d with
  | zero =>
    intro k j hd hk
    obtain ⟨k, rfl⟩ : ∃ m, k = m + 1 := ⟨k - 1, by omega⟩
    simp only [spec_spSide.l0]
    have hj : j ≤ 401 := by split at he <;> omega
    have hm : R * (2 * j + 1) ≤ 100 * 1000 := Nat.mul_le_mul hR2 (by omega)
    have key : 8 * t ≤ R * (2 * j + 1) := by
      rw [lin]
      have : j = e := by omega
      subst this
      rw [he]
      by_cases h : 2 * r > R
      · rw [if_pos h, Nat.mul_add]; omega
      · rw [if_neg h, Nat.add_zero]; omega
    rw [w64 (x := 8 * (t : Int)) (by omega), w64 (x := 2 * (j : Int)) (by omega), w64 (x := 2 * (j : Int) + 1) (by omega), show 2 * (j : Int) + 1 = ((2 * j + 1 : Nat) : Int) from by omega, ← Int.natCast_mul, w64 (by omega), if_neg (by omega), show (4 : Int) = ((4 : Nat) : Int) from rfl, tmod_nat, show j = e from by omega]
  | succ d ih =>
    intro k j hd hk
    obtain ⟨k, rfl⟩ : ∃ m, k = m + 1 := ⟨k - 1, by omega⟩
    simp only [spec_spSide.l0]
    have hj : j ≤ 401 := by split at he <;> omega
    have hm : R * (2 * j + 1) ≤ 100 * 1000 := Nat.mul_le_mul hR2 (by omega)
    have key : 8 * t > R * (2 * j + 1) := by
      rw [lin]
      by_cases h : j < q
      · have : R * (j + 1) ≤ R * q := Nat.mul_le_mul_left _ h
        rw [Nat.mul_add] at this
        omega
      · have hjq : j = q := by split at he <;> omega
        subst hjq
        have : 2 * r > R := by
          by_cases h2 : 2 * r > R
          · exact h2
          · rw [if_neg h2] at he; omega
        omega
    rw [w64 (x := 8 * (t : Int)) (by omega), w64 (x := 2 * (j : Int)) (by omega), w64 (x := 2 * (j : Int) + 1) (by omega), show 2 * (j : Int) + 1 = ((2 * j + 1 : Nat) : Int) from by omega, ← Int.natCast_mul, w64 (x := ((R * (2 * j + 1) : Nat) : Int)) (by omega), if_pos (by omega), w64 (by omega)]
    exact ih k (j + 1) (by omega) (by omega)
theorem spSide_eq {k : Nat} (a c : Int) (R s : Nat) (hR : 0 < R) (hR2 : R ≤ 100) (hs : 0 < s) (hs2 : s ≤ 1000) (hk : 1000 < k) : spec_spSide.f k a R c s = some (sideN R s : Int) := by
  unfold spec_spSide.f sideN
  have hat := Nat.mod_lt (s - 1) hR
  rw [if_neg (by omega), w64 (by omega), show (s : Int) - 1 = ((s - 1 : Nat) : Int) from by omega, tmod_nat]
  generalize (s - 1) % R = t at *
  have hr := Nat.mod_lt (4 * t) hR
  have hn := Nat.div_add_mod (4 * t) R
  have hq : 4 * t / R ≤ 4 * t := Nat.div_le_self _ _
  generalize 4 * t / R = q at *
  generalize 4 * t % R = r at *
  exact spSide_l0 a c R t q r _ hR hR2 hat hn hr rfl (q + if 2 * r > R then 1 else 0) k 0 (by omega) (by split <;> omega)

-- block filt
/-- The numbers from i on, d of them, of which p holds. -/
def filt (p : Nat → Bool) (i d : Nat) : List Int := ((List.range' i d).filter p).map fun j : Nat => (j : Int)
theorem filt_succ (p : Nat → Bool) (i d : Nat) : filt p i (d + 1) = if p i = true then (i : Int) :: filt p (i + 1) d else filt p (i + 1) d := by
  unfold filt
  rw [List.range'_succ, List.filter_cons]
  by_cases h : p i = true
  · rw [if_pos h, if_pos h]; rfl
  · rw [if_neg h, if_neg h]
theorem filt_zero (p : Nat → Bool) (i : Nat) : filt p i 0 = [] := by simp [filt]
theorem filt_skip (p : Nat → Bool) (m : Nat) : ∀ (i d : Nat), (∀ j, i ≤ j → j < i + m → p j ≠ true) → filt p i d = filt p (i + m) (d - m) := by
  induction m with
  | zero => intro i d _; rfl
  | succ m ih =>
    intro i d h
    cases d with
    | zero => simp [filt]
    | succ d =>
      rw [filt_succ, if_neg (h i (Nat.le_refl _) (by omega)), ih (i + 1) d (fun j h1 h2 => h j (by omega) (by omega))]
      congr 1 <;> omega
theorem filt_length (p : Nat → Bool) (i d : Nat) : (filt p i d).length ≤ d := by
  unfold filt; rw [List.length_map]; exact Nat.le_trans (List.length_filter_le _ _) (by simp)
theorem thoseW_l0 (q : Int → Option Bool) (p : Nat → Bool) (N : Nat) (hN : N ≤ 1000) (hq : ∀ j : Nat, 1 ≤ j → j ≤ N → q j = some (p j)) (d : Nat) : ∀ (k i : Nat) (acc : List Int), i + d = N + 1 → d < k → acc.length ≤ i → 1 ≤ i → thoseW q k N i acc = some (acc ++ filt p i d) := by
  induction d with
  | zero =>
    intro k i acc hd hk ha hi
    obtain ⟨k, rfl⟩ : ∃ m, k = m + 1 := ⟨k - 1, by omega⟩
    simp only [thoseW]
    rw [if_neg (by omega), filt_zero, List.append_nil]
  | succ d ih =>
    intro k i acc hd hk ha hi
    obtain ⟨k, rfl⟩ : ∃ m, k = m + 1 := ⟨k - 1, by omega⟩
    simp only [thoseW]
    rw [if_pos (by omega), hq i hi (by omega), Option.bind_some, filt_succ, w64 (by omega), show (i : Int) + 1 = ((i + 1 : Nat) : Int) from rfl]
    by_cases h : p i = true
    · rw [if_pos h, if_pos h, if_pos (by omega), ih k (i + 1) _ (by omega) (by omega) (by simp; omega) (by omega)]; simp
    · rw [if_neg h, if_neg h, ih k (i + 1) _ (by omega) (by omega) (by omega) (by omega)]
theorem thoseW_eq {k : Nat} (q : Int → Option Bool) (p : Nat → Bool) (N : Nat) (hN : N ≤ 1000) (hk : 1001 < k) (hq : ∀ j : Nat, 1 ≤ j → j ≤ N → q j = some (p j)) : thoseW q k N 1 [] = some (filt p 1 N) :=
  thoseW_l0 q p N hN hq N k 1 [] (by omega) (by omega) (by simp) (by omega)
theorem multiple_gap {R x y : Nat} (h1 : x % R = 0) (h2 : y % R = 0) (h3 : x < y) (h4 : y < x + R) : False := by
  obtain ⟨a, rfl⟩ := Nat.dvd_of_mod_eq_zero h1
  obtain ⟨b, rfl⟩ := Nat.dvd_of_mod_eq_zero h2
  have a2 : R * b < R * (a + 1) := by rw [Nat.mul_add]; omega
  have b1 := Nat.lt_of_mul_lt_mul_left h3
  have b2 := Nat.lt_of_mul_lt_mul_left a2
  omega

-- block aboveEq
def aboveP (R s j : Nat) : Bool := decide (s < j) && ((j - 1) % R == (s - 1) % R)
theorem aboveP_iff {R s j : Nat} (hs : 1 ≤ s) (h : s < j) : aboveP R s j = true ↔ (j - s) % R = 0 := by
  unfold aboveP
  rw [decide_eq_true h, Bool.true_and, beq_iff_eq]
  constructor
  · intro e
    have := Nat.sub_mod_eq_zero_of_mod_eq e
    rwa [show j - 1 - (s - 1) = j - s from by omega] at this
  · intro e
    obtain ⟨x, hx⟩ := Nat.dvd_of_mod_eq_zero e
    rw [show j - 1 = s - 1 + R * x from by omega, Nat.add_mul_mod_self_left]
theorem spec_above_l0 (a R s : Nat) (c : Int) (ha : a ≤ 400) (hR : 0 < R) (hR2 : R ≤ 60) (hs : 1 ≤ s) (hs2 : s ≤ a) (d : Nat) : ∀ (k i : Nat) (acc : List Int), a < i + d → d < k → s < i → (i - s) % R = 0 → i ≤ 1000 → acc.length ≤ i →
    spec_StepsAbove.l0 k acc i a R c = some (acc ++ filt (aboveP R s) i (a + 1 - i), true) := by
  induction d with
  | zero =>
    intro k i acc hd hk hi hm hi2 hl
    obtain ⟨k, rfl⟩ : ∃ m, k = m + 1 := ⟨k - 1, by omega⟩
    simp only [spec_StepsAbove.l0]
    rw [if_neg (by omega), show a + 1 - i = 0 from by omega, filt_zero, List.append_nil]
  | succ d ih =>
    intro k i acc hd hk hi hm hi2 hl
    obtain ⟨k, rfl⟩ : ∃ m, k = m + 1 := ⟨k - 1, by omega⟩
    simp only [spec_StepsAbove.l0]
    by_cases h : i ≤ a
    · rw [if_pos (by omega), if_pos (by omega), w64 (by omega), show (i : Int) + (R : Int) = ((i + R : Nat) : Int) from by omega]
      have hm' : (i + R - s) % R = 0 := by rw [show i + R - s = i - s + R from by omega, Nat.add_mod_right]; exact hm
      rw [ih k (i + R) _ (by omega) (by omega) (by omega) hm' (by omega) (by simp; omega), show a + 1 - i = (a - i) + 1 from by omega, filt_succ, if_pos ((aboveP_iff hs hi).2 hm)]
      rw [filt_skip (aboveP R s) (R - 1) (i + 1) (a - i) (fun j h1 h2 h3 => multiple_gap hm ((aboveP_iff hs (by omega)).1 h3) (by omega) (by omega)), show i + 1 + (R - 1) = i + R from by omega, show a - i - (R - 1) = a + 1 - (i + R) from by omega]
      simp
    · rw [if_neg (by omega), show a + 1 - i = 0 from by omega, filt_zero, List.append_nil]
theorem StepsAbove_eq {k : Nat} (hk : 2000 < k) (a b c s : Int) : ∃ r, spec_StepsAbove.f k a b c s = some r ∧ impl_StepsAbove.f k a b c s = some r ∧ r.1.length ≤ 400 := by
  unfold spec_StepsAbove.f impl_StepsAbove.f
  rw [spStep_eq, has_one a b c s (by omega), Option.bind_some, Option.bind_some]
  by_cases h : stepB a b c s = true
  · have g := stepB_true h
    obtain ⟨a, rfl⟩ := Int.eq_ofNat_of_zero_le (show 0 ≤ a by omega)
    obtain ⟨b, rfl⟩ := Int.eq_ofNat_of_zero_le (show 0 ≤ b by omega)
    obtain ⟨s, rfl⟩ := Int.eq_ofNat_of_zero_le (show 0 ≤ s by omega)
    rw [if_pos h, if_pos h, w64 (by omega), show (s : Int) + (b : Int) = ((s + b : Nat) : Int) from by omega]
    rw [spec_above_l0 a b s c (by omega) (by omega) (by omega) (by omega) (by omega) a k (s + b) [] (by omega) (by omega) (by omega) (by rw [show s + b - s = b from by omega, Nat.mod_self]) (by omega) (by simp)]
    rw [thoseW_eq _ (aboveP b s) a (by omega) (by omega) (fun j h1 h2 => by
      unfold impl_StepsAbove.q aboveP
      by_cases hj : s < j
      · rw [if_pos (by omega), angle_eq _ _ b j (by omega) (by omega) (by omega), angle_eq _ _ b s (by omega) (by omega) (by omega), Option.bind_some, Option.bind_some, decide_eq_true hj, Bool.true_and]
        congr 1
        rw [Bool.eq_iff_iff, beq_iff_eq, beq_iff_eq]; omega
      · rw [if_neg (by omega), decide_eq_false hj, Bool.false_and])]
    rw [Option.bind_some]
    have e : filt (aboveP b s) 1 a = filt (aboveP b s) (s + b) (a + 1 - (s + b)) := by
      rw [filt_skip (aboveP b s) (s + b - 1) 1 a (fun j h1 h2 h3 => by
        by_cases hj : s < j
        · have := (aboveP_iff (by omega) hj).1 h3
          rw [Nat.mod_eq_of_lt (by omega)] at this; omega
        · unfold aboveP at h3; rw [decide_eq_false hj, Bool.false_and] at h3; exact absurd h3 (by simp)), show 1 + (s + b - 1) = s + b from by omega, show a - (s + b - 1) = a + 1 - (s + b) from by omega]
    rw [e]
    have := filt_length (aboveP b s) (s + b) (a + 1 - (s + b))
    exact ⟨_, rfl, by simp, by simp; omega⟩
  · rw [if_neg h, if_neg h]; exact ⟨_, rfl, rfl, by simp⟩

-- block oppEq
def oppP (R s j : Nat) : Bool := 2 * ((if s ≤ j then j - s else s - j) % R) == R
theorem spOpposite_eq (a c : Int) (R s j : Nat) (hR : 0 < R) (hR2 : R ≤ 60) (hs : s ≤ 1000) (hj : j ≤ 1000) : spec_spOpposite.f a R c s j = some (oppP R s j) := by
  unfold spec_spOpposite.f spec_l1Abs.f spec_l1Most.f oppP
  rw [w64 (x := (s : Int) - j) (by omega), w64 (x := -((s : Int) - j)) (by omega)]
  have key : ∀ t : Nat, t = (if s ≤ j then j - s else s - j) → (if (R : Int) = 0 then none else some (wrap64 (2 * Int.tmod (t : Int) (R : Int)) == (R : Int))) = some (2 * ((if s ≤ j then j - s else s - j) % R) == R) := by
    intro t ht
    have hm := Nat.mod_lt t hR
    rw [if_neg (by omega), tmod_nat, ← ht]
    generalize t % R = m at *
    rw [w64 (by omega)]
    congr 1
    rw [Bool.eq_iff_iff, beq_iff_eq, beq_iff_eq]; omega
  by_cases h : s ≤ j
  · by_cases g : s = j
    · subst g
      rw [if_neg (by omega), Option.bind_some, Option.bind_some, show -((s : Int) - s) = ((0 : Nat) : Int) from by omega]
      exact key 0 (by rw [if_pos h]; omega)
    · rw [if_neg (by omega), Option.bind_some, Option.bind_some, show -((s : Int) - j) = ((j - s : Nat) : Int) from by omega]
      exact key (j - s) (by rw [if_pos h])
  · rw [if_pos (by omega), Option.bind_some, Option.bind_some, show (s : Int) - j = ((s - j : Nat) : Int) from by omega]
    exact key (s - j) (by rw [if_neg h])
theorem opposite_eq (a c : Int) (R s j : Nat) (hR : 0 < R) (hR2 : R ≤ 60) (hs : s ≤ 1000) (hj : j ≤ 1000) : impl_Spiral_opposite.f a R c j s = some (oppP R s j) := by
  unfold impl_Spiral_opposite.f oppP
  rw [w64 (x := (j : Int) - s) (by omega), w64 (x := (s : Int) - j) (by omega), w64 (x := 2 * (R : Int)) (by omega), if_neg (by omega)]
  have e : mx ((j : Int) - s) ((s : Int) - j) = ((if s ≤ j then j - s else s - j : Nat) : Int) := by
    unfold mx
    by_cases h : s ≤ j
    · rw [if_pos h]; split <;> omega
    · rw [if_neg h]; split <;> omega
  rw [e]
  have hd : (if s ≤ j then j - s else s - j) ≤ 1000 := by split <;> omega
  generalize (if s ≤ j then j - s else s - j) = t at *
  rw [w64 (x := 2 * (t : Int)) (by omega), show 2 * (t : Int) = ((2 * t : Nat) : Int) from by omega, show 2 * (R : Int) = ((2 * R : Nat) : Int) from by omega, tmod_nat, Nat.mul_mod_mul_left]
  congr 1
  rw [Bool.eq_iff_iff, beq_iff_eq, beq_iff_eq]
  generalize t % R = m
  omega
theorem spec_opp_l0 (a R s : Nat) (c : Int) (ha : a ≤ 400) (hR : 0 < R) (hR2 : R ≤ 60) (hs2 : s ≤ 1000) (d : Nat) : ∀ (k i : Nat) (acc : List Int), i + d = a + 1 → d < k → acc.length ≤ i →
    spec_OppositeSteps.l0 k s acc i a R c = some (acc ++ filt (oppP R s) i d, true) := by
  induction d with
  | zero =>
    intro k i acc hd hk hl
    obtain ⟨k, rfl⟩ : ∃ m, k = m + 1 := ⟨k - 1, by omega⟩
    simp only [spec_OppositeSteps.l0]
    rw [if_neg (by omega), filt_zero, List.append_nil]
  | succ d ih =>
    intro k i acc hd hk hl
    obtain ⟨k, rfl⟩ : ∃ m, k = m + 1 := ⟨k - 1, by omega⟩
    simp only [spec_OppositeSteps.l0]
    rw [if_pos (by omega), spOpposite_eq a c R s i hR hR2 hs2 (by omega), Option.bind_some, w64 (by omega), show (i : Int) + 1 = ((i + 1 : Nat) : Int) from rfl, filt_succ]
    by_cases h : oppP R s i = true
    · rw [if_pos h, if_pos h, if_pos (by omega), ih k (i + 1) _ (by omega) (by omega) (by simp; omega)]; simp
    · rw [if_neg h, if_neg h, ih k (i + 1) _ (by omega) (by omega) (by omega)]
theorem OppositeSteps_eq {k : Nat} (hk : 2000 < k) (a b c s : Int) : ∃ r, spec_OppositeSteps.f k a b c s = some r ∧ impl_OppositeSteps.f k a b c s = some r ∧ r.1.length ≤ 400 := by
  unfold spec_OppositeSteps.f impl_OppositeSteps.f
  rw [spStep_eq, has_one a b c s (by omega), Option.bind_some, Option.bind_some]
  by_cases h : stepB a b c s = true
  · have g := stepB_true h
    obtain ⟨a, rfl⟩ := Int.eq_ofNat_of_zero_le (show 0 ≤ a by omega)
    obtain ⟨b, rfl⟩ := Int.eq_ofNat_of_zero_le (show 0 ≤ b by omega)
    obtain ⟨s, rfl⟩ := Int.eq_ofNat_of_zero_le (show 0 ≤ s by omega)
    rw [if_pos h, if_pos h]
    have e := spec_opp_l0 a b s c (by omega) (by omega) (by omega) (by omega) a k 1 [] (by omega) (by omega) (by simp)
    rw [show ((1 : Nat) : Int) = 1 from rfl] at e
    rw [e, thoseW_eq _ (oppP b s) a (by omega) (by omega) (fun j h1 h2 => by
      unfold impl_OppositeSteps.q
      exact opposite_eq a c b s j (by omega) (by omega) (by omega) (by omega))]
    rw [Option.bind_some]
    have := filt_length (oppP b s) 1 a
    exact ⟨_, rfl, by simp, by simp; omega⟩
  · rw [if_neg h, if_neg h]; exact ⟨_, rfl, rfl, by simp⟩

-- block sideEq
theorem nesw_ge (c : UInt8) : 0 ≤ nesw c ↔ (c = 110 ∨ c = 101 ∨ c = 115 ∨ c = 119) := by
  unfold nesw
  simp only [Lib.indexByte, beq_iff_eq]
  by_cases h1 : (110 : UInt8) = c
  · subst h1; simp
  · by_cases h2 : (101 : UInt8) = c
    · subst h2; simp
    · by_cases h3 : (115 : UInt8) = c
      · subst h3; simp
      · by_cases h4 : (119 : UInt8) = c
        · subst h4; simp
        · rw [if_neg h1, if_neg h2, if_neg h3, if_neg h4]
          simp only [if_true]
          constructor
          · intro z; exact absurd z (by decide)
          · rintro (z | z | z | z)
            · exact absurd z.symm h1
            · exact absurd z.symm h2
            · exact absurd z.symm h3
            · exact absurd z.symm h4
theorem nesw_bt (c : UInt8) (s : Nat) (hs : s < 4) (h : c = 110 ∨ c = 101 ∨ c = 115 ∨ c = 119) : ((s : Int) == nesw c) = decide (bt (⟨#[110, 101, 115, 119]⟩ : ByteArray) s = bt (⟨#[c]⟩ : ByteArray) 0) := by
  have : s = 0 ∨ s = 1 ∨ s = 2 ∨ s = 3 := by omega
  rcases this with rfl | rfl | rfl | rfl <;> rcases h with rfl | rfl | rfl | rfl <;> decide
def sideP (R : Nat) (c : UInt8) (j : Nat) : Bool := (sideN R j : Int) == nesw c
theorem spec_side_l0 (a R : Nat) (e : Int) (c : UInt8) (hc : c = 110 ∨ c = 101 ∨ c = 115 ∨ c = 119) (ha : a ≤ 400) (hR : 0 < R) (hR2 : R ≤ 100) (d : Nat) : ∀ (k i : Nat) (acc : List Int), i + d = a + 1 → 1 ≤ i → d + 1001 < k → acc.length ≤ i →
    spec_StepsAtSide.l0 k ⟨#[c]⟩ acc i a R e = some (acc ++ filt (sideP R c) i d, true) := by
  induction d with
  | zero =>
    intro k i acc hd hi hk hl
    obtain ⟨k, rfl⟩ : ∃ m, k = m + 1 := ⟨k - 1, by omega⟩
    simp only [spec_StepsAtSide.l0]
    rw [if_neg (by omega), filt_zero, List.append_nil]
  | succ d ih =>
    intro k i acc hd hi hk hl
    obtain ⟨k, rfl⟩ : ∃ m, k = m + 1 := ⟨k - 1, by omega⟩
    have hs := sideN_lt R i
    have e0 : (0 : Int) < ((⟨#[c]⟩ : ByteArray).size : Int) := by show (0 : Int) < ((1 : Nat) : Int); omega
    simp only [spec_StepsAtSide.l0]
    rw [if_pos (by omega), spSide_eq _ _ R i hR hR2 (by omega) (by omega) (by omega), Option.bind_some, if_pos (by omega), if_pos (by omega), if_pos e0, w64 (x := (i : Int) + 1) (by omega), show (i : Int) + 1 = ((i + 1 : Nat) : Int) from rfl, filt_succ]
    have key := nesw_bt c (sideN R i) hs hc
    by_cases h : sideP R c i = true
    · have g : bt (⟨#[110, 101, 115, 119]⟩ : ByteArray) (sideN R i) = bt (⟨#[c]⟩ : ByteArray) 0 := by
        unfold sideP at h; rw [key] at h; exact of_decide_eq_true h
      rw [if_pos g, if_pos h, if_pos (by omega), ih k (i + 1) _ (by omega) (by omega) (by omega) (by simp; omega)]; simp
    · have g : ¬ bt (⟨#[110, 101, 115, 119]⟩ : ByteArray) (sideN R i) = bt (⟨#[c]⟩ : ByteArray) 0 := by
        unfold sideP at h; rw [key] at h; exact fun z => h (decide_eq_true z)
      rw [if_neg g, if_neg h, ih k (i + 1) _ (by omega) (by omega) (by omega) (by omega)]
theorem toList_one {s : ByteArray} {c : UInt8} (h : s.toList = [c]) : s = ⟨#[c]⟩ := by
  rw [Lib.toList_data] at h
  obtain ⟨⟨l⟩⟩ := s
  show ByteArray.mk _ = _
  congr 1
  exact congrArg Array.mk h
theorem one_toList (c : UInt8) : (⟨#[c]⟩ : ByteArray).toList = [c] := by rw [Lib.toList_data]
open Classical in
theorem spec_side_f {k : Nat} (a b e : Int) (s : ByteArray) (h : goodB a b e = true) : spec_StepsAtSide.f k a b e s = spec_StepsAtSide.j0 k s (!decide (∃ c, s = ⟨#[c]⟩ ∧ (c = 110 ∨ c = 101 ∨ c = 115 ∨ c = 119))) a b e := by
  unfold spec_StepsAtSide.f
  rw [spGood_eq, Option.bind_some, if_pos h]
  by_cases h1 : s.toList = ([110] : List UInt8)
  · rw [if_pos h1, decide_eq_true (show ∃ c, s = ⟨#[c]⟩ ∧ (c = 110 ∨ c = 101 ∨ c = 115 ∨ c = 119) from ⟨_, toList_one h1, .inl rfl⟩)]; rfl
  · rw [if_neg h1]
    by_cases h2 : s.toList = ([101] : List UInt8)
    · rw [if_pos h2, decide_eq_true (show ∃ c, s = ⟨#[c]⟩ ∧ (c = 110 ∨ c = 101 ∨ c = 115 ∨ c = 119) from ⟨_, toList_one h2, .inr (.inl rfl)⟩)]; rfl
    · rw [if_neg h2]
      by_cases h3 : s.toList = ([115] : List UInt8)
      · rw [if_pos h3, decide_eq_true (show ∃ c, s = ⟨#[c]⟩ ∧ (c = 110 ∨ c = 101 ∨ c = 115 ∨ c = 119) from ⟨_, toList_one h3, .inr (.inr (.inl rfl))⟩)]; rfl
      · rw [if_neg h3]
        by_cases h4 : s.toList = ([119] : List UInt8)
        · rw [decide_eq_true (show ∃ c, s = ⟨#[c]⟩ ∧ (c = 110 ∨ c = 101 ∨ c = 115 ∨ c = 119) from ⟨_, toList_one h4, .inr (.inr (.inr rfl))⟩), show (s.toList != ([119] : List UInt8)) = false from by rw [h4]; rfl]; rfl
        · rw [decide_eq_false (show ¬ ∃ c, s = ⟨#[c]⟩ ∧ (c = 110 ∨ c = 101 ∨ c = 115 ∨ c = 119) from by
            rintro ⟨c, rfl, g⟩
            rw [one_toList] at h1 h2 h3 h4
            rcases g with rfl | rfl | rfl | rfl
            · exact h1 rfl
            · exact h2 rfl
            · exact h3 rfl
            · exact h4 rfl), show (s.toList != ([119] : List UInt8)) = true from bne_iff_ne.2 h4]; rfl
open Classical in
theorem StepsAtSide_eq {k : Nat} (hk : 3000 < k) (a b e : Int) (s : ByteArray) : ∃ r, spec_StepsAtSide.f k a b e s = some r ∧ impl_StepsAtSide.f k a b e s = some r ∧ r.1.length ≤ 400 := by
  by_cases h : goodB a b e = true
  · rw [spec_side_f a b e s h]
    unfold impl_StepsAtSide.f
    rw [IsSpiral_eq, Option.bind_some, if_pos h]
    have g := h
    unfold goodB at g
    rw [decide_eq_true_eq] at g
    obtain ⟨a, rfl⟩ := Int.eq_ofNat_of_zero_le (show 0 ≤ a by omega)
    obtain ⟨b, rfl⟩ := Int.eq_ofNat_of_zero_le (show 0 ≤ b by omega)
    obtain ⟨k, rfl⟩ : ∃ m, k = m + 1 := ⟨k - 1, by omega⟩
    by_cases h1 : s.size = 1
    · have es := one_byte s h1
      generalize s.data.getD 0 0 = c at *
      rw [if_pos h1]
      subst es
      by_cases hc : c = 110 ∨ c = 101 ∨ c = 115 ∨ c = 119
      · rw [if_pos ((nesw_ge c).2 hc), decide_eq_true (show ∃ x, (⟨#[c]⟩ : ByteArray) = ⟨#[x]⟩ ∧ (x = 110 ∨ x = 101 ∨ x = 115 ∨ x = 119) from ⟨c, rfl, hc⟩)]
        have e1 := spec_side_l0 a b e c hc (by omega) (by omega) (by omega) a k 1 [] (by omega) (by omega) (by omega) (by simp)
        rw [show ((1 : Nat) : Int) = 1 from rfl] at e1
        simp only [spec_StepsAtSide.j0, Bool.not_true]
        rw [if_neg (by simp)]
        rw [e1, thoseW_eq _ (sideP b c) a (by omega) (by omega) (fun j j1 j2 => by
          unfold impl_StepsAtSide.q sideP
          rw [side_eq _ _ b j (by omega) (by omega) (by omega) (by omega), Option.bind_some]), Option.bind_some]
        have := filt_length (sideP b c) 1 a
        exact ⟨_, rfl, by simp, by simp; omega⟩
      · rw [if_neg (fun z => hc ((nesw_ge c).1 z)), decide_eq_false (show ¬ ∃ x, (⟨#[c]⟩ : ByteArray) = ⟨#[x]⟩ ∧ (x = 110 ∨ x = 101 ∨ x = 115 ∨ x = 119) from by
          rintro ⟨x, q, y⟩
          have q2 : (#[c] : Array UInt8) = #[x] := congrArg ByteArray.data q
          have : c = x := by simpa using q2
          subst this; exact hc y)]
        simp only [spec_StepsAtSide.j0, Bool.not_false, if_true]
        exact ⟨_, rfl, rfl, by simp⟩
    · rw [if_neg h1, decide_eq_false (show ¬ ∃ x, s = ⟨#[x]⟩ ∧ (x = 110 ∨ x = 101 ∨ x = 115 ∨ x = 119) from by
        rintro ⟨x, rfl, -⟩; exact h1 rfl)]
      simp only [spec_StepsAtSide.j0, Bool.not_false, if_true]
      exact ⟨_, rfl, rfl, by simp⟩
  · unfold spec_StepsAtSide.f impl_StepsAtSide.f
    rw [spGood_eq, IsSpiral_eq, Option.bind_some, Option.bind_some, if_neg h, if_neg h]
    obtain ⟨k, rfl⟩ : ∃ m, k = m + 1 := ⟨k - 1, by omega⟩
    simp only [spec_StepsAtSide.j0, if_true]
    exact ⟨_, rfl, rfl, by simp⟩

-- block wHas
theorem wHas_l0 (x : Int) (l : List Int) (hl : l.length ≤ 1048576) (d : Nat) : ∀ (k i : Nat), i + d = l.length → d < k → laws_wHas.l0 k x l l.length i = some (decide (x ∈ l.drop i)) := by
  induction d with
  | zero =>
    intro k i hd hk
    obtain ⟨k, rfl⟩ : ∃ m, k = m + 1 := ⟨k - 1, by omega⟩
    simp only [laws_wHas.l0]; rw [if_neg (by omega), List.drop_eq_nil_of_le (by omega)]; simp
  | succ d ih =>
    intro k i hd hk
    obtain ⟨k, rfl⟩ : ∃ m, k = m + 1 := ⟨k - 1, by omega⟩
    simp only [laws_wHas.l0]
    have h : i < l.length := by omega
    have e : rd l i = l[i] := by simp [rd, List.getD_eq_getElem?_getD, List.getElem?_eq_getElem h]
    rw [if_pos (by omega), if_pos (by omega), if_pos (by omega), e, List.drop_eq_getElem_cons h]
    by_cases g : l[i] = x
    · rw [if_pos g]; congr 1; rw [eq_comm, decide_eq_true_eq, g]; simp
    · rw [if_neg g, w64 (by omega), show (i : Int) + 1 = ((i + 1 : Nat) : Int) from rfl, ih k (i + 1) (by omega) (by omega)]
      congr 1; rw [decide_eq_decide, List.mem_cons]
      exact ⟨fun z => .inr z, fun z => z.resolve_left (fun y => g y.symm)⟩
theorem wHas_eq {k : Nat} {l : List Int} (x : Int) (hl : l.length ≤ 1048576) (hk : l.length < k) : laws_wHas.f k l x = some (decide (x ∈ l)) := by
  unfold laws_wHas.f
  have := wHas_l0 x l hl l.length k 0 (by omega) hk
  simpa using this
theorem wSame_l0 (l : List Int) (hl : l.length ≤ 1000000000) (d : Nat) : ∀ (k i : Nat), i + d = l.length → d < k → laws_wSame.l0 k l l l.length i = some true := by
  induction d with
  | zero =>
    intro k i hd hk
    obtain ⟨k, rfl⟩ : ∃ m, k = m + 1 := ⟨k - 1, by omega⟩
    simp only [laws_wSame.l0]; rw [if_neg (by omega)]
  | succ d ih =>
    intro k i hd hk
    obtain ⟨k, rfl⟩ : ∃ m, k = m + 1 := ⟨k - 1, by omega⟩
    simp only [laws_wSame.l0]
    rw [if_pos (by omega), if_pos (by omega), if_pos (by omega), if_pos (by omega), if_pos trivial, w64 (by omega)]
    exact ih k (i + 1) (by omega) (by omega)
theorem wSame_self {k : Nat} {l : List Int} (hl : l.length ≤ 1000000000) (hk : l.length < k) : laws_wSame.f k l l = some true := by
  unfold laws_wSame.f
  rw [if_pos rfl, show (0 : Int) = ((0 : Nat) : Int) from rfl, wSame_l0 l hl l.length k 0 (by omega) hk]

-- block rdset
theorem rd_set_eq (x : List Int) (a : Nat) (v : Int) (h : a < x.length) : rd (x.set a v) (a : Int) = v := by
  simp [rd, List.getD_eq_getElem?_getD, h]
theorem rd_set_ne (x : List Int) (a j : Nat) (v : Int) (h : j ≠ a) : rd (x.set a v) (j : Int) = rd x (j : Int) := by
  simp [rd, List.getD_eq_getElem?_getD, List.getElem?_set_ne (Ne.symm h)]
theorem rb_set_eq (x : List Bool) (a : Nat) (v : Bool) (h : a < x.length) : rdOf false (x.set a v) (a : Int) = v := by
  simp [rdOf, List.getD_eq_getElem?_getD, h]
theorem rb_set_ne (x : List Bool) (a j : Nat) (v : Bool) (h : j ≠ a) : rdOf false (x.set a v) (j : Int) = rdOf false x (j : Int) := by
  simp [rdOf, List.getD_eq_getElem?_getD, List.getElem?_set_ne (Ne.symm h)]
theorem rd_rep (n i : Nat) : rd (List.replicate n (0 : Int)) (i : Int) = 0 := by
  simp [rd, List.getD_eq_getElem?_getD, List.getElem?_replicate]; split <;> rfl
theorem rb_rep (n i : Nat) : rdOf false (List.replicate n false) (i : Int) = false := by
  simp [rdOf, List.getD_eq_getElem?_getD, List.getElem?_replicate]; split <;> rfl
theorem rd_get {l : List Int} {i : Nat} (h : i < l.length) : rd l (i : Int) = l[i] := by
  simp [rd, List.getD_eq_getElem?_getD, List.getElem?_eq_getElem h]

-- import Derived.Test.YtbbkbooiefoihaaSpiMain
/- Angles go around by turns, steps above each other are whole turns apart, sides are those that are nearest, opposite steps are half a turn apart: the law FnSpiralsTurnOfAll is true, whatever is given. No condition. -/
theorem wIs_l0 (y : Nat) : ∀ (k x : Nat), y < k → laws_wIs.l0 k x y = some ((Nat.gcd x y : Int) == 1) := by
  induction y using Nat.strongRecOn with
  | _ y ih =>
    intro k x hk
    obtain ⟨k, rfl⟩ : ∃ m, k = m + 1 := ⟨k - 1, by omega⟩
    simp only [laws_wIs.l0]
    by_cases h : y = 0
    · subst h; rw [if_neg (by omega), Nat.gcd_zero_right]
    · have hm := Nat.mod_lt x (show 0 < y by omega)
      have e : Nat.gcd x y = Nat.gcd y (x % y) := by rw [Nat.gcd_comm y, ← Nat.gcd_rec, Nat.gcd_comm]
      rw [if_pos (by omega), if_neg (by omega), tmod_nat, ih (x % y) hm k y (by omega), e]
theorem wIs_low {k n m : Nat} (hn : n ≤ 1000000) (hm : m ≤ 1000) (hm0 : 0 < m) (hk : 2000 < k) : laws_wIs.f k ((n / Nat.gcd n m : Nat) : Int) ((m / Nat.gcd n m : Nat) : Int) (n : Int) (m : Int) = some true := by
  have hg : 0 < Nat.gcd n m := Nat.gcd_pos_of_pos_right _ hm0
  have en : Nat.gcd n m * (n / Nat.gcd n m) = n := Nat.mul_div_cancel' (Nat.gcd_dvd_left n m)
  have em : Nat.gcd n m * (m / Nat.gcd n m) = m := Nat.mul_div_cancel' (Nat.gcd_dvd_right n m)
  have hc : Nat.gcd (n / Nat.gcd n m) (m / Nat.gcd n m) = 1 := by
    have h1 := Nat.gcd_mul_left (Nat.gcd n m) (n / Nat.gcd n m) (m / Nat.gcd n m)
    rw [en, em] at h1
    exact Nat.eq_of_mul_eq_mul_left hg (by rw [← h1, Nat.mul_one])
  have h1 := Nat.div_le_self n (Nat.gcd n m)
  have h2 := Nat.div_le_self m (Nat.gcd n m)
  have hcross : (n / Nat.gcd n m) * m = n * (m / Nat.gcd n m) := by
    calc (n / Nat.gcd n m) * m = (n / Nat.gcd n m) * (Nat.gcd n m * (m / Nat.gcd n m)) := by rw [em]
      _ = (Nat.gcd n m * (n / Nat.gcd n m)) * (m / Nat.gcd n m) := by rw [← Nat.mul_assoc, Nat.mul_comm (n / Nat.gcd n m)]
      _ = n * (m / Nat.gcd n m) := by rw [en]
  have hpos : 0 < m / Nat.gcd n m := by
    apply Nat.pos_of_ne_zero
    intro z; rw [z] at em; omega
  generalize n / Nat.gcd n m = x at *
  generalize m / Nat.gcd n m = y at *
  unfold laws_wIs.f
  obtain ⟨k, rfl⟩ : ∃ q, k = q + 1 := ⟨k - 1, by omega⟩
  rw [if_neg (by omega), if_neg (by omega), ← Int.natCast_mul, ← Int.natCast_mul, hcross]
  rw [show (wrap64 ((n * y : Nat) : Int) != wrap64 ((n * y : Nat) : Int)) = false from bne_self_eq_false _, laws_wIs.j0, if_neg (by decide), wIs_l0 y k x (by omega), hc]
  rfl
/-! rising lists -/
theorem wRises_l0 (l : List Int) (hl : l.length ≤ 1000000) (h : ∀ j : Nat, j + 1 < l.length → rd l (j : Int) < rd l ((j + 1 : Nat) : Int)) (d : Nat) : ∀ (k i : Nat), 1 ≤ i → l.length ≤ i + d → d < k → laws_wRises.l0 k l i = some true := by
  induction d with
  | zero =>
    intro k i h1 hd hk
    obtain ⟨k, rfl⟩ : ∃ m, k = m + 1 := ⟨k - 1, by omega⟩
    simp only [laws_wRises.l0]; rw [if_neg (by omega)]
  | succ d ih =>
    intro k i h1 hd hk
    obtain ⟨k, rfl⟩ : ∃ m, k = m + 1 := ⟨k - 1, by omega⟩
    simp only [laws_wRises.l0]
    by_cases c : i < l.length
    · obtain ⟨j, rfl⟩ : ∃ j, i = j + 1 := ⟨i - 1, by omega⟩
      have hj := h j c
      have e : wrap64 (((j + 1 : Nat) : Int) - 1) = (j : Int) := by rw [w64 (by omega)]; omega
      rw [if_pos (by omega), e, if_pos (by omega), if_pos (by omega), if_pos (by omega), if_neg (by omega), w64 (by omega), show ((j + 1 : Nat) : Int) + 1 = ((j + 1 + 1 : Nat) : Int) from rfl]
      exact ih k (j + 1 + 1) (by omega) (by omega) (by omega)
    · rw [if_neg (by omega)]
theorem wRises_eq {k : Nat} {l : List Int} (hl : l.length ≤ 1000000) (hk : 1000000 < k) (h : ∀ j : Nat, j + 1 < l.length → rd l (j : Int) < rd l ((j + 1 : Nat) : Int)) : laws_wRises.f k l = some true := by
  unfold laws_wRises.f
  exact wRises_l0 l hl h l.length k 1 (by omega) (by omega) (by omega)
theorem rdget' {l : List Int} {i : Nat} (h : i < l.length) : rd l (i : Int) = l[i] := by simp [rd, List.getD_eq_getElem?_getD, List.getElem?_eq_getElem h]
theorem filt_pair (p : Nat → Bool) (i d : Nat) : (filt p i d).Pairwise (· < ·) := by
  unfold filt
  rw [List.pairwise_map]
  refine List.Pairwise.imp ?_ (List.Pairwise.filter p (List.pairwise_lt_range' (s := i) (n := d) (step := 1)))
  intro a b h; omega
theorem filt_rise (p : Nat → Bool) (i d : Nat) (j : Nat) (h : j + 1 < (filt p i d).length) : rd (filt p i d) (j : Int) < rd (filt p i d) ((j + 1 : Nat) : Int) := by
  rw [rdget' (by omega), rdget' h]
  exact List.pairwise_iff_getElem.1 (filt_pair p i d) j (j + 1) (by omega) h (by omega)
theorem filt_mem (p : Nat → Bool) (i d n : Nat) : ((n : Int) ∈ filt p i d) ↔ (i ≤ n ∧ n < i + d ∧ p n = true) := by
  unfold filt
  rw [List.mem_map]
  constructor
  · rintro ⟨a, h1, h2⟩
    rw [List.mem_filter, List.mem_range'_1] at h1
    have : a = n := by omega
    subst this
    exact ⟨h1.1.1, h1.1.2, h1.2⟩
  · rintro ⟨h1, h2, h3⟩
    exact ⟨n, by rw [List.mem_filter, List.mem_range'_1]; exact ⟨⟨h1, h2⟩, h3⟩, rfl⟩
/-! what the functions answer -/
theorem angle_val {k : Nat} (hk : 2000 < k) (a b c s : Int) : (stepB a b c s = true → ∃ R t : Nat, b = R ∧ (t : Int) = (s - 1) % b ∧ t = (s.toNat - 1) % R ∧ impl_AngleOf.f k a b c s = some (((t / Nat.gcd t R : Nat) : Int), ((R / Nat.gcd t R : Nat) : Int), true) ∧ spec_AngleOf.f k a b c s = some (((t / Nat.gcd t R : Nat) : Int), ((R / Nat.gcd t R : Nat) : Int), true)) ∧
    (stepB a b c s ≠ true → impl_AngleOf.f k a b c s = some (0, 0, false) ∧ spec_AngleOf.f k a b c s = some (0, 0, false)) := by
  unfold spec_AngleOf.f impl_AngleOf.f
  rw [has_one a b c s (by omega), spStep_eq]
  simp only [Option.bind_some]
  cases h : stepB a b c s with
  | false => simp
  | true =>
    have g := stepB_true h
    refine ⟨fun _ => ?_, fun z => absurd rfl z⟩
    obtain ⟨b, rfl⟩ := Int.eq_ofNat_of_zero_le (show 0 ≤ b by omega)
    obtain ⟨s, rfl⟩ := Int.eq_ofNat_of_zero_le (show 0 ≤ s by omega)
    have hm := Nat.mod_lt (s - 1) (show 0 < b by omega)
    refine ⟨b, (s - 1) % b, rfl, by rw [show (s : Int) - 1 = ((s - 1 : Nat) : Int) from by omega]; rfl, rfl, ?_⟩
    rw [if_pos rfl, if_pos rfl, angle_eq a c b s (by omega) (by omega) (by omega), Option.bind_some, if_neg (by omega), w64 (by omega), show (s : Int) - 1 = ((s - 1 : Nat) : Int) from by omega, tmod_nat]
    generalize (s - 1) % b = t at *
    rw [part_eq (by omega) (by omega) (by omega) (by omega), spLow_eq (by omega) (by omega) (by omega) (by omega)]
    simp
theorem apart_val {k : Nat} (hk : 2000 < k) (a b c s t : Int) : (stepB a b c s = true → stepB a b c t = true → ∃ R e : Nat, b = R ∧ (e : Int) = max (s - t) (t - s) ∧ impl_ApartAround.f k a b c s t = some (((min (e % R) (R - e % R) / Nat.gcd (min (e % R) (R - e % R)) R : Nat) : Int), ((R / Nat.gcd (min (e % R) (R - e % R)) R : Nat) : Int), true) ∧
      spec_ApartAround.f k a b c s t = some (((min (e % R) (R - e % R) / Nat.gcd (min (e % R) (R - e % R)) R : Nat) : Int), ((R / Nat.gcd (min (e % R) (R - e % R)) R : Nat) : Int), true)) ∧
    (¬ (stepB a b c s = true ∧ stepB a b c t = true) → impl_ApartAround.f k a b c s t = some (0, 0, false) ∧ spec_ApartAround.f k a b c s t = some (0, 0, false)) := by
  obtain ⟨k, rfl⟩ : ∃ m, k = m + 1 := ⟨k - 1, by omega⟩
  unfold spec_ApartAround.f impl_ApartAround.f
  rw [has_two a b c s t (by omega), spStep_eq, spStep_eq]
  simp only [Option.bind_some]
  cases h : stepB a b c s with
  | false => simp [spec_ApartAround.j0]
  | true =>
    cases h2 : stepB a b c t with
    | false => simp [spec_ApartAround.j0]
    | true =>
      have g := stepB_true h
      have g2 := stepB_true h2
      refine ⟨fun _ _ => ?_, fun z => absurd ⟨rfl, rfl⟩ z⟩
      obtain ⟨b, rfl⟩ := Int.eq_ofNat_of_zero_le (show 0 ≤ b by omega)
      obtain ⟨e, he⟩ : ∃ e : Nat, (e : Int) = max (s - t) (t - s) := ⟨(max (s - t) (t - s)).toNat, by omega⟩
      refine ⟨b, e, rfl, he, ?_, ?_⟩
      · rw [if_pos (by rfl), w64 (x := s - t) (by omega), w64 (x := t - s) (by omega), mx_eq, mn_eq, ← he, if_neg (show ¬ (b : Int) = 0 by omega), tmod_nat]
        have hm := Nat.mod_lt e (show 0 < b by omega)
        generalize e % b = m at *
        rw [w64 (by omega), show min (m : Int) ((b : Int) - m) = ((min m (b - m) : Nat) : Int) from by omega, part_eq (by omega) (by omega) (by omega) (by omega)]
        simp
      · rw [if_pos rfl, spec_ApartAround.j0, if_neg (by decide), w64 (x := s - t) (by omega)]
        unfold spec_l1Abs.f spec_l1Most.f spec_l1Least.f
        rw [w64 (x := -(s - t)) (by omega)]
        have e1 : (if s - t > -(s - t) then some (s - t) else some (-(s - t))) = some (e : Int) := by
          by_cases c0 : s - t > -(s - t)
          · rw [if_pos c0]; congr 1; omega
          · rw [if_neg c0]; congr 1; omega
        rw [e1, Option.bind_some, Option.bind_some, if_neg (show ¬ (b : Int) = 0 by omega), tmod_nat]
        have hm := Nat.mod_lt e (show 0 < b by omega)
        generalize e % b = m at *
        rw [w64 (by omega)]
        have e2 : (if (m : Int) < (b : Int) - m then some (m : Int) else some ((b : Int) - m)) = some ((min m (b - m) : Nat) : Int) := by
          by_cases c0 : (m : Int) < (b : Int) - m
          · rw [if_pos c0]; congr 1; omega
          · rw [if_neg c0]; congr 1; omega
        rw [e2, Option.bind_some, spLow_eq (by omega) (by omega) (by omega) (by omega)]
        simp
theorem turns_val {k : Nat} (hk : 2000 < k) (a b c : Int) : (goodB a b c = true → ∃ N R : Nat, a = N ∧ b = R ∧ impl_TurnsOf.f k a b c = some ((((N - 1) / Nat.gcd (N - 1) R : Nat) : Int), ((R / Nat.gcd (N - 1) R : Nat) : Int), true) ∧ spec_TurnsOf.f k a b c = some ((((N - 1) / Nat.gcd (N - 1) R : Nat) : Int), ((R / Nat.gcd (N - 1) R : Nat) : Int), true)) ∧
    (goodB a b c ≠ true → impl_TurnsOf.f k a b c = some (0, 0, false) ∧ spec_TurnsOf.f k a b c = some (0, 0, false)) := by
  unfold impl_TurnsOf.f spec_TurnsOf.f
  rw [IsSpiral_eq, spGood_eq, Option.bind_some, Option.bind_some]
  refine ⟨fun h => ?_, fun h => ?_⟩
  · have g := h
    unfold goodB at g
    rw [decide_eq_true_eq] at g
    obtain ⟨N, rfl⟩ := Int.eq_ofNat_of_zero_le (show 0 ≤ a by omega)
    obtain ⟨R, rfl⟩ := Int.eq_ofNat_of_zero_le (show 0 ≤ b by omega)
    refine ⟨N, R, rfl, rfl, ?_⟩
    rw [if_pos h, if_pos h, w64 (by omega), show (N : Int) - 1 = ((N - 1 : Nat) : Int) from by omega, part_eq (by omega) (by omega) (by omega) (by omega), spLow_eq (by omega) (by omega) (by omega) (by omega), Option.bind_some, Option.bind_some]
    exact ⟨rfl, rfl⟩
  · rw [if_neg h, if_neg h]; exact ⟨rfl, rfl⟩
theorem head_val {k : Nat} (hk : 2000 < k) (a b c s : Int) : ∃ h t, impl_HeadOver.f k a b c s = some (h, t) ∧ spec_HeadOver.f a b c s = some (h, t) ∧ t = (stepB a b c s && decide (s + b ≤ a)) ∧ (t = true → h = b * c) := by
  unfold impl_HeadOver.f spec_HeadOver.f
  rw [has_one a b c s (by omega), spStep_eq]
  simp only [Option.bind_some]
  cases h : stepB a b c s with
  | false => exact ⟨0, false, rfl, rfl, rfl, fun z => by simp at z⟩
  | true =>
    have g := stepB_true h
    have hbc : b * c ≤ 60 * 300 := Int.mul_le_mul g.1.2.1.2 g.1.2.2.2 (by omega) (by omega)
    have hbc0 : 0 ≤ b * c := Int.mul_nonneg (by omega) (by omega)
    rw [if_pos rfl, w64 (x := s + b) (by omega), w64 (x := b * c) (by omega)]
    by_cases d : s + b > a
    · simp only [if_pos d]; exact ⟨0, false, rfl, rfl, by rw [decide_eq_false (by omega)]; rfl, fun z => by simp at z⟩
    · simp only [if_neg d]; exact ⟨_, true, rfl, rfl, by rw [decide_eq_true (by omega)]; rfl, fun _ => rfl⟩
theorem height_val {k : Nat} (hk : 2000 < k) (a b c s : Int) : ∃ h, impl_HeightSpiral.f k a b c s = some (h, stepB a b c s) ∧ spec_HeightSpiral.f a b c s = some (h, stepB a b c s) ∧ (stepB a b c s = true → h = wrap64 (s * c)) := by
  unfold impl_HeightSpiral.f spec_HeightSpiral.f
  rw [has_one a b c s (by omega), spStep_eq]
  simp only [Option.bind_some]
  cases h : stepB a b c s with
  | false => exact ⟨0, rfl, rfl, fun z => by simp at z⟩
  | true => exact ⟨_, rfl, rfl, fun _ => rfl⟩
theorem opp_val {k : Nat} (hk : 2000 < k) (a b c s t : Int) : (stepB a b c s = true → stepB a b c t = true → impl_AreOpposite.f k a b c s t = some (oppP b.toNat s.toNat t.toNat, true) ∧ spec_AreOpposite.f a b c s t = some (oppP b.toNat s.toNat t.toNat, true)) ∧
    (¬ (stepB a b c s = true ∧ stepB a b c t = true) → impl_AreOpposite.f k a b c s t = some (false, false) ∧ spec_AreOpposite.f a b c s t = some (false, false)) := by
  unfold impl_AreOpposite.f spec_AreOpposite.f
  rw [has_two a b c s t (by omega), spStep_eq, spStep_eq]
  simp only [Option.bind_some]
  cases h : stepB a b c s with
  | false => simp
  | true =>
    cases h2 : stepB a b c t with
    | false => simp
    | true =>
      have g := stepB_true h
      have g2 := stepB_true h2
      refine ⟨fun _ _ => ?_, fun z => absurd ⟨rfl, rfl⟩ z⟩
      obtain ⟨b, rfl⟩ := Int.eq_ofNat_of_zero_le (show 0 ≤ b by omega)
      obtain ⟨s, rfl⟩ := Int.eq_ofNat_of_zero_le (show 0 ≤ s by omega)
      obtain ⟨t, rfl⟩ := Int.eq_ofNat_of_zero_le (show 0 ≤ t by omega)
      have e1 := opposite_eq a c b t s (by omega) (by omega) (by omega) (by omega)
      have e2 := spOpposite_eq a c b s t (by omega) (by omega) (by omega) (by omega)
      have e3 : oppP b t s = oppP b s t := by
        unfold oppP
        by_cases q : t ≤ s
        · by_cases q2 : s ≤ t
          · have : s = t := by omega
            subst this; rfl
          · rw [if_pos q, if_neg q2]
        · rw [if_neg q, if_pos (by omega)]
      rw [e3] at e1
      simp only [Bool.and_self, if_true, e1, e2, Option.bind_some, Int.toNat_natCast]
      exact ⟨trivial, trivial⟩
theorem least_val {k : Nat} (hk : 2000 < k) (a b : Int) : ∃ ro fl, impl_LeastRound.f k a b = some (ro, fl) ∧ spec_LeastRound.f k a b = some (ro, fl) ∧ Spi2 a b ro fl := by
  obtain ⟨k, rfl⟩ : ∃ m, k = m + 1 := ⟨k - 1, by omega⟩
  have no : ∀ x : Int × Bool, x = (0, false) → Spi2 a b x.1 x.2 := fun x hx => by subst hx; exact ⟨fun z => by simp at z⟩
  unfold impl_LeastRound.f spec_LeastRound.f
  rw [within_eq, l1In_eq, Option.bind_some, Option.bind_some]
  by_cases h1 : 1 ≤ a ∧ a ≤ 300
  · rw [decide_eq_true h1]
    simp only [if_true]
    rw [within_eq, l1In_eq, Option.bind_some, Option.bind_some]
    by_cases h2 : 0 ≤ b ∧ b ≤ 20000
    · obtain ⟨r, rfl⟩ := Int.eq_ofNat_of_zero_le (show 0 ≤ a by omega)
      obtain ⟨L, rfl⟩ := Int.eq_ofNat_of_zero_le h2.1
      rw [decide_eq_true h2, impl_LeastRound.j0, spec_LeastRound.j0]
      simp only [Bool.not_true, Bool.false_eq_true, if_false, if_neg (show ¬ (r : Int) = 0 by omega)]
      unfold spec_l1Most.f
      have e : wrap64 (Int.tdiv (wrap64 ((wrap64 ((L : Int) + (r : Int))) - 1)) (r : Int)) = (((L + r - 1) / r : Nat) : Int) := by
        have hq := Nat.div_le_self (L + r - 1) r
        rw [w64 (x := (L : Int) + r) (by omega), w64 (x := (L : Int) + r - 1) (by omega), show (L : Int) + r - 1 = ((L + r - 1 : Nat) : Int) from by omega, tdiv_nat]
        generalize (L + r - 1) / r = q at *
        exact w64 (by omega)
      rw [e]
      have hd := Nat.div_add_mod (L + r - 1) r
      have hm := Nat.mod_lt (L + r - 1) (show 0 < r by omega)
      generalize (L + r - 1) / r = n at *
      generalize (L + r - 1) % r = m at *
      rw [mx_eq]
      have e2 : (if (3 : Int) > (n : Int) then some (3 : Int) else some (n : Int)) = some (max 3 (n : Int)) := by
        by_cases c : (3 : Int) > (n : Int)
        · rw [if_pos c]; congr 1; omega
        · rw [if_neg c]; congr 1; omega
      rw [e2, Option.bind_some]
      by_cases c : max 3 (n : Int) > 60
      · simp only [if_pos c]; exact ⟨_, _, rfl, rfl, no _ rfl⟩
      · simp only [if_neg c]
        refine ⟨_, _, rfl, rfl, ⟨fun _ => ?_⟩⟩
        have hn : n ≤ 60 := by omega
        have hrn : r * n ≤ 300 * 60 := Nat.mul_le_mul (by omega) hn
        have h3r : 3 * r ≤ 900 := by omega
        by_cases c3 : 3 < n
        · have em : max 3 (n : Int) = (n : Int) := by omega
          rw [em]
          obtain ⟨n, rfl⟩ : ∃ q, n = q + 1 := ⟨n - 1, by omega⟩
          rw [Nat.mul_add, Nat.mul_one] at hd hrn
          have e3 : ((n + 1 : Nat) : Int) * (r : Int) = ((r * n + r : Nat) : Int) := by rw [← Int.natCast_mul, Nat.mul_comm, Nat.mul_add, Nat.mul_one]
          have e4 : wrap64 (((n + 1 : Nat) : Int) - 1) = (n : Int) := by rw [w64 (by omega)]; omega
          rw [e4, e3, ← Int.natCast_mul, Nat.mul_comm n r, w64 (by omega), w64 (by omega)]
          exact ⟨by omega, by omega, fun _ => by omega⟩
        · have em : max 3 (n : Int) = 3 := by omega
          rw [em]
          have hn3 : r * n ≤ r * 3 := Nat.mul_le_mul_left _ (by omega)
          rw [w64 (x := 3 * (r : Int)) (by omega)]
          exact ⟨by omega, by omega, fun z => by omega⟩
    · rw [decide_eq_false h2, impl_LeastRound.j0, spec_LeastRound.j0]
      simp only [Bool.not_false, if_true]; exact ⟨_, _, rfl, rfl, no _ rfl⟩
  · rw [decide_eq_false h1]
    simp only [Bool.false_eq_true, if_false]
    rw [impl_LeastRound.j0, spec_LeastRound.j0]
    simp only [if_true]; exact ⟨_, _, rfl, rfl, no _ rfl⟩
/-- The steps above, one by one. -/
theorem above_gen (a R : Nat) (c : Int) (ha : a ≤ 400) (hR : 0 < R) (hR2 : R ≤ 60) (d : Nat) : ∀ (k i : Nat) (acc : List Int), a < i + d → d < k → i ≤ 1000 → acc.length ≤ i → ∃ g : List Int,
    spec_StepsAbove.l0 k acc i a R c = some (acc ++ g, true) ∧ g.length ≤ d ∧ (∀ j : Nat, j < g.length → rd g (j : Int) = ((i + j * R : Nat) : Int) ∧ i + j * R ≤ a) ∧ a < i + g.length * R := by
  induction d with
  | zero =>
    intro k i acc hd hk hi2 hl
    obtain ⟨k, rfl⟩ : ∃ m, k = m + 1 := ⟨k - 1, by omega⟩
    simp only [spec_StepsAbove.l0]
    exact ⟨[], by rw [if_neg (by omega), List.append_nil], by simp, fun j hj => by simp at hj, by simp; omega⟩
  | succ d ih =>
    intro k i acc hd hk hi2 hl
    obtain ⟨k, rfl⟩ : ∃ m, k = m + 1 := ⟨k - 1, by omega⟩
    simp only [spec_StepsAbove.l0]
    by_cases h : i ≤ a
    · rw [if_pos (by omega), if_pos (by omega), w64 (by omega), show (i : Int) + (R : Int) = ((i + R : Nat) : Int) from by omega]
      obtain ⟨g, g1, g2, g3, g4⟩ := ih k (i + R) (acc ++ [(i : Int)]) (by omega) (by omega) (by omega) (by simp; omega)
      refine ⟨(i : Int) :: g, by rw [g1]; simp, by simp; omega, fun j hj => ?_, by rw [List.length_cons, Nat.succ_mul]; omega⟩
      cases j with
      | zero => simp [rd]; omega
      | succ j =>
        have := g3 j (by simpa using hj)
        rw [Nat.succ_mul]
        refine ⟨?_, by omega⟩
        have e : rd ((i : Int) :: g) ((j + 1 : Nat) : Int) = rd g (j : Int) := by simp [rd]
        rw [e, this.1]; congr 1; omega
    · exact ⟨[], by rw [if_neg (by omega), List.append_nil], by simp, fun j hj => by simp at hj, by simp; omega⟩
theorem above_val {k : Nat} (hk : 2000 < k) (a b c s : Int) : ∃ ab, spec_StepsAbove.f k a b c s = some (ab, stepB a b c s) ∧ impl_StepsAbove.f k a b c s = some (ab, stepB a b c s) ∧ ab.length ≤ 400 ∧
    (stepB a b c s = true → (∀ i : Int, 0 ≤ i → i < ab.length → rd ab i = s + (i + 1) * b ∧ s + (i + 1) * b ≤ a) ∧ ((0 < ab.length) ↔ s + b ≤ a)) := by
  obtain ⟨⟨ab, ok⟩, r1, r2, r3⟩ := StepsAbove_eq hk a b c s
  have h0 := r1
  unfold spec_StepsAbove.f at h0
  rw [spStep_eq, Option.bind_some] at h0
  by_cases h : stepB a b c s = true
  · have g := stepB_true h
    obtain ⟨a, rfl⟩ := Int.eq_ofNat_of_zero_le (show 0 ≤ a by omega)
    obtain ⟨b, rfl⟩ := Int.eq_ofNat_of_zero_le (show 0 ≤ b by omega)
    obtain ⟨s, rfl⟩ := Int.eq_ofNat_of_zero_le (show 0 ≤ s by omega)
    rw [if_pos h, w64 (by omega), show (s : Int) + (b : Int) = ((s + b : Nat) : Int) from by omega] at h0
    obtain ⟨l, l1, l2, l3, l4⟩ := above_gen a b c (by omega) (by omega) (by omega) a k (s + b) [] (by omega) (by omega) (by omega) (by simp)
    rw [l1, List.nil_append] at h0
    have e := Option.some.inj h0
    have e1 : l = ab := congrArg Prod.fst e
    have e2 : true = ok := congrArg Prod.snd e
    subst e1
    subst e2
    rw [h]
    refine ⟨l, r1, r2, r3, fun _ => ⟨fun i h0 h1 => ?_, ?_⟩⟩
    · obtain ⟨j, rfl⟩ := Int.eq_ofNat_of_zero_le h0
      have z := l3 j (by omega)
      have e : (s : Int) + ((j : Int) + 1) * (b : Int) = ((s + b + j * b : Nat) : Int) := by
        rw [show (j : Int) + 1 = ((j + 1 : Nat) : Int) from rfl, ← Int.natCast_mul, Nat.succ_mul]; omega
      rw [e]
      exact ⟨z.1, by omega⟩
    · constructor
      · intro hp
        have := (l3 0 hp).2
        omega
      · intro hp
        apply Nat.pos_of_ne_zero
        intro z
        rw [z] at l4; omega
  · rw [if_neg h] at h0
    have e := Option.some.inj h0
    have e2 : false = ok := congrArg Prod.snd e
    subst e2
    rw [Bool.eq_false_iff.2 h]
    exact ⟨ab, r1, r2, r3, fun z => by simp at z⟩

/-! the sides -/
def sd (R q j : Nat) : Bool := sideN R j == q
theorem rd_none (x : List Int) (j : Nat) (h : x.length ≤ j) : rd x (j : Int) = 0 := by simp [rd, List.getD_eq_getElem?_getD, List.getElem?_eq_none h]
theorem counts_l0 (a R : Nat) (c : Int) (hR : 0 < R) (hR2 : R ≤ 100) (ha : a ≤ 400) (d : Nat) : ∀ (k i : Nat) (l : List Int), i + d = a + 1 → d + 1000 < k → 0 < i → l.length = 4 → (∀ q : Nat, 0 ≤ rd l (q : Int) ∧ rd l (q : Int) ≤ i) →
    ∃ r, spec_CountSides.l0 k l i a R c = some (r, true) ∧ impl_CountSides.l0 k l i a R c = some (r, true) ∧ r.length = 4 ∧ (∀ q : Nat, q < 4 → rd r (q : Int) = rd l (q : Int) + ((filt (sd R q) i d).length : Int)) ∧ rd r ((0 : Nat) : Int) + rd r ((1 : Nat) : Int) + rd r ((2 : Nat) : Int) + rd r ((3 : Nat) : Int) = rd l ((0 : Nat) : Int) + rd l ((1 : Nat) : Int) + rd l ((2 : Nat) : Int) + rd l ((3 : Nat) : Int) + d := by
  induction d with
  | zero =>
    intro k i l hd hk hi hl hb
    obtain ⟨k, rfl⟩ : ∃ m, k = m + 1 := ⟨k - 1, by omega⟩
    simp only [spec_CountSides.l0, impl_CountSides.l0]
    exact ⟨l, by rw [if_neg (by omega)], by rw [if_neg (by omega)], hl, fun q _ => by rw [filt_zero]; simp, by simp⟩
  | succ d ih =>
    intro k i l hd hk hi hl hb
    obtain ⟨k, rfl⟩ : ∃ m, k = m + 1 := ⟨k - 1, by omega⟩
    simp only [spec_CountSides.l0, impl_CountSides.l0]
    have hs := sideN_lt R i
    have hv : wrap64 (rd l (sideN R i : Int) + 1) = rd l (sideN R i : Int) + 1 := by
      have := hb (sideN R i)
      exact w64 (by omega)
    have hset : ∀ q : Nat, q < 4 → rd (l.set (sideN R i : Int).toNat (wrap64 (rd l (sideN R i : Int) + 1))) (q : Int) = rd l (q : Int) + (if sd R q i = true then 1 else 0) := by
      intro q hq
      rw [hv, Int.toNat_natCast]
      by_cases e : sideN R i = q
      · rw [if_pos (by unfold sd; rw [beq_iff_eq]; exact e), e, rd_set_eq _ _ _ (by omega)]
      · rw [if_neg (by unfold sd; rw [beq_iff_eq]; exact e), rd_set_ne _ _ _ _ (fun z => e z.symm), Int.add_zero]
    have hbig : ∀ q : Nat, 4 ≤ q → rd (l.set (sideN R i : Int).toNat (wrap64 (rd l (sideN R i : Int) + 1))) (q : Int) = 0 := by
      intro q hq
      exact rd_none _ _ (by simp; omega)
    obtain ⟨r, h1, h2, h3, h4, h5⟩ := ih k (i + 1) (l.set (sideN R i : Int).toNat (wrap64 (rd l (sideN R i : Int) + 1))) (by omega) (by omega) (by omega) (by simpa using hl) (fun q => by
      by_cases hq : q < 4
      · have := hb q
        rw [hset q hq]; split <;> omega
      · rw [hbig q (by omega)]; omega)
    refine ⟨r, ?_, ?_, h3, ?_, ?_⟩
    · rw [if_pos (by omega), spSide_eq _ _ R i hR hR2 hi (by omega) (by omega), Option.bind_some, if_pos (by omega), if_pos (by omega), w64 (x := (i : Int) + 1) (by omega)]
      exact h1
    · rw [if_pos (by omega), side_eq _ _ R i hR hR2 hi (by omega), Option.bind_some, if_pos (by omega), if_pos (by omega), w64 (x := (i : Int) + 1) (by omega)]
      exact h2
    · intro q hq
      rw [h4 q hq, hset q hq, filt_succ]
      by_cases e : sd R q i = true
      · rw [if_pos e, if_pos e, List.length_cons]; omega
      · rw [if_neg e, if_neg e]; omega
    · rw [h5, hset 0 (by omega), hset 1 (by omega), hset 2 (by omega), hset 3 (by omega)]
      have : sideN R i = 0 ∨ sideN R i = 1 ∨ sideN R i = 2 ∨ sideN R i = 3 := by omega
      unfold sd
      rcases this with e | e | e | e <;> simp [e] <;> omega
theorem sum4 {k : Nat} (hk : 100 < k) (l : List Int) (hl : l.length = 4) (N : Nat) (hN : N ≤ 1000) (hb : ∀ q : Nat, q < 4 → 0 ≤ rd l (q : Int) ∧ rd l (q : Int) ≤ 1000) (hs : rd l ((0 : Nat) : Int) + rd l ((1 : Nat) : Int) + rd l ((2 : Nat) : Int) + rd l ((3 : Nat) : Int) = N) : laws_wSum.f k l = some (N : Int) := by
  obtain ⟨k, rfl⟩ : ∃ m, k = m + 5 := ⟨k - 5, by omega⟩
  have b0 : 0 ≤ rd l 0 ∧ rd l 0 ≤ 1000 := hb 0 (by omega)
  have b1 : 0 ≤ rd l 1 ∧ rd l 1 ≤ 1000 := hb 1 (by omega)
  have b2 : 0 ≤ rd l 2 ∧ rd l 2 ≤ 1000 := hb 2 (by omega)
  have b3 : 0 ≤ rd l 3 ∧ rd l 3 ≤ 1000 := hb 3 (by omega)
  have hs : rd l 0 + rd l 1 + rd l 2 + rd l 3 = N := hs
  unfold laws_wSum.f
  rw [hl]
  have step : ∀ (k : Nat) (x y i j : Int), 0 ≤ i → i < 4 → j = i + 1 → y = x + rd l i → 0 ≤ y → y ≤ 10000 → laws_wSum.l0 (k + 1) x l ((4 : Nat) : Int) i = laws_wSum.l0 k y l ((4 : Nat) : Int) j := by
    intro k x y i j h1 h2 h3 h4 h5 h6
    simp only [laws_wSum.l0]
    subst h3
    subst h4
    rw [if_pos (by omega), if_pos (by omega), if_pos (by omega), w64 (by omega), w64 (by omega)]
  rw [step (k + 4) 0 (rd l 0) 0 1 (by omega) (by omega) (by omega) (by omega) (by omega) (by omega), step (k + 3) (rd l 0) (rd l 0 + rd l 1) 1 2 (by omega) (by omega) (by omega) (by omega) (by omega) (by omega), step (k + 2) (rd l 0 + rd l 1) (rd l 0 + rd l 1 + rd l 2) 2 3 (by omega) (by omega) (by omega) (by omega) (by omega) (by omega), step (k + 1) (rd l 0 + rd l 1 + rd l 2) N 3 4 (by omega) (by omega) (by omega) (by omega) (by omega) (by omega)]
  simp only [laws_wSum.l0]
  rw [if_neg (by omega)]
theorem counts_val {k : Nat} (hk : 3000 < k) (a b c : Int) : ∃ co, spec_CountSides.f k a b c = some (co, goodB a b c) ∧ impl_CountSides.f k a b c = some (co, goodB a b c) ∧ co.length ≤ 4 ∧ (goodB a b c = true → co.length = 4 ∧ laws_wSum.f k co = some a ∧ ∀ q : Nat, q < 4 → rd co (q : Int) = ((filt (sd b.toNat q) 1 a.toNat).length : Int)) := by
  unfold spec_CountSides.f impl_CountSides.f
  rw [spGood_eq, IsSpiral_eq, Option.bind_some, Option.bind_some]
  by_cases h : goodB a b c = true
  · have g := h
    unfold goodB at g
    rw [decide_eq_true_eq] at g
    obtain ⟨a, rfl⟩ := Int.eq_ofNat_of_zero_le (show 0 ≤ a by omega)
    obtain ⟨b, rfl⟩ := Int.eq_ofNat_of_zero_le (show 0 ≤ b by omega)
    obtain ⟨r, h1, h2, h3, h4, h5⟩ := counts_l0 a b c (by omega) (by omega) (by omega) a k 1 (List.replicate 4 0) (by omega) (by omega) (by omega) (by simp) (fun q => by rw [rd_rep]; omega)
    rw [if_pos h, if_pos h, if_pos (by decide), if_pos (by decide), h]
    have h6 : ∀ q : Nat, q < 4 → rd r (q : Int) = ((filt (sd b q) 1 a).length : Int) := fun q hq => by rw [h4 q hq, rd_rep, Int.zero_add]
    rw [rd_rep, rd_rep, rd_rep, rd_rep] at h5
    refine ⟨r, h1, h2, by omega, fun _ => ⟨h3, sum4 (by omega) r h3 a (by omega) (fun q hq => ?_) (by omega), h6⟩⟩
    have := filt_length (sd b q) 1 a
    rw [h6 q hq]; omega
  · rw [if_neg h, if_neg h, Bool.eq_false_iff.2 h]; exact ⟨_, rfl, rfl, by simp, fun z => by simp at z⟩
def nw (q : Nat) : UInt8 := if q = 0 then 110 else if q = 1 then 101 else if q = 2 then 115 else 119
theorem nw_at (q : Nat) (h : q < 4) : (⟨#[110, 101, 115, 119]⟩ : ByteArray).extract q (q + 1) = ⟨#[nw q]⟩ := by
  have : q = 0 ∨ q = 1 ∨ q = 2 ∨ q = 3 := by omega
  rcases this with rfl | rfl | rfl | rfl <;> rfl
theorem nw_nesw (q : Nat) (h : q < 4) : nesw (nw q) = q := by
  have : q = 0 ∨ q = 1 ∨ q = 2 ∨ q = 3 := by omega
  rcases this with rfl | rfl | rfl | rfl <;> decide
theorem nw_inj (p q : Nat) (hp : p < 4) (hq : q < 4) : ((⟨#[nw p]⟩ : ByteArray).toList == (⟨#[nw q]⟩ : ByteArray).toList) = (p == q) := by
  rw [one_toList, one_toList]
  have : q = 0 ∨ q = 1 ∨ q = 2 ∨ q = 3 := by omega
  have : p = 0 ∨ p = 1 ∨ p = 2 ∨ p = 3 := by omega
  rcases this with rfl | rfl | rfl | rfl <;> rcases ‹q = 0 ∨ _› with rfl | rfl | rfl | rfl <;> decide
theorem at_side {k : Nat} (hk : 3000 < k) (a b c : Int) (h : goodB a b c = true) (q : Nat) (hq : q < 4) : impl_StepsAtSide.f k a b c ⟨#[nw q]⟩ = some (filt (sd b.toNat q) 1 a.toNat, true) := by
  unfold impl_StepsAtSide.f
  have g := h
  unfold goodB at g
  rw [decide_eq_true_eq] at g
  obtain ⟨a, rfl⟩ := Int.eq_ofNat_of_zero_le (show 0 ≤ a by omega)
  obtain ⟨b, rfl⟩ := Int.eq_ofNat_of_zero_le (show 0 ≤ b by omega)
  rw [IsSpiral_eq, Option.bind_some, if_pos h, if_pos (show (⟨#[nw q]⟩ : ByteArray).size = 1 from rfl), show (⟨#[nw q]⟩ : ByteArray).data.getD 0 0 = nw q from rfl, if_pos (by rw [nw_nesw q hq]; omega)]
  rw [thoseW_eq _ (sd b q) a (by omega) (by omega) (fun j j1 j2 => by
    unfold impl_StepsAtSide.q sd
    rw [side_eq _ _ b j (by omega) (by omega) (by omega) (by omega), Option.bind_some, nw_nesw q hq]
    congr 1
    rw [Bool.eq_iff_iff, beq_iff_eq, beq_iff_eq]; omega), Option.bind_some]
  rfl
theorem sideof_val {k : Nat} (hk : 3000 < k) (a b c s : Int) : ∃ si, impl_SideOf.f k a b c s = some (si, stepB a b c s) ∧ spec_SideOf.f k a b c s = some (si, stepB a b c s) ∧ (stepB a b c s = true → si = ⟨#[nw (sideN b.toNat s.toNat)]⟩) := by
  have hS := nw_at
  unfold impl_SideOf.f spec_SideOf.f
  generalize (⟨#[110, 101, 115, 119]⟩ : ByteArray) = S at hS ⊢
  rw [has_one a b c s (by omega), spStep_eq]
  simp only [Option.bind_some]
  cases h : stepB a b c s with
  | false => exact ⟨_, rfl, rfl, fun z => by simp at z⟩
  | true =>
    have g := stepB_true h
    obtain ⟨b, rfl⟩ := Int.eq_ofNat_of_zero_le (show 0 ≤ b by omega)
    obtain ⟨s, rfl⟩ := Int.eq_ofNat_of_zero_le (show 0 ≤ s by omega)
    rw [side_eq a c b s (by omega) (by omega) (by omega) (by omega), spSide_eq a c b s (by omega) (by omega) (by omega) (by omega) (by omega)]
    have hl := sideN_lt b s
    rw [if_pos rfl, Option.bind_some, w64 (by omega), if_pos (by omega), if_pos (by omega), if_pos (by omega), Int.toNat_natCast, show ((sideN b s : Int) + 1).toNat = sideN b s + 1 from by omega, hS _ hl]
    exact ⟨_, rfl, rfl, fun _ => by rw [Int.toNat_natCast, Int.toNat_natCast]⟩

/-! the opposite steps, and what is apart -/
theorem oppsteps_val {k : Nat} (hk : 2000 < k) (a b c s : Int) : ∃ ot, spec_OppositeSteps.f k a b c s = some (ot, stepB a b c s) ∧ impl_OppositeSteps.f k a b c s = some (ot, stepB a b c s) ∧ ot.length ≤ 400 ∧ (stepB a b c s = true → ot = filt (oppP b.toNat s.toNat) 1 a.toNat) := by
  obtain ⟨⟨ot, ok⟩, r1, r2, r3⟩ := OppositeSteps_eq hk a b c s
  have h0 := r1
  unfold spec_OppositeSteps.f at h0
  rw [spStep_eq, Option.bind_some] at h0
  by_cases h : stepB a b c s = true
  · have g := stepB_true h
    obtain ⟨a, rfl⟩ := Int.eq_ofNat_of_zero_le (show 0 ≤ a by omega)
    obtain ⟨b, rfl⟩ := Int.eq_ofNat_of_zero_le (show 0 ≤ b by omega)
    obtain ⟨s, rfl⟩ := Int.eq_ofNat_of_zero_le (show 0 ≤ s by omega)
    have e := spec_opp_l0 a b s c (by omega) (by omega) (by omega) (by omega) a k 1 [] (by omega) (by omega) (by simp)
    rw [show ((1 : Nat) : Int) = 1 from rfl] at e
    rw [if_pos h, e, List.nil_append] at h0
    have e := Option.some.inj h0
    have e1 : filt (oppP b s) 1 a = ot := congrArg Prod.fst e
    have e2 : true = ok := congrArg Prod.snd e
    subst e2
    rw [h]
    exact ⟨ot, r1, r2, r3, fun _ => by rw [Int.toNat_natCast, Int.toNat_natCast, Int.toNat_natCast, e1]⟩
  · rw [if_neg h] at h0
    have e := Option.some.inj h0
    have e2 : false = ok := congrArg Prod.snd e
    subst e2
    rw [Bool.eq_false_iff.2 h]
    exact ⟨ot, r1, r2, r3, fun z => by simp at z⟩
theorem filt_none (p : Nat → Bool) (i d : Nat) (h : ∀ j, p j ≠ true) : filt p i d = [] := by
  rw [filt_skip p d i d (fun j _ _ => h j), Nat.sub_self, filt_zero]
theorem opp_odd (R s j : Nat) (h : R % 2 = 1) : oppP R s j ≠ true := by
  unfold oppP
  intro z
  rw [beq_iff_eq] at z
  omega
theorem opp_half (R s j e : Nat) (hR : 0 < R) (he : (e : Int) = max ((s : Int) - j) ((j : Int) - s)) : (oppP R s j = true ↔ (min (e % R) (R - e % R) / Nat.gcd (min (e % R) (R - e % R)) R = 1 ∧ R / Nat.gcd (min (e % R) (R - e % R)) R = 2)) ∧ 2 * (min (e % R) (R - e % R) / Nat.gcd (min (e % R) (R - e % R)) R) ≤ R / Nat.gcd (min (e % R) (R - e % R)) R := by
  have e0 : (if s ≤ j then j - s else s - j) = e := by split <;> omega
  unfold oppP
  rw [e0, beq_iff_eq]
  have hm := Nat.mod_lt e hR
  generalize e % R = t at *
  have hg : 0 < Nat.gcd (min t (R - t)) R := Nat.gcd_pos_of_pos_right _ hR
  have e1 : Nat.gcd (min t (R - t)) R * (min t (R - t) / Nat.gcd (min t (R - t)) R) = min t (R - t) := Nat.mul_div_cancel' (Nat.gcd_dvd_left _ _)
  have e2 : Nat.gcd (min t (R - t)) R * (R / Nat.gcd (min t (R - t)) R) = R := Nat.mul_div_cancel' (Nat.gcd_dvd_right _ _)
  refine ⟨⟨fun h => ?_, fun h => ?_⟩, ?_⟩
  · have em : min t (R - t) = t := by omega
    have eg : Nat.gcd (min t (R - t)) R = t := by
      rw [em, ← h, Nat.gcd_comm, Nat.gcd_mul_left_left]
    rw [eg, em, Nat.div_self (by omega)]
    exact ⟨rfl, by rw [← h, Nat.mul_div_cancel _ (by omega)]⟩
  · rw [h.1] at e1
    rw [h.2] at e2
    omega
  · apply Nat.le_of_mul_le_mul_left _ hg
    rw [e2, Nat.mul_left_comm, e1]
    omega
theorem angle_ex {k : Nat} (hk : 2000 < k) (a b c s : Int) : ∃ num den, impl_AngleOf.f k a b c s = some (num, den, stepB a b c s) ∧ spec_AngleOf.f k a b c s = some (num, den, stepB a b c s) ∧ (stepB a b c s = true → ∃ R t : Nat, b = R ∧ (t : Int) = (s - 1) % b ∧ num = ((t / Nat.gcd t R : Nat) : Int) ∧ den = ((R / Nat.gcd t R : Nat) : Int)) := by
  have h := angle_val hk a b c s
  by_cases g : stepB a b c s = true
  · obtain ⟨R, t, h1, h2, -, h3, h4⟩ := h.1 g
    rw [g]; exact ⟨_, _, h3, h4, fun _ => ⟨R, t, h1, h2, rfl, rfl⟩⟩
  · obtain ⟨h1, h2⟩ := h.2 g
    rw [Bool.eq_false_iff.2 g]; exact ⟨_, _, h1, h2, fun z => by simp at z⟩
theorem turns_ex {k : Nat} (hk : 2000 < k) (a b c : Int) : ∃ x y, impl_TurnsOf.f k a b c = some (x, y, goodB a b c) ∧ spec_TurnsOf.f k a b c = some (x, y, goodB a b c) ∧ (goodB a b c = true → ∃ N R : Nat, a = N ∧ b = R ∧ x = (((N - 1) / Nat.gcd (N - 1) R : Nat) : Int) ∧ y = ((R / Nat.gcd (N - 1) R : Nat) : Int)) := by
  have h := turns_val hk a b c
  by_cases g : goodB a b c = true
  · obtain ⟨N, R, h1, h2, h3, h4⟩ := h.1 g
    rw [g]; exact ⟨_, _, h3, h4, fun _ => ⟨N, R, h1, h2, rfl, rfl⟩⟩
  · obtain ⟨h1, h2⟩ := h.2 g
    rw [Bool.eq_false_iff.2 g]; exact ⟨_, _, h1, h2, fun z => by simp at z⟩
theorem apart_ex {k : Nat} (hk : 2000 < k) (a b c s t : Int) : ∃ ee ff iu fu, impl_ApartAround.f k a b c s t = some (ee, ff, fu) ∧ spec_ApartAround.f k a b c s t = some (ee, ff, fu) ∧ impl_AreOpposite.f k a b c s t = some (iu, fu) ∧ spec_AreOpposite.f a b c s t = some (iu, fu) := by
  have h := apart_val hk a b c s t
  have g := opp_val hk a b c s t
  by_cases x : stepB a b c s = true ∧ stepB a b c t = true
  · obtain ⟨R, e, -, -, h1, h2⟩ := h.1 x.1 x.2
    obtain ⟨g1, g2⟩ := g.1 x.1 x.2
    exact ⟨_, _, _, _, h1, h2, g1, g2⟩
  · obtain ⟨h1, h2⟩ := h.2 x
    obtain ⟨g1, g2⟩ := g.2 x
    exact ⟨_, _, _, _, h1, h2, g1, g2⟩
theorem opp_ex {k : Nat} (hk : 2000 < k) (a b c s n : Int) (h : stepB a b c s = true) (h1 : 1 ≤ n) (h2 : n ≤ a) : ∃ (o : Bool) (p q : Int), o = oppP b.toNat s.toNat n.toNat ∧ impl_AreOpposite.f k a b c s n = some (o, true) ∧ impl_ApartAround.f k a b c s n = some (p, q, true) ∧ (o = true ↔ (p = 1 ∧ q = 2)) ∧ wrap64 (2 * p) ≤ q := by
  have g := stepB_true h
  have gn : stepB a b c n = true := by
    unfold stepB at h ⊢
    rw [Bool.and_eq_true, decide_eq_true_eq] at h ⊢
    exact ⟨h.1, h1, h2⟩
  obtain ⟨a1, -⟩ := (opp_val hk a b c s n).1 h gn
  obtain ⟨R, e, rfl, he, b1, -⟩ := (apart_val hk a b c s n).1 h gn
  obtain ⟨s, rfl⟩ := Int.eq_ofNat_of_zero_le (show 0 ≤ s by omega)
  obtain ⟨n, rfl⟩ := Int.eq_ofNat_of_zero_le (show 0 ≤ n by omega)
  obtain ⟨c1, c2⟩ := opp_half R s n e (by omega) he
  have d1 := Nat.div_le_self (min (e % R) (R - e % R)) (Nat.gcd (min (e % R) (R - e % R)) R)
  have d2 := Nat.mod_lt e (show 0 < R by omega)
  have d3 : min (e % R) (R - e % R) ≤ 60 := by omega
  refine ⟨_, _, _, rfl, a1, b1, ?_, ?_⟩
  · rw [Int.toNat_natCast, Int.toNat_natCast, Int.toNat_natCast, c1]; omega
  · generalize min (e % R) (R - e % R) / Nat.gcd (min (e % R) (R - e % R)) R = p at *
    generalize R / Nat.gcd (min (e % R) (R - e % R)) R = q at *
    rw [w64 (by omega)]; omega
/-! the whole -/
theorem Spi_ok {k : Nat} (hk : 2000000 ≤ k) (a b c s : Int) : ∃ (num den : Int) (ok : Bool) (ab : List Int) (hd_ : Int) (t3 : Bool) (ot : List Int) (si : ByteArray) (hi : Int) (co : List Int) (th : Bool) (x y : Int) (LL : Int → List Int) (hh : Int → Int) (isn : Int → Bool) (pp qq : Int → Int), Spi k a b c s num den ok ab hd_ ot si hi co th x y LL hh isn pp qq ∧
    ok = (th && (decide (1 ≤ s) && decide (s ≤ a))) ∧ t3 = (ok && decide ((ab.length : Int) > 0)) ∧
    impl_AngleOf.f k a b c s = some (num, den, ok) ∧ spec_AngleOf.f k a b c s = some (num, den, ok) ∧
    impl_StepsAbove.f k a b c s = some (ab, ok) ∧ spec_StepsAbove.f k a b c s = some (ab, ok) ∧
    impl_HeadOver.f k a b c s = some (hd_, t3) ∧ spec_HeadOver.f a b c s = some (hd_, t3) ∧
    impl_OppositeSteps.f k a b c s = some (ot, ok) ∧ spec_OppositeSteps.f k a b c s = some (ot, ok) ∧
    impl_SideOf.f k a b c s = some (si, ok) ∧ spec_SideOf.f k a b c s = some (si, ok) ∧
    impl_HeightSpiral.f k a b c s = some (hi, ok) ∧ spec_HeightSpiral.f a b c s = some (hi, ok) ∧
    impl_CountSides.f k a b c = some (co, th) ∧ spec_CountSides.f k a b c = some (co, th) ∧
    impl_TurnsOf.f k a b c = some (x, y, th) ∧ spec_TurnsOf.f k a b c = some (x, y, th) ∧
    laws_wSame.f k ab ab = some true ∧ laws_wSame.f k ot ot = some true ∧ laws_wSame.f k co co = some true ∧
    impl_IsSpiral.f a b c = some th ∧ spec_IsSpiral.f a b c = some th := by
  obtain ⟨num, den, an1, an2, an3⟩ := angle_ex (k := k) (by omega) a b c s
  obtain ⟨ab, ab1, ab2, ab3, ab4⟩ := above_val (k := k) (by omega) a b c s
  obtain ⟨hd_, t3, hd1, hd2, hd3, hd4⟩ := head_val (k := k) (by omega) a b c s
  obtain ⟨ot, ot1, ot2, ot3, ot4⟩ := oppsteps_val (k := k) (by omega) a b c s
  obtain ⟨si, si1, si2, si3⟩ := sideof_val (k := k) (by omega) a b c s
  obtain ⟨hi, hi1, hi2, hi3⟩ := height_val (k := k) (by omega) a b c s
  obtain ⟨co, co1, co2, co3, co4⟩ := counts_val (k := k) (by omega) a b c
  obtain ⟨x, y, tu1, tu2, tu3⟩ := turns_ex (k := k) (by omega) a b c
  have hop : ∀ n : Int, ∃ pq : Int × Int, stepB a b c s = true → 1 ≤ n → n ≤ a → impl_AreOpposite.f k a b c s n = some (oppP b.toNat s.toNat n.toNat, true) ∧ impl_ApartAround.f k a b c s n = some (pq.1, pq.2, true) ∧ (oppP b.toNat s.toNat n.toNat = true ↔ (pq.1 = 1 ∧ pq.2 = 2)) ∧ wrap64 (2 * pq.1) ≤ pq.2 := by
    intro n
    by_cases z : stepB a b c s = true ∧ 1 ≤ n ∧ n ≤ a
    · obtain ⟨o, p, q, rfl, h1, h2, h3, h4⟩ := opp_ex (k := k) (by omega) a b c s n z.1 z.2.1 z.2.2
      exact ⟨(p, q), fun _ _ _ => ⟨h1, h2, h3, h4⟩⟩
    · exact ⟨(0, 0), fun h1 h2 h3 => absurd ⟨h1, h2, h3⟩ z⟩
  obtain ⟨pq, hpq⟩ := Classical.axiomOfChoice hop
  have ht3 : t3 = (stepB a b c s && decide ((ab.length : Int) > 0)) := by
    rw [hd3]
    by_cases h : stepB a b c s = true
    · rw [h]
      congr 1
      rw [decide_eq_decide]
      have := (ab4 h).2
      omega
    · rw [Bool.eq_false_iff.2 h]; rfl
  have good : stepB a b c s = true → goodB a b c = true := fun h => by unfold stepB at h; rw [Bool.and_eq_true] at h; exact h.1
  have bnd : goodB a b c = true → (1 ≤ a ∧ a ≤ 400) ∧ (3 ≤ b ∧ b ≤ 60) ∧ (1 ≤ c ∧ c ≤ 300) := fun h => by unfold goodB at h; exact of_decide_eq_true h
  have ext : ∀ i : Int, 0 ≤ i → i < 4 → (⟨#[110, 101, 115, 119]⟩ : ByteArray).extract i.toNat (wrap64 (i + 1)).toNat = ⟨#[nw i.toNat]⟩ := by
    intro i h1 h2
    rw [w64 (by omega), show (i + 1).toNat = i.toNat + 1 from by omega, nw_at _ (by omega)]
  have mem : ∀ (p : Nat → Bool) (n : Int), 1 ≤ n → n ≤ a → laws_wHas.f k (filt p 1 a.toNat) n = some (p n.toNat) ∨ ¬ a ≤ 1000 := by
    intro p n h1 h2
    by_cases h3 : a ≤ 1000
    · left
      have hl := filt_length p 1 a.toNat
      rw [wHas_eq _ (by omega) (by omega)]
      congr 1
      obtain ⟨m, rfl⟩ := Int.eq_ofNat_of_zero_le (show 0 ≤ n by omega)
      rw [Bool.eq_iff_iff, decide_eq_true_eq, filt_mem, Int.toNat_natCast]
      exact ⟨fun z => z.2.2, fun z => ⟨by omega, by omega, z⟩⟩
    · exact .inr h3
  have has : goodB a b c = true → ∀ (p : Nat → Bool) (n : Int), 1 ≤ n → n ≤ a → laws_wHas.f k (filt p 1 a.toNat) n = some (p n.toNat) := fun g p n h1 h2 => (mem p n h1 h2).resolve_right (by have := bnd g; omega)
  have far : stepB a b c s = true → ∀ i : Int, 0 ≤ i → i < ab.length → stepB a b c (rd ab i) = true ∧ 0 ≤ (i + 1) * b ∧ i + 1 ≤ (i + 1) * b ∧ rd ab i = s + (i + 1) * b ∧ s + (i + 1) * b ≤ a := by
    intro h i h1 h2
    have g := stepB_true h
    obtain ⟨e1, e2⟩ := (ab4 h).1 i h1 h2
    have m1 : (i + 1) * 1 ≤ (i + 1) * b := Int.mul_le_mul_of_nonneg_left (by omega) (by omega)
    rw [Int.mul_one] at m1
    refine ⟨?_, by omega, m1, e1, e2⟩
    unfold stepB
    rw [good h, Bool.true_and, decide_eq_true_eq, e1]
    omega
  refine ⟨num, den, stepB a b c s, ab, hd_, t3, ot, si, hi, co, goodB a b c, x, y, fun i => filt (sd b.toNat i.toNat) 1 a.toNat, fun i => wrap64 (rd ab i * c), fun n => oppP b.toNat s.toNat n.toNat, fun n => (pq n).1, fun n => (pq n).2, ?_, ?_, ht3, an1, an2, ab2, ab1, hd1, hd2, ot2, ot1, si1, si2, hi1, hi2, co2, co1, tu1, tu2, wSame_self (by omega) (by omega), wSame_self (by omega) (by omega), wSame_self (by omega) (by omega), IsSpiral_eq a b c, ?_⟩
  · exact
    { wis1 := fun z => by
        have g := bnd z
        obtain ⟨N, R, rfl, rfl, rfl, rfl⟩ := tu3 z
        rw [w64 (by omega), show (N : Int) - 1 = ((N - 1 : Nat) : Int) from by omega]
        exact wIs_low (by omega) (by omega) (by omega) (by omega)
      colen := fun z => (co4 z).1
      wsum := fun z => (co4 z).2.1
      side := fun z i h1 h2 => by rw [ext i h1 h2]; exact at_side (by omega) a b c z i.toNat (by omega)
      sidelen := fun z i h1 h2 => by
        have := (co4 z).2.2 i.toNat (by omega)
        rw [Int.toNat_of_nonneg h1] at this
        exact this.symm
      siderise := fun z i h1 h2 => by
        have g := bnd z
        have := filt_length (sd b.toNat i.toNat) 1 a.toNat
        exact wRises_eq (by omega) (by omega) (filt_rise _ _ _)
      sidehas := fun z i h1 h2 => by
        have g := stepB_true z
        rw [ext i h1 h2, si3 z, nw_inj _ _ (sideN_lt _ _) (by omega), has (good z) _ _ g.2.1 g.2.2]
        rfl
      rpos := fun z => by have := stepB_true z; omega
      wis2 := fun z => by
        have g := stepB_true z
        obtain ⟨R, t, rfl, ht, rfl, rfl⟩ := an3 z
        have hm := Int.emod_lt_of_pos (s - 1) (show (0 : Int) < R by omega)
        rw [w64 (by omega), Int.tmod_eq_emod_of_nonneg (by omega), ← ht]
        exact wIs_low (by omega) (by omega) (by omega) (by omega)
      low := fun z => by
        have g := stepB_true z
        obtain ⟨R, t, rfl, ht, rfl, rfl⟩ := an3 z
        have hm := Int.emod_lt_of_pos (s - 1) (show (0 : Int) < R by omega)
        left
        have hg : 0 < Nat.gcd t R := Nat.gcd_pos_of_pos_right _ (by omega)
        have h1 : Nat.gcd t R * (t / Nat.gcd t R) = t := Nat.mul_div_cancel' (Nat.gcd_dvd_left _ _)
        have h2 : Nat.gcd t R * (R / Nat.gcd t R) = R := Nat.mul_div_cancel' (Nat.gcd_dvd_right _ _)
        have h3 : t / Nat.gcd t R < R / Nat.gcd t R := by
          apply Nat.lt_of_mul_lt_mul_left (a := Nat.gcd t R)
          rw [h1, h2]; omega
        exact Int.ofNat_lt.2 h3
      height := hi3
      orise := fun z => by
        rw [ot4 z] at ot3 ⊢
        exact wRises_eq (by omega) (by omega) (filt_rise _ _ _)
      odd := fun z h => by
        have g := stepB_true z
        obtain ⟨R, rfl⟩ := Int.eq_ofNat_of_zero_le (show 0 ≤ b by omega)
        rw [show (2 : Int) = ((2 : Nat) : Int) from rfl, tmod_nat] at h
        rw [ot4 z, filt_none _ _ _ (fun j => opp_odd _ _ _ (by rw [Int.toNat_natCast]; omega))]
        rfl
      abs := by omega
      ang := fun z i h1 h2 => by
        obtain ⟨f1, f2, f3, f4, f5⟩ := far z i h1 h2
        obtain ⟨n2, d2, e1, -, e3⟩ := angle_ex (k := k) (by omega) a b c (rd ab i)
        obtain ⟨R, t, r1, r2, r3, r4⟩ := an3 z
        obtain ⟨R', t', r1', r2', r3', r4'⟩ := e3 f1
        rw [e1, f1]
        have eR : R' = R := by omega
        have et : t' = t := by
          rw [f4, show s + (i + 1) * b - 1 = s - 1 + (i + 1) * b from by omega, Int.add_mul_emod_self_right] at r2'
          omega
        rw [r3', r4', r3, r4, eR, et]
      hei := fun z i h1 h2 => by
        obtain ⟨f1, -⟩ := far z i h1 h2
        obtain ⟨h, e1, -, e3⟩ := height_val (k := k) (by omega) a b c (rd ab i)
        rw [e1, e3 f1, f1]
      abn := fun z i h1 h2 => by
        have g := stepB_true z
        obtain ⟨f1, f2, f3, f4, f5⟩ := far z i h1 h2
        have t : t3 = true := by rw [ht3, z, Bool.true_and]; exact decide_eq_true (by omega)
        have m1 : (i + 1) * b * c = (i + 1) * (b * c) := Int.mul_assoc _ _ _
        have m2 : (s + (i + 1) * b) * c = s * c + (i + 1) * b * c := Int.add_mul _ _ _
        have m3 : (s + (i + 1) * b) * c ≤ 400 * 300 := Int.mul_le_mul (by omega) (by omega) (by omega) (by omega)
        have m4 : 0 ≤ s * c := Int.mul_nonneg (by omega) (by omega)
        have m5 : 0 ≤ (i + 1) * b * c := Int.mul_nonneg f2 (by omega)
        rw [hd4 t, hi3 z, f4, w64 (x := i + 1) (by omega), w64 (x := (i + 1) * b) (by omega), w64 (x := s + (i + 1) * b) (by omega), ← m1, m2]
        rw [m2] at m3
        generalize (i + 1) * b * c = p at *
        generalize s * c = q at *
        rw [w64 (x := q + p) (by omega), w64 (x := q) (by omega), w64 (x := p) (by omega), show q + p - q = p from by omega, w64 (x := p) (by omega)]
        exact ⟨rfl, f5, rfl⟩
      opp := fun z n h1 h2 _ => by
        obtain ⟨p1, p2, p3, p4⟩ := hpq n z h1 h2
        refine ⟨p1, p2, ?_, p3, p4⟩
        rw [ot4 z, has (good z) _ _ h1 h2] }
  · unfold stepB
    congr 1
    rw [Bool.eq_iff_iff, Bool.and_eq_true, decide_eq_true_eq, decide_eq_true_eq, decide_eq_true_eq]
  · unfold spec_IsSpiral.f
    rw [spGood_eq, Option.bind_some]
theorem FnSpiralsTurnOfAll (a0_0 a0_1 a0_2 a1 a2_0 a2_1 a2_2 a3 a4 a5_0 a5_1 a5_2 : Int) (a6 : ByteArray) (a7 a8 : Int) (w : World) :
    Calls Try.prog 5 #[.agg #[.int .i64 a0_0, .int .i64 a0_1, .int .i64 a0_2], .int .i64 a1, .agg #[.int .i64 a2_0, .int .i64 a2_1, .int .i64 a2_2], .int .i64 a3, .int .i64 a4, .agg #[.int .i64 a5_0, .int .i64 a5_1, .int .i64 a5_2], .string a6, .int .i64 a7, .int .i64 a8] w fun e w' => e = .returned (.bool true) ∧ Below w.heap.size w w' := by
  by_cases hs : (a6.size : Int) > 1048576
  · exact spi_long 2000000 a0_0 a0_1 a0_2 a1 a2_0 a2_1 a2_2 a3 a4 a5_0 a5_1 a5_2 a6 a7 a8 w hs
  · obtain ⟨num, den, ok, ab, hd_, t3, ot, si, hi, co, th, x, y, LL, hh, isn, pp, qq, F, hok, ht3, e1, e2, e3, e4, e5, e6, e7, e8, e9, e10, e11, e12, e13, e14, e15, e16, e19, e20, e21, e22, e23⟩ := Spi_ok (k := 2000000) (by omega) a0_0 a0_1 a0_2 a1
    obtain ⟨ee, ff, iu, fu, h1, h2, h3, h4⟩ := apart_ex (k := 2000000) (by omega) a2_0 a2_1 a2_2 a3 a4
    obtain ⟨⟨ls, fv⟩, h6, h5, hl⟩ := StepsAtSide_eq (k := 2000000) (by omega) a5_0 a5_1 a5_2 a6
    obtain ⟨ro, fl, h7, h8, G⟩ := least_val (k := 2000000) (by omega) a7 a8
    exact spi_walk 2000000 a0_0 a0_1 a0_2 a1 a2_0 a2_1 a2_2 a3 a4 a5_0 a5_1 a5_2 a6 a7 a8 w num den ok ab hd_ t3 ot si hi co th x y LL hh isn pp qq ee ff fu iu ls fv ro fl (by omega) ⟨F⟩ ⟨G⟩ hok ht3 ⟨e1⟩ ⟨e2⟩ ⟨e3⟩ ⟨e4⟩ ⟨e5⟩ ⟨e6⟩ ⟨e7⟩ ⟨e8⟩ ⟨e9⟩ ⟨e10⟩ ⟨e11⟩ ⟨e12⟩ ⟨e13⟩ ⟨e14⟩ ⟨e15⟩ ⟨e16⟩ ⟨rfl⟩ ⟨rfl⟩ ⟨e19⟩ ⟨e20⟩ ⟨e21⟩ ⟨e22⟩ ⟨e23⟩ ⟨h1⟩ ⟨h2⟩ ⟨h3⟩ ⟨h4⟩ ⟨h5⟩ ⟨h6⟩ ⟨h7⟩ ⟨h8⟩ ⟨wSame_self (by have : ls.length ≤ 400 := hl; omega) (by have : ls.length ≤ 400 := hl; omega)⟩

end Go.Proofs.Ytbbkbooiefoihaa.Pure
