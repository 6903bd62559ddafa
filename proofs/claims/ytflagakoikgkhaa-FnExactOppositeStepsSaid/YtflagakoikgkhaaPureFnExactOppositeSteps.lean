/- The program's OppositeSteps returns what the reference's returns, for all arguments. No condition. -/
import Derived.Test.YtflagakoikgkhaaPFnExactOppositeStepsx2
namespace Go.Proofs.Ytflagakoikgkhaa.Pure
open Go.RowKit Go.Proofs.Ytflagakoikgkhaa.PFnExactOppositeSteps Go.Proofs.YtflagakoikgkhaaW.PrintWords Go.Proofs.YtflagakoikgkhaaW.PrintLast Go.Proofs.YtflagakoikgkhaaW.PrintMore
set_option linter.unusedVariables false
set_option linter.unusedSimpArgs false

-- block within
theorem within_eq (a b c : Int) : impl_within.f a b c = some (decide (b ≤ a ∧ a ≤ c)) := by
  unfold impl_within.f
  by_cases h : b ≤ a
  · rw [if_pos h]; simp [h]
  · rw [if_neg h]; simp [h]

-- block l1In
theorem l1In_eq (a b c : Int) : spec_l1In.f a b c = some (decide (b ≤ a ∧ a ≤ c)) := by
  unfold spec_l1In.f
  by_cases h : a ≥ b
  · rw [if_pos h]; simp [show b ≤ a from h]
  · rw [if_neg h]; simp [show ¬ b ≤ a from h]

-- block w64
theorem w64 {x : Int} (h : -9223372036854775808 ≤ x ∧ x ≤ 9223372036854775807) : wrap64 x = x := by
  unfold wrap64; omega

-- block tdiv
theorem tdiv_nat (a b : Nat) : Int.tdiv (a : Int) (b : Int) = ((a / b : Nat) : Int) := rfl
theorem tmod_nat (a b : Nat) : Int.tmod (a : Int) (b : Int) = ((a % b : Nat) : Int) := rfl
theorem tdiv_pos {a b : Int} (ha : 0 ≤ a) : Int.tdiv a b = a / b := Int.tdiv_eq_ediv_of_nonneg ha
theorem tmod_pos {a b : Int} (ha : 0 ≤ a) : Int.tmod a b = a % b := Int.tmod_eq_emod_of_nonneg ha

-- block spiral
def goodB (a b c : Int) : Bool := decide ((1 ≤ a ∧ a ≤ 400) ∧ (3 ≤ b ∧ b ≤ 60) ∧ (1 ≤ c ∧ c ≤ 300))
theorem spGood_eq (a b c : Int) : spec_spGood.f a b c = some (goodB a b c) := by
  unfold spec_spGood.f goodB
  rw [l1In_eq, l1In_eq, l1In_eq]
  simp only [Option.bind_some]
  by_cases h : 1 ≤ a ∧ a ≤ 400
  · by_cases g : 3 ≤ b ∧ b ≤ 60
    · rw [if_pos (decide_eq_true h), if_pos (decide_eq_true g)]; congr 1; rw [decide_eq_decide]; omega
    · rw [if_pos (decide_eq_true h), if_neg (by simpa using g)]; congr 1; rw [eq_comm, decide_eq_false_iff_not]; omega
  · rw [if_neg (by simpa using h)]; congr 1; rw [eq_comm, decide_eq_false_iff_not]; omega

-- block spStep
def stepB (a b c s : Int) : Bool := goodB a b c && decide (1 ≤ s ∧ s ≤ a)
theorem spStep_eq (a b c s : Int) : spec_spStep.f a b c s = some (stepB a b c s) := by
  unfold spec_spStep.f stepB
  rw [spGood_eq, Option.bind_some]
  cases goodB a b c
  · simp
  · rw [if_pos rfl, l1In_eq]; simp
theorem stepB_true {a b c s : Int} (h : stepB a b c s = true) : ((1 ≤ a ∧ a ≤ 400) ∧ (3 ≤ b ∧ b ≤ 60) ∧ (1 ≤ c ∧ c ≤ 300)) ∧ (1 ≤ s ∧ s ≤ a) := by
  unfold stepB goodB at h
  simpa only [Bool.and_eq_true, decide_eq_true_eq] using h

-- block IsSpiral
theorem IsSpiral_eq (a b c : Int) : impl_IsSpiral.f a b c = some (goodB a b c) := by
  unfold impl_IsSpiral.f goodB
  rw [within_eq, within_eq, within_eq]
  simp only [Option.bind_some]
  by_cases h : 1 ≤ a ∧ a ≤ 400
  · by_cases g : 3 ≤ b ∧ b ≤ 60
    · rw [if_pos (decide_eq_true h), if_pos (decide_eq_true g)]; congr 1; rw [decide_eq_decide]; omega
    · rw [if_pos (decide_eq_true h), if_neg (by simpa using g)]; congr 1; rw [eq_comm, decide_eq_false_iff_not]; omega
  · rw [if_neg (by simpa using h)]; congr 1; rw [eq_comm, decide_eq_false_iff_not]; omega

-- block has
theorem has_l0 (a b c : Int) (l : List Int) (hl : l.length ≤ 100) (d : Nat) : ∀ (k i : Nat), i + d = l.length → d < k → impl_Spiral_has.l0 k l l.length i a b c = some (((l.drop i).all fun n => decide (1 ≤ n ∧ n ≤ a)) && goodB a b c) := by
  induction d with
  | zero =>
    intro k i hd hk
    obtain ⟨k, rfl⟩ : ∃ m, k = m + 1 := ⟨k - 1, by omega⟩
    simp only [impl_Spiral_has.l0]; rw [if_neg (by omega), List.drop_eq_nil_of_le (by omega), IsSpiral_eq]; simp
  | succ d ih =>
    intro k i hd hk
    obtain ⟨k, rfl⟩ : ∃ m, k = m + 1 := ⟨k - 1, by omega⟩
    simp only [impl_Spiral_has.l0]
    have h : i < l.length := by omega
    have e : rd l i = l[i] := by simp [rd, List.getD_eq_getElem?_getD, List.getElem?_eq_getElem h]
    rw [if_pos (by omega), if_pos (by omega), if_pos (by omega), within_eq, Option.bind_some, List.drop_eq_getElem_cons h, e, List.all_cons]
    by_cases g : 1 ≤ l[i] ∧ l[i] ≤ a
    · rw [if_pos (decide_eq_true g), w64 (by omega), decide_eq_true g, Bool.true_and]
      exact ih k (i + 1) (by omega) (by omega)
    · rw [if_neg (by simpa using g), decide_eq_false g, Bool.false_and, Bool.false_and]
theorem has_eq {k : Nat} {l : List Int} (a b c : Int) (hl : l.length ≤ 100) (hk : 100 < k) : impl_Spiral_has.f k a b c l = some ((l.all fun n => decide (1 ≤ n ∧ n ≤ a)) && goodB a b c) := by
  unfold impl_Spiral_has.f
  exact has_l0 a b c l hl l.length k 0 (by omega) (by omega)
theorem has_one {k : Nat} (a b c s : Int) (hk : 100 < k) : impl_Spiral_has.f k a b c [s] = some (stepB a b c s) := by
  rw [has_eq a b c (by simp) hk]; unfold stepB; rw [Bool.and_comm]; simp
theorem has_two {k : Nat} (a b c s t : Int) (hk : 100 < k) : impl_Spiral_has.f k a b c [s, t] = some (stepB a b c s && stepB a b c t) := by
  rw [has_eq a b c (by simp) hk]; unfold stepB
  cases goodB a b c <;> simp

-- block filt
/-- The numbers from i on, d of them, of which p holds. -/
def filt (p : Nat → Bool) (i d : Nat) : List Int := ((List.range' i d).filter p).map fun j : Nat => (j : Int)
theorem filt_succ (p : Nat → Bool) (i d : Nat) : filt p i (d + 1) = if p i = true then (i : Int) :: filt p (i + 1) d else filt p (i + 1) d := by
  unfold filt
  rw [List.range'_succ, List.filter_cons]
  by_cases h : p i = true
  · rw [if_pos h, if_pos h]; rfl
  · rw [if_neg h, if_neg h]
theorem filt_zero (p : Nat → Bool) (i : Nat) : filt p i 0 = [] := by simp [filt]
theorem filt_skip (p : Nat → Bool) (m : Nat) : ∀ (i d : Nat), (∀ j, i ≤ j → j < i + m → p j ≠ true) → filt p i d = filt p (i + m) (d - m) := by
  induction m with
  | zero => intro i d _; rfl
  | succ m ih =>
    intro i d h
    cases d with
    | zero => simp [filt]
    | succ d =>
      rw [filt_succ, if_neg (h i (Nat.le_refl _) (by omega)), ih (i + 1) d (fun j h1 h2 => h j (by omega) (by omega))]
      congr 1 <;> omega
theorem filt_length (p : Nat → Bool) (i d : Nat) : (filt p i d).length ≤ d := by
  unfold filt; rw [List.length_map]; exact Nat.le_trans (List.length_filter_le _ _) (by simp)
theorem thoseW_l0 (q : Int → Option Bool) (p : Nat → Bool) (N : Nat) (hN : N ≤ 1000) (hq : ∀ j : Nat, 1 ≤ j → j ≤ N → q j = some (p j)) (d : Nat) : ∀ (k i : Nat) (acc : List Int), i + d = N + 1 → d < k → acc.length ≤ i → 1 ≤ i → thoseW q k N i acc = some (acc ++ filt p i d) := by
  induction d with
  | zero =>
    intro k i acc hd hk ha hi
    obtain ⟨k, rfl⟩ : ∃ m, k = m + 1 := ⟨k - 1, by omega⟩
    simp only [thoseW]
    rw [if_neg (by omega), filt_zero, List.append_nil]
  | succ d ih =>
    intro k i acc hd hk ha hi
    obtain ⟨k, rfl⟩ : ∃ m, k = m + 1 := ⟨k - 1, by omega⟩
    simp only [thoseW]
    rw [if_pos (by omega), hq i hi (by omega), Option.bind_some, filt_succ, w64 (by omega), show (i : Int) + 1 = ((i + 1 : Nat) : Int) from rfl]
    by_cases h : p i = true
    · rw [if_pos h, if_pos h, if_pos (by omega), ih k (i + 1) _ (by omega) (by omega) (by simp; omega) (by omega)]; simp
    · rw [if_neg h, if_neg h, ih k (i + 1) _ (by omega) (by omega) (by omega) (by omega)]
theorem thoseW_eq {k : Nat} (q : Int → Option Bool) (p : Nat → Bool) (N : Nat) (hN : N ≤ 1000) (hk : 1001 < k) (hq : ∀ j : Nat, 1 ≤ j → j ≤ N → q j = some (p j)) : thoseW q k N 1 [] = some (filt p 1 N) :=
  thoseW_l0 q p N hN hq N k 1 [] (by omega) (by omega) (by simp) (by omega)
theorem multiple_gap {R x y : Nat} (h1 : x % R = 0) (h2 : y % R = 0) (h3 : x < y) (h4 : y < x + R) : False := by
  obtain ⟨a, rfl⟩ := Nat.dvd_of_mod_eq_zero h1
  obtain ⟨b, rfl⟩ := Nat.dvd_of_mod_eq_zero h2
  have a2 : R * b < R * (a + 1) := by rw [Nat.mul_add]; omega
  have b1 := Nat.lt_of_mul_lt_mul_left h3
  have b2 := Nat.lt_of_mul_lt_mul_left a2
  omega

-- block eqIntS
theorem eqIntS_l0 (l : List Int) (hl : l.length ≤ 1000000000) (d : Nat) : ∀ (k i : Nat), i + d = l.length → d < k → laws_eqIntS.l0 k l l i = some true := by
  induction d with
  | zero =>
    intro k i hd hk
    obtain ⟨k, rfl⟩ : ∃ m, k = m + 1 := ⟨k - 1, by omega⟩
    simp only [laws_eqIntS.l0]; rw [if_neg (by omega)]
  | succ d ih =>
    intro k i hd hk
    obtain ⟨k, rfl⟩ : ∃ m, k = m + 1 := ⟨k - 1, by omega⟩
    simp only [laws_eqIntS.l0]
    rw [if_pos (by omega), if_pos (by omega), if_pos (by omega), if_pos trivial, w64 (by omega)]
    exact ih k (i + 1) (by omega) (by omega)
theorem eqIntS_self {k : Nat} {l : List Int} (hl : l.length ≤ 1000000000) (hk : l.length < k) : laws_eqIntS.f k l l = some true := by
  unfold laws_eqIntS.f
  rw [if_pos rfl, show (0 : Int) = ((0 : Nat) : Int) from rfl, eqIntS_l0 l hl l.length k 0 (by omega) hk]

-- block marks
def ups (a : Int) (n : Nat) : List Int := (List.range n).map fun i : Nat => a + (i : Int)
theorem ups_length (a : Int) (n : Nat) : (ups a n).length = n := by simp [ups]
theorem ups_succ (a : Int) (n : Nat) : ups a (n + 1) = ups a n ++ [a + n] := by simp [ups, List.range_succ]
theorem rd_ups (a : Int) (n i : Nat) (h : i < n) : rd (ups a n) i = a + i := by
  unfold rd ups
  rw [List.getD_eq_getElem?_getD, Int.toNat_natCast, List.getElem?_map, List.getElem?_range h]; rfl
theorem markIntS_l0 (a : Int) (ha : 0 ≤ a) (d : Nat) : ∀ (k i : Nat) (post : List Int), post.length = d → a + i + d ≤ 4000000000000 → d < k →
    laws_markIntS.l0 k (ups a i ++ post) (a + i) i = some (a + i + d, ups a (i + d)) := by
  induction d with
  | zero =>
    intro k i post hp hb hk
    obtain ⟨k, rfl⟩ : ∃ m, k = m + 1 := ⟨k - 1, by omega⟩
    obtain rfl := List.eq_nil_of_length_eq_zero hp
    simp only [laws_markIntS.l0]
    rw [if_neg (by simp [ups_length])]
    simp
  | succ d ih =>
    intro k i post hp hb hk
    obtain ⟨k, rfl⟩ : ∃ m, k = m + 1 := ⟨k - 1, by omega⟩
    obtain ⟨x, post, rfl⟩ : ∃ x p, post = x :: p := by
      cases post with
      | nil => simp at hp
      | cons x p => exact ⟨x, p, rfl⟩
    simp only [laws_markIntS.l0]
    rw [if_pos (by simp [ups_length]; omega), if_pos (by omega), w64 (by omega), w64 (by omega)]
    have e : (ups a i ++ x :: post).set (i : Int).toNat (a + i) = ups a (i + 1) ++ post := by
      rw [Int.toNat_natCast, List.set_append_right _ _ (by simp [ups_length]), ups_length, Nat.sub_self, List.set_cons_zero, ups_succ, List.append_assoc]; rfl
    rw [e, show a + (i : Int) + 1 = a + ((i + 1 : Nat) : Int) from by omega, show (i : Int) + 1 = ((i + 1 : Nat) : Int) from rfl]
    rw [ih k (i + 1) post (by simpa using hp) (by omega) (by omega)]
    rw [show i + 1 + d = i + (d + 1) from by omega]
    congr 2; omega
theorem markIntS_eq {k : Nat} {l : List Int} {a : Int} (ha : 0 ≤ a) (hb : a + l.length ≤ 4000000000000) (hk : l.length < k) : laws_markIntS.f k l a = some (a + l.length, ups a l.length) := by
  unfold laws_markIntS.f
  have := markIntS_l0 a ha l.length k 0 l rfl (by omega) hk
  simpa [ups] using this
theorem heldIntS_l0 (a : Int) (ha : 0 ≤ a) (n : Nat) (hb : a + n ≤ 4000000000000) (d : Nat) : ∀ (k i : Nat), i + d = n → d < k → laws_heldIntS.l0 k (ups a n) (a + i) i = some (a + n) := by
  induction d with
  | zero =>
    intro k i hd hk
    obtain ⟨k, rfl⟩ : ∃ m, k = m + 1 := ⟨k - 1, by omega⟩
    simp only [laws_heldIntS.l0]
    rw [if_neg (by rw [ups_length]; omega)]
    congr 1; omega
  | succ d ih =>
    intro k i hd hk
    obtain ⟨k, rfl⟩ : ∃ m, k = m + 1 := ⟨k - 1, by omega⟩
    simp only [laws_heldIntS.l0]
    rw [if_pos (by rw [ups_length]; omega), if_pos (by omega), rd_ups _ _ _ (by omega), if_pos rfl, w64 (by omega), w64 (by omega)]
    rw [show a + (i : Int) + 1 = a + ((i + 1 : Nat) : Int) from by omega, show (i : Int) + 1 = ((i + 1 : Nat) : Int) from rfl]
    exact ih k (i + 1) (by omega) (by omega)
theorem heldIntS_eq {k n : Nat} {a : Int} (ha : 0 ≤ a) (hb : a + n ≤ 4000000000000) (hk : n < k) : laws_heldIntS.f k (ups a n) a = some (a + n) := by
  unfold laws_heldIntS.f
  have := heldIntS_l0 a ha n hb n k 0 (by omega) hk
  simpa using this

def oppP (R s j : Nat) : Bool := 2 * ((if s ≤ j then j - s else s - j) % R) == R
theorem spOpposite_eq (a c : Int) (R s j : Nat) (hR : 0 < R) (hR2 : R ≤ 60) (hs : s ≤ 1000) (hj : j ≤ 1000) : spec_spOpposite.f a R c s j = some (oppP R s j) := by
  unfold spec_spOpposite.f spec_l1Abs.f spec_l1Most.f oppP
  rw [w64 (x := (s : Int) - j) (by omega), w64 (x := -((s : Int) - j)) (by omega)]
  have key : ∀ t : Nat, t = (if s ≤ j then j - s else s - j) → (if (R : Int) = 0 then none else some (wrap64 (2 * Int.tmod (t : Int) (R : Int)) == (R : Int))) = some (2 * ((if s ≤ j then j - s else s - j) % R) == R) := by
    intro t ht
    have hm := Nat.mod_lt t hR
    rw [if_neg (by omega), tmod_nat, ← ht]
    generalize t % R = m at *
    rw [w64 (by omega)]
    congr 1
    rw [Bool.eq_iff_iff, beq_iff_eq, beq_iff_eq]; omega
  by_cases h : s ≤ j
  · by_cases g : s = j
    · subst g
      rw [if_neg (by omega), Option.bind_some, Option.bind_some, show -((s : Int) - s) = ((0 : Nat) : Int) from by omega]
      exact key 0 (by rw [if_pos h]; omega)
    · rw [if_neg (by omega), Option.bind_some, Option.bind_some, show -((s : Int) - j) = ((j - s : Nat) : Int) from by omega]
      exact key (j - s) (by rw [if_pos h])
  · rw [if_pos (by omega), Option.bind_some, Option.bind_some, show (s : Int) - j = ((s - j : Nat) : Int) from by omega]
    exact key (s - j) (by rw [if_neg h])
theorem opposite_eq (a c : Int) (R s j : Nat) (hR : 0 < R) (hR2 : R ≤ 60) (hs : s ≤ 1000) (hj : j ≤ 1000) : impl_Spiral_opposite.f a R c j s = some (oppP R s j) := by
  unfold impl_Spiral_opposite.f oppP
  rw [w64 (x := (j : Int) - s) (by omega), w64 (x := (s : Int) - j) (by omega), w64 (x := 2 * (R : Int)) (by omega), if_neg (by omega)]
  have e : mx ((j : Int) - s) ((s : Int) - j) = ((if s ≤ j then j - s else s - j : Nat) : Int) := by
    unfold mx
    by_cases h : s ≤ j
    · rw [if_pos h]; split <;> omega
    · rw [if_neg h]; split <;> omega
  rw [e]
  have hd : (if s ≤ j then j - s else s - j) ≤ 1000 := by split <;> omega
  generalize (if s ≤ j then j - s else s - j) = t at *
  rw [w64 (x := 2 * (t : Int)) (by omega), show 2 * (t : Int) = ((2 * t : Nat) : Int) from by omega, show 2 * (R : Int) = ((2 * R : Nat) : Int) from by omega, tmod_nat, Nat.mul_mod_mul_left]
  congr 1
  rw [Bool.eq_iff_iff, beq_iff_eq, beq_iff_eq]
  generalize t % R = m
  omega
theorem spec_opp_l0 (a R s : Nat) (c : Int) (ha : a ≤ 400) (hR : 0 < R) (hR2 : R ≤ 60) (hs2 : s ≤ 1000) (d : Nat) : ∀ (k i : Nat) (acc : List Int), i + d = a + 1 → d < k → acc.length ≤ i →
    spec_OppositeSteps.l0 k s acc i a R c = some (acc ++ filt (oppP R s) i d, true) := by
  induction d with
  | zero =>
    intro k i acc hd hk hl
    obtain ⟨k, rfl⟩ : ∃ m, k = m + 1 := ⟨k - 1, by omega⟩
    simp only [spec_OppositeSteps.l0]
    rw [if_neg (by omega), filt_zero, List.append_nil]
  | succ d ih =>
    intro k i acc hd hk hl
    obtain ⟨k, rfl⟩ : ∃ m, k = m + 1 := ⟨k - 1, by omega⟩
    simp only [spec_OppositeSteps.l0]
    rw [if_pos (by omega), spOpposite_eq a c R s i hR hR2 hs2 (by omega), Option.bind_some, w64 (by omega), show (i : Int) + 1 = ((i + 1 : Nat) : Int) from rfl, filt_succ]
    by_cases h : oppP R s i = true
    · rw [if_pos h, if_pos h, if_pos (by omega), ih k (i + 1) _ (by omega) (by omega) (by simp; omega)]; simp
    · rw [if_neg h, if_neg h, ih k (i + 1) _ (by omega) (by omega) (by omega)]
theorem OppositeSteps_eq {k : Nat} (hk : 2000 < k) (a b c s : Int) : ∃ r, spec_OppositeSteps.f k a b c s = some r ∧ impl_OppositeSteps.f k a b c s = some r ∧ r.1.length ≤ 400 := by
  unfold spec_OppositeSteps.f impl_OppositeSteps.f
  rw [spStep_eq, has_one a b c s (by omega), Option.bind_some, Option.bind_some]
  by_cases h : stepB a b c s = true
  · have g := stepB_true h
    obtain ⟨a, rfl⟩ := Int.eq_ofNat_of_zero_le (show 0 ≤ a by omega)
    obtain ⟨b, rfl⟩ := Int.eq_ofNat_of_zero_le (show 0 ≤ b by omega)
    obtain ⟨s, rfl⟩ := Int.eq_ofNat_of_zero_le (show 0 ≤ s by omega)
    rw [if_pos h, if_pos h]
    have e := spec_opp_l0 a b s c (by omega) (by omega) (by omega) (by omega) a k 1 [] (by omega) (by omega) (by simp)
    rw [show ((1 : Nat) : Int) = 1 from rfl] at e
    rw [e, thoseW_eq _ (oppP b s) a (by omega) (by omega) (fun j h1 h2 => by
      unfold impl_OppositeSteps.q
      exact opposite_eq a c b s j (by omega) (by omega) (by omega) (by omega))]
    rw [Option.bind_some]
    have := filt_length (oppP b s) 1 a
    exact ⟨_, rfl, by simp, by simp; omega⟩
  · rw [if_neg h, if_neg h]; exact ⟨_, rfl, rfl, by simp⟩
theorem FnExactOppositeSteps : laws_FnExactOppositeSteps.Pure := by
  intro a b c s _ _ _ _ 
  obtain ⟨k, hk⟩ : ∃ k, 4000 < k := ⟨4001, by omega⟩
  refine ⟨k + 2, ?_⟩
  obtain ⟨r, h1, h2, hl⟩ := OppositeSteps_eq (k := k + 2) (by omega) a b c s
  obtain ⟨r', h1', h2', -⟩ := OppositeSteps_eq (k := k + 1) (by omega) a b c s
  have e : r' = r := by
    have m := impl_OppositeSteps.mono a b c s (k + 1) _ h2'
    rw [h2] at m; exact (Option.some.inj m).symm
  subst e
  unfold laws_FnExactOppositeSteps.f
  repeat unfold laws_toSpiral.f
  repeat rw [Option.bind_some]
  rw [h1, Option.bind_some]
  repeat rw [Option.bind_some]
  rw [h2, Option.bind_some, eqIntS_self (by omega) (by omega), Option.bind_some, if_pos rfl, laws_FnExactOppositeSteps.j0, if_neg (by simp), markIntS_eq (by omega) (by omega) (by omega), Option.bind_some, heldIntS_eq (by omega) (by omega) (by omega), Option.bind_some, if_neg (by omega), if_pos rfl]
  repeat unfold laws_toSpiral.f
  repeat rw [Option.bind_some]
  rw [h2', Option.bind_some, eqIntS_self (by omega) (by omega), Option.bind_some, if_pos rfl, laws_FnExactOppositeSteps.j1, if_neg (by simp), heldIntS_eq (by omega) (by omega) (by omega), Option.bind_some, if_neg (by omega), if_pos rfl]

end Go.Proofs.Ytflagakoikgkhaa.Pure
