/- The program's WholeStarts returns what the reference's returns, for all arguments. No condition. -/
import Derived.Test.YtojcdkiopdcdoaaPFnExactWholeStartsx2
namespace Go.Proofs.Ytojcdkiopdcdoaa.Pure
open Go.RowKit Go.Proofs.Ytojcdkiopdcdoaa.PFnExactWholeStarts Go.Proofs.YtojcdkiopdcdoaaW.PrintWords Go.Proofs.YtojcdkiopdcdoaaW.PrintLast Go.Proofs.YtojcdkiopdcdoaaW.PrintMore
set_option linter.unusedVariables false
set_option linter.unusedSimpArgs false

-- block within
theorem within_eq (a b c : Int) : impl_within.f a b c = some (decide (b ≤ a ∧ a ≤ c)) := by
  unfold impl_within.f
  by_cases h : b ≤ a
  · rw [if_pos h]; simp [h]
  · rw [if_neg h]; simp [h]

-- block isCover
theorem isCover_eq (a : Int) : impl_isCover.f a = some (decide (1 ≤ a ∧ a ≤ 100)) := by
  unfold impl_isCover.f; rw [within_eq]; rfl

-- block isNeed
theorem isNeed_eq (a : Int) : impl_isNeed.f a = some (decide (1 ≤ a ∧ a ≤ 100)) := by
  unfold impl_isNeed.f; rw [within_eq]; rfl

-- block isRoll
theorem isRoll_eq (a : Int) : impl_isRoll.f a = some (decide (1 ≤ a ∧ a ≤ 2000)) := by
  unfold impl_isRoll.f; rw [within_eq]; rfl

-- block w64
theorem w64 {x : Int} (h : -9223372036854775808 ≤ x ∧ x ≤ 9223372036854775807) : wrap64 x = x := by
  unfold wrap64; omega

-- block tdiv
theorem tdiv_nat (a b : Nat) : Int.tdiv (a : Int) (b : Int) = ((a / b : Nat) : Int) := rfl
theorem tmod_nat (a b : Nat) : Int.tmod (a : Int) (b : Int) = ((a % b : Nat) : Int) := rfl
theorem tdiv_pos {a b : Int} (ha : 0 ≤ a) : Int.tdiv a b = a / b := Int.tdiv_eq_ediv_of_nonneg ha
theorem tmod_pos {a b : Int} (ha : 0 ≤ a) : Int.tmod a b = a % b := Int.tmod_eq_emod_of_nonneg ha

-- block starts
def starts (n b : Nat) (i d : Nat) : List Int := (List.range' i d).map fun j => ((j * n % b : Nat) : Int)
theorem starts_cons (n b i d : Nat) : starts n b i (d + 1) = ((i * n % b : Nat) : Int) :: starts n b (i + 1) d := by simp [starts, List.range'_succ]
theorem starts_length (n b i d : Nat) : (starts n b i d).length = d := by simp [starts]
theorem impl_starts_l0 (s n b : Nat) (hs : s ≤ 100) (hn : n ≤ 100) (hb : 0 < b) (d : Nat) : ∀ (k i : Nat) (acc : List Int), i + d = s → d < k → acc.length = i →
    impl_PatternStarts.l0 k n b acc s i = some (acc ++ starts n b i d, true) := by
  induction d with
  | zero =>
    intro k i acc hd hk ha
    obtain ⟨k, rfl⟩ : ∃ m, k = m + 1 := ⟨k - 1, by omega⟩
    simp only [impl_PatternStarts.l0]; rw [if_neg (by omega)]; simp [starts]
  | succ d ih =>
    intro k i acc hd hk ha
    obtain ⟨k, rfl⟩ : ∃ m, k = m + 1 := ⟨k - 1, by omega⟩
    simp only [impl_PatternStarts.l0]
    have hm : (i : Int) * n ≤ 100 * 100 := Int.mul_le_mul (by omega) (by omega) (by omega) (by omega)
    have h0 : (0 : Int) ≤ (i : Int) * n := Int.mul_nonneg (by omega) (by omega)
    rw [if_pos (by omega), if_neg (by omega), if_pos (by omega), w64 (by omega), ← Int.natCast_mul, tmod_nat, w64 (by omega), show (i : Int) + 1 = ((i + 1 : Nat) : Int) from rfl]
    rw [ih k (i + 1) _ (by omega) (by omega) (by simp [ha]), starts_cons]; simp
/-- What both return. -/
noncomputable def startsR (a b c : Int) : List Int × Bool := if (1 ≤ a ∧ a ≤ 100) ∧ (1 ≤ b ∧ b ≤ 100) ∧ (1 ≤ c ∧ c ≤ 2000) then (starts b.toNat c.toNat 0 a.toNat, true) else ([], false)
theorem impl_starts_eq {k : Nat} (hk : 1000 < k) (a b c : Int) : impl_PatternStarts.f k a b c = some (startsR a b c) := by
  obtain ⟨k, rfl⟩ : ∃ m, k = m + 1 := ⟨k - 1, by omega⟩
  unfold impl_PatternStarts.f startsR
  rw [isCover_eq, isNeed_eq, isRoll_eq]
  simp only [Option.bind_some, impl_PatternStarts.j0]
  by_cases h : (1 ≤ a ∧ a ≤ 100) ∧ (1 ≤ b ∧ b ≤ 100) ∧ (1 ≤ c ∧ c ≤ 2000)
  · obtain ⟨a, rfl⟩ := Int.eq_ofNat_of_zero_le (show 0 ≤ a by omega)
    obtain ⟨b, rfl⟩ := Int.eq_ofNat_of_zero_le (show 0 ≤ b by omega)
    obtain ⟨c, rfl⟩ := Int.eq_ofNat_of_zero_le (show 0 ≤ c by omega)
    rw [if_pos h, if_pos (by simp; omega), if_pos (by simp; omega), if_neg (by simp; omega), show (0 : Int) = ((0 : Nat) : Int) from rfl, impl_starts_l0 a b c (by omega) (by omega) (by omega) a k 0 [] (by omega) (by omega) rfl]
    simp
  · rw [if_neg h]
    by_cases g : 1 ≤ a ∧ a ≤ 100
    · rw [if_pos (by simp; omega)]
      by_cases g2 : 1 ≤ b ∧ b ≤ 100
      · rw [if_pos (by simp; omega), if_pos (by simp; omega)]
      · rw [if_neg (by simp; omega), if_pos trivial]
    · rw [if_neg (by simp; omega), if_pos trivial]
theorem startsR_length (a b c : Int) : (startsR a b c).1.length ≤ 100 := by
  unfold startsR; split
  · simp [starts_length]; omega
  · simp

-- block l1In
theorem l1In_eq (a b c : Int) : spec_l1In.f a b c = some (decide (b ≤ a ∧ a ≤ c)) := by
  unfold spec_l1In.f
  by_cases h : a ≥ b
  · rw [if_pos h]; simp [show b ≤ a from h]
  · rw [if_neg h]; simp [show ¬ b ≤ a from h]

-- block cpNeed
theorem cpNeed_eq (a : Int) : spec_cpNeed.f a = some (decide (1 ≤ a ∧ a ≤ 100)) := by
  unfold spec_cpNeed.f; rw [l1In_eq]; rfl

-- block cpSteps
theorem cpSteps_eq (a b : Int) : spec_cpSteps.f a b = some (decide ((1 ≤ a ∧ a ≤ 100) ∧ (1 ≤ b ∧ b ≤ 100))) := by
  unfold spec_cpSteps.f; rw [l1In_eq, Option.bind_some]
  by_cases h : 1 ≤ a ∧ a ≤ 100
  · rw [if_pos (decide_eq_true h), cpNeed_eq]; simp [h]
  · rw [if_neg (by simp; omega)]; simp [h]

-- block cpPattern
theorem cpPattern_eq (a b : Int) : spec_cpPattern.f a b = some (decide ((1 ≤ a ∧ a ≤ 100) ∧ (1 ≤ b ∧ b ≤ 2000))) := by
  unfold spec_cpPattern.f; rw [cpNeed_eq, Option.bind_some]
  by_cases h : 1 ≤ a ∧ a ≤ 100
  · rw [if_pos (decide_eq_true h), l1In_eq]; simp [h]
  · rw [if_neg (by simp; omega)]; simp [h]

-- block period
theorem period_dvd (a b i : Nat) (hb : 0 < b) : b ∣ i * a ↔ b / Nat.gcd a b ∣ i := by
  have hg : 0 < Nat.gcd a b := Nat.gcd_pos_of_pos_right _ hb
  obtain ⟨a', ha⟩ := Nat.gcd_dvd_left a b
  obtain ⟨b', hb'⟩ := Nat.gcd_dvd_right a b
  have e : b / Nat.gcd a b = b' := Nat.div_eq_of_eq_mul_right hg hb'
  have e2 : a / Nat.gcd a b = a' := Nat.div_eq_of_eq_mul_right hg ha
  have hc : Nat.Coprime a' b' := by
    have := Nat.coprime_div_gcd_div_gcd hg
    rwa [e, e2] at this
  rw [e]
  constructor
  · intro h
    have h2 : Nat.gcd a b * b' ∣ Nat.gcd a b * (i * a') := by
      rw [← hb', show Nat.gcd a b * (i * a') = i * (Nat.gcd a b * a') from by ac_rfl, ← ha]; exact h
    have h3 := Nat.dvd_of_mul_dvd_mul_left hg h2
    exact Nat.Coprime.dvd_of_dvd_mul_right hc.symm h3
  · rintro ⟨c, rfl⟩
    refine ⟨c * a', ?_⟩
    calc b' * c * a = b' * c * (Nat.gcd a b * a') := by rw [← ha]
      _ = (Nat.gcd a b * b') * (c * a') := by ac_rfl
      _ = b * (c * a') := by rw [← hb']
theorem period_pos (a b : Nat) (hb : 0 < b) : 0 < b / Nat.gcd a b :=
  Nat.div_pos (Nat.le_of_dvd hb (Nat.gcd_dvd_right a b)) (Nat.gcd_pos_of_pos_right _ hb)

-- block cpPeriod
theorem cpPeriod_l0 (a b : Nat) (ha : a ≤ 100) (hb : 0 < b) (hb2 : b ≤ 2000) (d : Nat) : ∀ (k i : Nat), 0 < i → i + d = b / Nat.gcd a b → d < k →
    spec_cpPeriod.l0 k a b i = some ((b / Nat.gcd a b : Nat) : Int) := by
  have hP : b / Nat.gcd a b ≤ b := Nat.div_le_self _ _
  induction d with
  | zero =>
    intro k i hi hd hk
    obtain ⟨k, rfl⟩ : ∃ m, k = m + 1 := ⟨k - 1, by omega⟩
    simp only [spec_cpPeriod.l0]
    have hm : (i : Int) * a ≤ 2000 * 100 := Int.mul_le_mul (by omega) (by omega) (by omega) (by omega)
    have h0 : (0 : Int) ≤ (i : Int) * a := Int.mul_nonneg (by omega) (by omega)
    rw [if_neg (by omega), w64 (by omega), ← Int.natCast_mul, tmod_nat, if_pos, ← hd]; rfl
    have := (period_dvd a b i hb).2 ⟨1, by omega⟩
    rw [Nat.mod_eq_zero_of_dvd this]; rfl
  | succ d ih =>
    intro k i hi hd hk
    obtain ⟨k, rfl⟩ : ∃ m, k = m + 1 := ⟨k - 1, by omega⟩
    simp only [spec_cpPeriod.l0]
    have hm : (i : Int) * a ≤ 2000 * 100 := Int.mul_le_mul (by omega) (by omega) (by omega) (by omega)
    have h0 : (0 : Int) ≤ (i : Int) * a := Int.mul_nonneg (by omega) (by omega)
    rw [if_neg (by omega), w64 (by omega), ← Int.natCast_mul, tmod_nat, if_neg, w64 (by omega)]
    · exact ih k (i + 1) (by omega) (by omega) (by omega)
    · intro h
      have h1 : b ∣ i * a := Nat.dvd_of_mod_eq_zero (by omega)
      have h2 := Nat.le_of_dvd hi ((period_dvd a b i hb).1 h1)
      omega
theorem cpPeriod_eq {k a b : Nat} (ha : a ≤ 100) (hb : 0 < b) (hb2 : b ≤ 2000) (hk : 2000 < k) : spec_cpPeriod.f k a b = some ((b / Nat.gcd a b : Nat) : Int) := by
  have hP : b / Nat.gcd a b ≤ b := Nat.div_le_self _ _
  have := period_pos a b hb
  exact cpPeriod_l0 a b ha hb hb2 (b / Nat.gcd a b - 1) k 1 (by omega) (by omega) (by omega)

-- block eqIntS
theorem eqIntS_l0 (l : List Int) (hl : l.length ≤ 1000000000) (d : Nat) : ∀ (k i : Nat), i + d = l.length → d < k → laws_eqIntS.l0 k l l i = some true := by
  induction d with
  | zero =>
    intro k i hd hk
    obtain ⟨k, rfl⟩ : ∃ m, k = m + 1 := ⟨k - 1, by omega⟩
    simp only [laws_eqIntS.l0]; rw [if_neg (by omega)]
  | succ d ih =>
    intro k i hd hk
    obtain ⟨k, rfl⟩ : ∃ m, k = m + 1 := ⟨k - 1, by omega⟩
    simp only [laws_eqIntS.l0]
    rw [if_pos (by omega), if_pos (by omega), if_pos (by omega), if_pos trivial, w64 (by omega)]
    exact ih k (i + 1) (by omega) (by omega)
theorem eqIntS_self {k : Nat} {l : List Int} (hl : l.length ≤ 1000000000) (hk : l.length < k) : laws_eqIntS.f k l l = some true := by
  unfold laws_eqIntS.f
  rw [if_pos rfl, show (0 : Int) = ((0 : Nat) : Int) from rfl, eqIntS_l0 l hl l.length k 0 (by omega) hk]

-- block marks
def ups (a : Int) (n : Nat) : List Int := (List.range n).map fun i : Nat => a + (i : Int)
theorem ups_length (a : Int) (n : Nat) : (ups a n).length = n := by simp [ups]
theorem ups_succ (a : Int) (n : Nat) : ups a (n + 1) = ups a n ++ [a + n] := by simp [ups, List.range_succ]
theorem rd_ups (a : Int) (n i : Nat) (h : i < n) : rd (ups a n) i = a + i := by
  unfold rd ups
  rw [List.getD_eq_getElem?_getD, Int.toNat_natCast, List.getElem?_map, List.getElem?_range h]; rfl
theorem markIntS_l0 (a : Int) (ha : 0 ≤ a) (d : Nat) : ∀ (k i : Nat) (post : List Int), post.length = d → a + i + d ≤ 4000000000000 → d < k →
    laws_markIntS.l0 k (ups a i ++ post) (a + i) i = some (a + i + d, ups a (i + d)) := by
  induction d with
  | zero =>
    intro k i post hp hb hk
    obtain ⟨k, rfl⟩ : ∃ m, k = m + 1 := ⟨k - 1, by omega⟩
    obtain rfl := List.eq_nil_of_length_eq_zero hp
    simp only [laws_markIntS.l0]
    rw [if_neg (by simp [ups_length])]
    simp
  | succ d ih =>
    intro k i post hp hb hk
    obtain ⟨k, rfl⟩ : ∃ m, k = m + 1 := ⟨k - 1, by omega⟩
    obtain ⟨x, post, rfl⟩ : ∃ x p, post = x :: p := by
      cases post with
      | nil => simp at hp
      | cons x p => exact ⟨x, p, rfl⟩
    simp only [laws_markIntS.l0]
    rw [if_pos (by simp [ups_length]; omega), if_pos (by omega), w64 (by omega), w64 (by omega)]
    have e : (ups a i ++ x :: post).set (i : Int).toNat (a + i) = ups a (i + 1) ++ post := by
      rw [Int.toNat_natCast, List.set_append_right _ _ (by simp [ups_length]), ups_length, Nat.sub_self, List.set_cons_zero, ups_succ, List.append_assoc]; rfl
    rw [e, show a + (i : Int) + 1 = a + ((i + 1 : Nat) : Int) from by omega, show (i : Int) + 1 = ((i + 1 : Nat) : Int) from rfl]
    rw [ih k (i + 1) post (by simpa using hp) (by omega) (by omega)]
    rw [show i + 1 + d = i + (d + 1) from by omega]
    congr 2; omega
theorem markIntS_eq {k : Nat} {l : List Int} {a : Int} (ha : 0 ≤ a) (hb : a + l.length ≤ 4000000000000) (hk : l.length < k) : laws_markIntS.f k l a = some (a + l.length, ups a l.length) := by
  unfold laws_markIntS.f
  have := markIntS_l0 a ha l.length k 0 l rfl (by omega) hk
  simpa [ups] using this
theorem heldIntS_l0 (a : Int) (ha : 0 ≤ a) (n : Nat) (hb : a + n ≤ 4000000000000) (d : Nat) : ∀ (k i : Nat), i + d = n → d < k → laws_heldIntS.l0 k (ups a n) (a + i) i = some (a + n) := by
  induction d with
  | zero =>
    intro k i hd hk
    obtain ⟨k, rfl⟩ : ∃ m, k = m + 1 := ⟨k - 1, by omega⟩
    simp only [laws_heldIntS.l0]
    rw [if_neg (by rw [ups_length]; omega)]
    congr 1; omega
  | succ d ih =>
    intro k i hd hk
    obtain ⟨k, rfl⟩ : ∃ m, k = m + 1 := ⟨k - 1, by omega⟩
    simp only [laws_heldIntS.l0]
    rw [if_pos (by rw [ups_length]; omega), if_pos (by omega), rd_ups _ _ _ (by omega), if_pos rfl, w64 (by omega), w64 (by omega)]
    rw [show a + (i : Int) + 1 = a + ((i + 1 : Nat) : Int) from by omega, show (i : Int) + 1 = ((i + 1 : Nat) : Int) from rfl]
    exact ih k (i + 1) (by omega) (by omega)
theorem heldIntS_eq {k n : Nat} {a : Int} (ha : 0 ≤ a) (hb : a + n ≤ 4000000000000) (hk : n < k) : laws_heldIntS.f k (ups a n) a = some (a + n) := by
  unfold laws_heldIntS.f
  have := heldIntS_l0 a ha n hb n k 0 (by omega) hk
  simpa using this

/-- The steps from i on, d of them, at which the pattern begins anew. -/
def whole (P i d : Nat) : List Int := ((List.range' i d).filter fun j => j % P == 0).map fun j : Nat => (j : Int) + 1
theorem whole_succ (P i d : Nat) : whole P i (d + 1) = if i % P = 0 then ((i : Int) + 1) :: whole P (i + 1) d else whole P (i + 1) d := by
  unfold whole
  rw [List.range'_succ, List.filter_cons]
  by_cases h : i % P = 0
  · rw [if_pos (by simpa using h), if_pos h]; rfl
  · rw [if_neg (by simpa using h), if_neg h]
theorem whole_skip (P : Nat) (m : Nat) : ∀ (i d : Nat), (∀ j, i ≤ j → j < i + m → j % P ≠ 0) → whole P i d = whole P (i + m) (d - m) := by
  induction m with
  | zero => intro i d _; rfl
  | succ m ih =>
    intro i d h
    cases d with
    | zero => simp [whole]
    | succ d =>
      rw [whole_succ, if_neg (h i (Nat.le_refl _) (by omega)), ih (i + 1) d (fun j h1 h2 => h j (by omega) (by omega))]
      congr 1 <;> omega
theorem whole_length (P i d : Nat) : (whole P i d).length ≤ d := by
  unfold whole; rw [List.length_map]; exact Nat.le_trans (List.length_filter_le _ _) (by simp)
theorem spec_whole_l0 (s n b : Nat) (hs : s ≤ 100) (hn : n ≤ 100) (hn0 : 0 < n) (hb : 0 < b) (hb2 : b ≤ 2000) (d : Nat) : ∀ (k i : Nat) (acc : List Int), s ≤ i + d → d + 3000 < k → i % (b / Nat.gcd n b) = 0 → i ≤ 5000 → acc.length ≤ 5000 - d → d ≤ 5000 →
    spec_WholeStarts.l0 k s n b acc i = some (acc ++ whole (b / Nat.gcd n b) i (s - i), true) := by
  have hP0 := period_pos n b hb
  have hP1 : b / Nat.gcd n b ≤ b := Nat.div_le_self _ _
  induction d with
  | zero =>
    intro k i acc hd hk hi hi2 ha _
    obtain ⟨k, rfl⟩ : ∃ m, k = m + 1 := ⟨k - 1, by omega⟩
    simp only [spec_WholeStarts.l0]
    rw [if_neg (by omega), show s - i = 0 from by omega]; simp [whole]
  | succ d ih =>
    intro k i acc hd hk hi hi2 ha hd2
    obtain ⟨k, rfl⟩ : ∃ m, k = m + 1 := ⟨k - 1, by omega⟩
    simp only [spec_WholeStarts.l0]
    by_cases hlt : i < s
    · rw [if_pos (by omega), if_pos (by omega), cpPeriod_eq hn hb hb2 (by omega), Option.bind_some]
      have hP := ih k (i + b / Nat.gcd n b) (acc ++ [(i : Int) + 1]) (by omega) (by omega) (by rw [Nat.add_mod_right]; exact hi) (by omega) (by simp; omega) (by omega)
      have hsk : ∀ j, i + 1 ≤ j → j < i + 1 + (b / Nat.gcd n b - 1) → j % (b / Nat.gcd n b) ≠ 0 := by
        intro j h1 h2 h3
        obtain ⟨x, hx⟩ := Nat.dvd_of_mod_eq_zero hi
        obtain ⟨y, hy⟩ := Nat.dvd_of_mod_eq_zero h3
        generalize b / Nat.gcd n b = P at *
        have a1 : P * x < P * y := by omega
        have a2 : P * y < P * (x + 1) := by rw [Nat.mul_add]; omega
        have b1 := Nat.lt_of_mul_lt_mul_left a1
        have b2 := Nat.lt_of_mul_lt_mul_left a2
        omega
      have hw : whole (b / Nat.gcd n b) i (s - i) = ((i : Int) + 1) :: whole (b / Nat.gcd n b) (i + b / Nat.gcd n b) (s - (i + b / Nat.gcd n b)) := by
        rw [show s - i = (s - i - 1) + 1 from by omega, whole_succ, if_pos hi, whole_skip _ (b / Nat.gcd n b - 1) _ _ hsk]
        congr 2 <;> omega
      generalize b / Nat.gcd n b = P at *
      rw [w64 (x := (i : Int) + 1) (by omega), w64 (by omega), show (i : Int) + (P : Int) = ((i + P : Nat) : Int) from by omega, hP, hw]
      simp
    · rw [if_neg (by omega), show s - i = 0 from by omega]; simp [whole]
theorem rd_starts (n b d i : Nat) (h : i < d) : rd (starts n b 0 d) i = ((i * n % b : Nat) : Int) := by
  unfold rd starts
  rw [List.getD_eq_getElem?_getD, Int.toNat_natCast, List.getElem?_map, List.getElem?_range' h]; simp
theorem impl_whole_l0 (s n b : Nat) (hs : s ≤ 100) (hb : 0 < b) (d : Nat) : ∀ (k i : Nat) (acc : List Int), i + d = s → d < k → acc.length ≤ i →
    impl_WholeStarts.l0 k acc (starts n b 0 s) s i = some (acc ++ whole (b / Nat.gcd n b) i d, true) := by
  induction d with
  | zero =>
    intro k i acc hd hk ha
    obtain ⟨k, rfl⟩ : ∃ m, k = m + 1 := ⟨k - 1, by omega⟩
    simp only [impl_WholeStarts.l0]
    rw [if_neg (by omega)]; simp [whole]
  | succ d ih =>
    intro k i acc hd hk ha
    obtain ⟨k, rfl⟩ : ∃ m, k = m + 1 := ⟨k - 1, by omega⟩
    simp only [impl_WholeStarts.l0]
    have hiff : i * n % b = 0 ↔ i % (b / Nat.gcd n b) = 0 := by
      constructor
      · intro h; exact Nat.mod_eq_zero_of_dvd ((period_dvd n b i hb).1 (Nat.dvd_of_mod_eq_zero h))
      · intro h; exact Nat.mod_eq_zero_of_dvd ((period_dvd n b i hb).2 (Nat.dvd_of_mod_eq_zero h))
    rw [if_pos (by omega), if_pos (by omega), if_pos (by rw [starts_length]; omega), rd_starts n b s i (by omega), whole_succ, w64 (by omega)]
    by_cases h : i % (b / Nat.gcd n b) = 0
    · rw [if_pos (by rw [hiff.2 h]; rfl), if_pos (by omega), if_pos h, show (i : Int) + 1 = ((i + 1 : Nat) : Int) from rfl, ih k (i + 1) _ (by omega) (by omega) (by simp; omega)]
      simp
    · have h2 : ¬ i * n % b = 0 := fun z => h (hiff.1 z)
      rw [if_neg (by omega), if_neg h, show (i : Int) + 1 = ((i + 1 : Nat) : Int) from rfl, ih k (i + 1) _ (by omega) (by omega) (by omega)]
noncomputable def wholeR (a b c : Int) : List Int × Bool := if (1 ≤ a ∧ a ≤ 100) ∧ (1 ≤ b ∧ b ≤ 100) ∧ (1 ≤ c ∧ c ≤ 2000) then (whole (c.toNat / Nat.gcd b.toNat c.toNat) 0 a.toNat, true) else ([], false)
theorem spec_whole_eq {k : Nat} (hk : 4000 < k) (a b c : Int) : spec_WholeStarts.f k a b c = some (wholeR a b c) := by
  obtain ⟨k, rfl⟩ : ∃ m, k = m + 1 := ⟨k - 1, by omega⟩
  unfold spec_WholeStarts.f wholeR
  rw [cpSteps_eq, cpPattern_eq]
  simp only [Option.bind_some, spec_WholeStarts.j0]
  by_cases h : (1 ≤ a ∧ a ≤ 100) ∧ (1 ≤ b ∧ b ≤ 100) ∧ (1 ≤ c ∧ c ≤ 2000)
  · obtain ⟨a, rfl⟩ := Int.eq_ofNat_of_zero_le (show 0 ≤ a by omega)
    obtain ⟨b, rfl⟩ := Int.eq_ofNat_of_zero_le (show 0 ≤ b by omega)
    obtain ⟨c, rfl⟩ := Int.eq_ofNat_of_zero_le (show 0 ≤ c by omega)
    rw [if_pos h, if_pos (by simp; omega), if_neg (by simp; omega), show (0 : Int) = ((0 : Nat) : Int) from rfl, spec_whole_l0 a b c (by omega) (by omega) (by omega) (by omega) (by omega) a k 0 [] (by omega) (by omega) (Nat.zero_mod _) (by omega) (by simp) (by omega)]
    simp
  · rw [if_neg h]
    by_cases g : (1 ≤ a ∧ a ≤ 100) ∧ (1 ≤ b ∧ b ≤ 100)
    · rw [if_pos (by simp; omega), if_pos (by simp; omega)]
    · rw [if_neg (by simp; omega), if_pos trivial]
theorem impl_whole_eq {k : Nat} (hk : 4000 < k) (a b c : Int) : impl_WholeStarts.f k a b c = some (wholeR a b c) := by
  unfold impl_WholeStarts.f wholeR
  rw [impl_starts_eq (by omega), Option.bind_some]
  unfold startsR
  by_cases h : (1 ≤ a ∧ a ≤ 100) ∧ (1 ≤ b ∧ b ≤ 100) ∧ (1 ≤ c ∧ c ≤ 2000)
  · obtain ⟨a, rfl⟩ := Int.eq_ofNat_of_zero_le (show 0 ≤ a by omega)
    obtain ⟨b, rfl⟩ := Int.eq_ofNat_of_zero_le (show 0 ≤ b by omega)
    obtain ⟨c, rfl⟩ := Int.eq_ofNat_of_zero_le (show 0 ≤ c by omega)
    rw [if_pos h, if_pos h]
    simp only [Int.toNat_natCast]
    rw [if_pos trivial, starts_length, show (0 : Int) = ((0 : Nat) : Int) from rfl, impl_whole_l0 a b c (by omega) (by omega) a k 0 [] (by omega) (by omega) (by simp)]
    simp
  · rw [if_neg h, if_neg h, if_neg (by simp)]
theorem wholeR_length (a b c : Int) : (wholeR a b c).1.length ≤ 100 := by
  unfold wholeR; split
  · exact Nat.le_trans (whole_length _ _ _) (by omega)
  · simp
theorem FnExactWholeStarts : laws_FnExactWholeStarts.Pure := by
  intro a b c _ _ _
  obtain ⟨k, hk⟩ : ∃ k, 5100 < k := ⟨5101, by omega⟩
  refine ⟨k + 2, ?_⟩
  have hl := wholeR_length a b c
  unfold laws_FnExactWholeStarts.f
  rw [spec_whole_eq (by omega), Option.bind_some, impl_whole_eq (by omega), Option.bind_some, eqIntS_self (by omega) (by omega), Option.bind_some, if_pos rfl, laws_FnExactWholeStarts.j0, if_neg (by simp), markIntS_eq (by omega) (by omega) (by omega), Option.bind_some, heldIntS_eq (by omega) (by omega) (by omega), Option.bind_some, if_neg (by omega), if_pos rfl, impl_whole_eq (by omega), Option.bind_some, eqIntS_self (by omega) (by omega), Option.bind_some]
  rw [if_pos rfl, laws_FnExactWholeStarts.j1, if_neg (by simp), heldIntS_eq (by omega) (by omega) (by omega), Option.bind_some, if_neg (by omega), if_pos rfl]

end Go.Proofs.Ytojcdkiopdcdoaa.Pure
