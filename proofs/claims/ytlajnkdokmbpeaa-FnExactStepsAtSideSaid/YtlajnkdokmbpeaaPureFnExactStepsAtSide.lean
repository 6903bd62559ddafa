/- The program's StepsAtSide returns what the reference's returns, for all arguments. No condition. -/
import Derived.Test.YtlajnkdokmbpeaaPFnExactStepsAtSidex3
namespace Go.Proofs.Ytlajnkdokmbpeaa.Pure
open Go.RowKit Go.Proofs.Ytlajnkdokmbpeaa.PFnExactStepsAtSide Go.Proofs.YtlajnkdokmbpeaaW.PrintWords Go.Proofs.YtlajnkdokmbpeaaW.PrintLast Go.Proofs.YtlajnkdokmbpeaaW.PrintMore
set_option linter.unusedVariables false
set_option linter.unusedSimpArgs false

-- block within
theorem within_eq (a b c : Int) : impl_within.f a b c = some (decide (b ≤ a ∧ a ≤ c)) := by
  unfold impl_within.f
  by_cases h : b ≤ a
  · rw [if_pos h]; simp [h]
  · rw [if_neg h]; simp [h]

-- block l1In
theorem l1In_eq (a b c : Int) : spec_l1In.f a b c = some (decide (b ≤ a ∧ a ≤ c)) := by
  unfold spec_l1In.f
  by_cases h : a ≥ b
  · rw [if_pos h]; simp [show b ≤ a from h]
  · rw [if_neg h]; simp [show ¬ b ≤ a from h]

-- block w64
theorem w64 {x : Int} (h : -9223372036854775808 ≤ x ∧ x ≤ 9223372036854775807) : wrap64 x = x := by
  unfold wrap64; omega

-- block tdiv
theorem tdiv_nat (a b : Nat) : Int.tdiv (a : Int) (b : Int) = ((a / b : Nat) : Int) := rfl
theorem tmod_nat (a b : Nat) : Int.tmod (a : Int) (b : Int) = ((a % b : Nat) : Int) := rfl
theorem tdiv_pos {a b : Int} (ha : 0 ≤ a) : Int.tdiv a b = a / b := Int.tdiv_eq_ediv_of_nonneg ha
theorem tmod_pos {a b : Int} (ha : 0 ≤ a) : Int.tmod a b = a % b := Int.tmod_eq_emod_of_nonneg ha

-- block spiral
def goodB (a b c : Int) : Bool := decide ((1 ≤ a ∧ a ≤ 400) ∧ (3 ≤ b ∧ b ≤ 60) ∧ (1 ≤ c ∧ c ≤ 300))
theorem spGood_eq (a b c : Int) : spec_spGood.f a b c = some (goodB a b c) := by
  unfold spec_spGood.f goodB
  rw [l1In_eq, l1In_eq, l1In_eq]
  simp only [Option.bind_some]
  by_cases h : 1 ≤ a ∧ a ≤ 400
  · by_cases g : 3 ≤ b ∧ b ≤ 60
    · rw [if_pos (decide_eq_true h), if_pos (decide_eq_true g)]; congr 1; rw [decide_eq_decide]; omega
    · rw [if_pos (decide_eq_true h), if_neg (by simpa using g)]; congr 1; rw [eq_comm, decide_eq_false_iff_not]; omega
  · rw [if_neg (by simpa using h)]; congr 1; rw [eq_comm, decide_eq_false_iff_not]; omega

-- block IsSpiral
theorem IsSpiral_eq (a b c : Int) : impl_IsSpiral.f a b c = some (goodB a b c) := by
  unfold impl_IsSpiral.f goodB
  rw [within_eq, within_eq, within_eq]
  simp only [Option.bind_some]
  by_cases h : 1 ≤ a ∧ a ≤ 400
  · by_cases g : 3 ≤ b ∧ b ≤ 60
    · rw [if_pos (decide_eq_true h), if_pos (decide_eq_true g)]; congr 1; rw [decide_eq_decide]; omega
    · rw [if_pos (decide_eq_true h), if_neg (by simpa using g)]; congr 1; rw [eq_comm, decide_eq_false_iff_not]; omega
  · rw [if_neg (by simpa using h)]; congr 1; rw [eq_comm, decide_eq_false_iff_not]; omega

-- block angle
theorem angle_eq (a c : Int) (R s : Nat) (hR : 0 < R) (hs : 0 < s) (hs2 : s ≤ 1000) : impl_Spiral_angle.f a R c s = some (((s - 1) % R : Nat) : Int) := by
  unfold impl_Spiral_angle.f
  rw [if_neg (by omega), w64 (by omega), show (s : Int) - 1 = ((s - 1 : Nat) : Int) from by omega, tmod_nat]

-- block side
def sideN (R s : Nat) : Nat := (4 * ((s - 1) % R) / R + if 2 * (4 * ((s - 1) % R) % R) > R then 1 else 0) % 4
theorem sideN_lt (R s : Nat) : sideN R s < 4 := Nat.mod_lt _ (by omega)
theorem side_eq (a c : Int) (R s : Nat) (hR : 0 < R) (hR2 : R ≤ 100) (hs : 0 < s) (hs2 : s ≤ 1000) : impl_Spiral_side.f a R c s = some (sideN R s : Int) := by
  unfold impl_Spiral_side.f sideN
  rw [angle_eq a c R s hR hs hs2, Option.bind_some, if_neg (by omega)]
  have hat := Nat.mod_lt (s - 1) hR
  generalize (s - 1) % R = t at *
  have hr := Nat.mod_lt (4 * t) hR
  have hq : 4 * t / R ≤ 4 * t := Nat.div_le_self _ _
  rw [w64 (x := 4 * (t : Int)) (by omega), show 4 * (t : Int) = ((4 * t : Nat) : Int) from by omega, tmod_nat, tdiv_nat]
  generalize 4 * t / R = q at *
  generalize 4 * t % R = r at *
  rw [w64 (x := 2 * (r : Int)) (by omega), w64 (x := (q : Int)) (by omega), w64 (by omega)]
  by_cases h : 2 * r > R
  · rw [if_pos (by omega), if_pos h, show (q : Int) + 1 = ((q + 1 : Nat) : Int) from rfl, show (4 : Int) = ((4 : Nat) : Int) from rfl, tmod_nat]
  · rw [if_neg (by omega), if_neg h, show (4 : Int) = ((4 : Nat) : Int) from rfl, tmod_nat]; simp
theorem spSide_l0 (a c : Int) (R t q r e : Nat) (hR : 0 < R) (hR2 : R ≤ 100) (ht : t < R) (hn : R * q + r = 4 * t) (hr : r < R) (he : e = q + if 2 * r > R then 1 else 0) (d : Nat) : ∀ (k j : Nat), j + d = e → d < k →
    spec_spSide.l0 k t j a R c = some ((e % 4 : Nat) : Int) := by
  have hq4 : q ≤ 400 := by
    have : 1 * q ≤ R * q := Nat.mul_le_mul_right _ hR
    omega
  have lin : ∀ j : Nat, R * (2 * j + 1) = 2 * (R * j) + R := fun j => by rw [Nat.mul_add, Nat.mul_one, Nat.mul_left_comm]
  induction d with
  | zero =>
    intro k j hd hk
    obtain ⟨k, rfl⟩ : ∃ m, k = m + 1 := ⟨k - 1, by omega⟩
    simp only [spec_spSide.l0]
    have hj : j ≤ 401 := by split at he <;> omega
    have hm : R * (2 * j + 1) ≤ 100 * 1000 := Nat.mul_le_mul hR2 (by omega)
    have key : 8 * t ≤ R * (2 * j + 1) := by
      rw [lin]
      have : j = e := by omega
      subst this
      rw [he]
      by_cases h : 2 * r > R
      · rw [if_pos h, Nat.mul_add]; omega
      · rw [if_neg h, Nat.add_zero]; omega
    rw [w64 (x := 8 * (t : Int)) (by omega), w64 (x := 2 * (j : Int)) (by omega), w64 (x := 2 * (j : Int) + 1) (by omega), show 2 * (j : Int) + 1 = ((2 * j + 1 : Nat) : Int) from by omega, ← Int.natCast_mul, w64 (by omega), if_neg (by omega), show (4 : Int) = ((4 : Nat) : Int) from rfl, tmod_nat, show j = e from by omega]
  | succ d ih =>
    intro k j hd hk
    obtain ⟨k, rfl⟩ : ∃ m, k = m + 1 := ⟨k - 1, by omega⟩
    simp only [spec_spSide.l0]
    have hj : j ≤ 401 := by split at he <;> omega
    have hm : R * (2 * j + 1) ≤ 100 * 1000 := Nat.mul_le_mul hR2 (by omega)
    have key : 8 * t > R * (2 * j + 1) := by
      rw [lin]
      by_cases h : j < q
      · have : R * (j + 1) ≤ R * q := Nat.mul_le_mul_left _ h
        rw [Nat.mul_add] at this
        omega
      · have hjq : j = q := by split at he <;> omega
        subst hjq
        have : 2 * r > R := by
          by_cases h2 : 2 * r > R
          · exact h2
          · rw [if_neg h2] at he; omega
        omega
    rw [w64 (x := 8 * (t : Int)) (by omega), w64 (x := 2 * (j : Int)) (by omega), w64 (x := 2 * (j : Int) + 1) (by omega), show 2 * (j : Int) + 1 = ((2 * j + 1 : Nat) : Int) from by omega, ← Int.natCast_mul, w64 (x := ((R * (2 * j + 1) : Nat) : Int)) (by omega), if_pos (by omega), w64 (by omega)]
    exact ih k (j + 1) (by omega) (by omega)
theorem spSide_eq {k : Nat} (a c : Int) (R s : Nat) (hR : 0 < R) (hR2 : R ≤ 100) (hs : 0 < s) (hs2 : s ≤ 1000) (hk : 1000 < k) : spec_spSide.f k a R c s = some (sideN R s : Int) := by
  unfold spec_spSide.f sideN
  have hat := Nat.mod_lt (s - 1) hR
  rw [if_neg (by omega), w64 (by omega), show (s : Int) - 1 = ((s - 1 : Nat) : Int) from by omega, tmod_nat]
  generalize (s - 1) % R = t at *
  have hr := Nat.mod_lt (4 * t) hR
  have hn := Nat.div_add_mod (4 * t) R
  have hq : 4 * t / R ≤ 4 * t := Nat.div_le_self _ _
  generalize 4 * t / R = q at *
  generalize 4 * t % R = r at *
  exact spSide_l0 a c R t q r _ hR hR2 hat hn hr rfl (q + if 2 * r > R then 1 else 0) k 0 (by omega) (by split <;> omega)

-- block filt
/-- The numbers from i on, d of them, of which p holds. -/
def filt (p : Nat → Bool) (i d : Nat) : List Int := ((List.range' i d).filter p).map fun j : Nat => (j : Int)
theorem filt_succ (p : Nat → Bool) (i d : Nat) : filt p i (d + 1) = if p i = true then (i : Int) :: filt p (i + 1) d else filt p (i + 1) d := by
  unfold filt
  rw [List.range'_succ, List.filter_cons]
  by_cases h : p i = true
  · rw [if_pos h, if_pos h]; rfl
  · rw [if_neg h, if_neg h]
theorem filt_zero (p : Nat → Bool) (i : Nat) : filt p i 0 = [] := by simp [filt]
theorem filt_skip (p : Nat → Bool) (m : Nat) : ∀ (i d : Nat), (∀ j, i ≤ j → j < i + m → p j ≠ true) → filt p i d = filt p (i + m) (d - m) := by
  induction m with
  | zero => intro i d _; rfl
  | succ m ih =>
    intro i d h
    cases d with
    | zero => simp [filt]
    | succ d =>
      rw [filt_succ, if_neg (h i (Nat.le_refl _) (by omega)), ih (i + 1) d (fun j h1 h2 => h j (by omega) (by omega))]
      congr 1 <;> omega
theorem filt_length (p : Nat → Bool) (i d : Nat) : (filt p i d).length ≤ d := by
  unfold filt; rw [List.length_map]; exact Nat.le_trans (List.length_filter_le _ _) (by simp)
theorem thoseW_l0 (q : Int → Option Bool) (p : Nat → Bool) (N : Nat) (hN : N ≤ 1000) (hq : ∀ j : Nat, 1 ≤ j → j ≤ N → q j = some (p j)) (d : Nat) : ∀ (k i : Nat) (acc : List Int), i + d = N + 1 → d < k → acc.length ≤ i → 1 ≤ i → thoseW q k N i acc = some (acc ++ filt p i d) := by
  induction d with
  | zero =>
    intro k i acc hd hk ha hi
    obtain ⟨k, rfl⟩ : ∃ m, k = m + 1 := ⟨k - 1, by omega⟩
    simp only [thoseW]
    rw [if_neg (by omega), filt_zero, List.append_nil]
  | succ d ih =>
    intro k i acc hd hk ha hi
    obtain ⟨k, rfl⟩ : ∃ m, k = m + 1 := ⟨k - 1, by omega⟩
    simp only [thoseW]
    rw [if_pos (by omega), hq i hi (by omega), Option.bind_some, filt_succ, w64 (by omega), show (i : Int) + 1 = ((i + 1 : Nat) : Int) from rfl]
    by_cases h : p i = true
    · rw [if_pos h, if_pos h, if_pos (by omega), ih k (i + 1) _ (by omega) (by omega) (by simp; omega) (by omega)]; simp
    · rw [if_neg h, if_neg h, ih k (i + 1) _ (by omega) (by omega) (by omega) (by omega)]
theorem thoseW_eq {k : Nat} (q : Int → Option Bool) (p : Nat → Bool) (N : Nat) (hN : N ≤ 1000) (hk : 1001 < k) (hq : ∀ j : Nat, 1 ≤ j → j ≤ N → q j = some (p j)) : thoseW q k N 1 [] = some (filt p 1 N) :=
  thoseW_l0 q p N hN hq N k 1 [] (by omega) (by omega) (by simp) (by omega)
theorem multiple_gap {R x y : Nat} (h1 : x % R = 0) (h2 : y % R = 0) (h3 : x < y) (h4 : y < x + R) : False := by
  obtain ⟨a, rfl⟩ := Nat.dvd_of_mod_eq_zero h1
  obtain ⟨b, rfl⟩ := Nat.dvd_of_mod_eq_zero h2
  have a2 : R * b < R * (a + 1) := by rw [Nat.mul_add]; omega
  have b1 := Nat.lt_of_mul_lt_mul_left h3
  have b2 := Nat.lt_of_mul_lt_mul_left a2
  omega

-- block eqIntS
theorem eqIntS_l0 (l : List Int) (hl : l.length ≤ 1000000000) (d : Nat) : ∀ (k i : Nat), i + d = l.length → d < k → laws_eqIntS.l0 k l l i = some true := by
  induction d with
  | zero =>
    intro k i hd hk
    obtain ⟨k, rfl⟩ : ∃ m, k = m + 1 := ⟨k - 1, by omega⟩
    simp only [laws_eqIntS.l0]; rw [if_neg (by omega)]
  | succ d ih =>
    intro k i hd hk
    obtain ⟨k, rfl⟩ : ∃ m, k = m + 1 := ⟨k - 1, by omega⟩
    simp only [laws_eqIntS.l0]
    rw [if_pos (by omega), if_pos (by omega), if_pos (by omega), if_pos trivial, w64 (by omega)]
    exact ih k (i + 1) (by omega) (by omega)
theorem eqIntS_self {k : Nat} {l : List Int} (hl : l.length ≤ 1000000000) (hk : l.length < k) : laws_eqIntS.f k l l = some true := by
  unfold laws_eqIntS.f
  rw [if_pos rfl, show (0 : Int) = ((0 : Nat) : Int) from rfl, eqIntS_l0 l hl l.length k 0 (by omega) hk]

-- block marks
def ups (a : Int) (n : Nat) : List Int := (List.range n).map fun i : Nat => a + (i : Int)
theorem ups_length (a : Int) (n : Nat) : (ups a n).length = n := by simp [ups]
theorem ups_succ (a : Int) (n : Nat) : ups a (n + 1) = ups a n ++ [a + n] := by simp [ups, List.range_succ]
theorem rd_ups (a : Int) (n i : Nat) (h : i < n) : rd (ups a n) i = a + i := by
  unfold rd ups
  rw [List.getD_eq_getElem?_getD, Int.toNat_natCast, List.getElem?_map, List.getElem?_range h]; rfl
theorem markIntS_l0 (a : Int) (ha : 0 ≤ a) (d : Nat) : ∀ (k i : Nat) (post : List Int), post.length = d → a + i + d ≤ 4000000000000 → d < k →
    laws_markIntS.l0 k (ups a i ++ post) (a + i) i = some (a + i + d, ups a (i + d)) := by
  induction d with
  | zero =>
    intro k i post hp hb hk
    obtain ⟨k, rfl⟩ : ∃ m, k = m + 1 := ⟨k - 1, by omega⟩
    obtain rfl := List.eq_nil_of_length_eq_zero hp
    simp only [laws_markIntS.l0]
    rw [if_neg (by simp [ups_length])]
    simp
  | succ d ih =>
    intro k i post hp hb hk
    obtain ⟨k, rfl⟩ : ∃ m, k = m + 1 := ⟨k - 1, by omega⟩
    obtain ⟨x, post, rfl⟩ : ∃ x p, post = x :: p := by
      cases post with
      | nil => simp at hp
      | cons x p => exact ⟨x, p, rfl⟩
    simp only [laws_markIntS.l0]
    rw [if_pos (by simp [ups_length]; omega), if_pos (by omega), w64 (by omega), w64 (by omega)]
    have e : (ups a i ++ x :: post).set (i : Int).toNat (a + i) = ups a (i + 1) ++ post := by
      rw [Int.toNat_natCast, List.set_append_right _ _ (by simp [ups_length]), ups_length, Nat.sub_self, List.set_cons_zero, ups_succ, List.append_assoc]; rfl
    rw [e, show a + (i : Int) + 1 = a + ((i + 1 : Nat) : Int) from by omega, show (i : Int) + 1 = ((i + 1 : Nat) : Int) from rfl]
    rw [ih k (i + 1) post (by simpa using hp) (by omega) (by omega)]
    rw [show i + 1 + d = i + (d + 1) from by omega]
    congr 2; omega
theorem markIntS_eq {k : Nat} {l : List Int} {a : Int} (ha : 0 ≤ a) (hb : a + l.length ≤ 4000000000000) (hk : l.length < k) : laws_markIntS.f k l a = some (a + l.length, ups a l.length) := by
  unfold laws_markIntS.f
  have := markIntS_l0 a ha l.length k 0 l rfl (by omega) hk
  simpa [ups] using this
theorem heldIntS_l0 (a : Int) (ha : 0 ≤ a) (n : Nat) (hb : a + n ≤ 4000000000000) (d : Nat) : ∀ (k i : Nat), i + d = n → d < k → laws_heldIntS.l0 k (ups a n) (a + i) i = some (a + n) := by
  induction d with
  | zero =>
    intro k i hd hk
    obtain ⟨k, rfl⟩ : ∃ m, k = m + 1 := ⟨k - 1, by omega⟩
    simp only [laws_heldIntS.l0]
    rw [if_neg (by rw [ups_length]; omega)]
    congr 1; omega
  | succ d ih =>
    intro k i hd hk
    obtain ⟨k, rfl⟩ : ∃ m, k = m + 1 := ⟨k - 1, by omega⟩
    simp only [laws_heldIntS.l0]
    rw [if_pos (by rw [ups_length]; omega), if_pos (by omega), rd_ups _ _ _ (by omega), if_pos rfl, w64 (by omega), w64 (by omega)]
    rw [show a + (i : Int) + 1 = a + ((i + 1 : Nat) : Int) from by omega, show (i : Int) + 1 = ((i + 1 : Nat) : Int) from rfl]
    exact ih k (i + 1) (by omega) (by omega)
theorem heldIntS_eq {k n : Nat} {a : Int} (ha : 0 ≤ a) (hb : a + n ≤ 4000000000000) (hk : n < k) : laws_heldIntS.f k (ups a n) a = some (a + n) := by
  unfold laws_heldIntS.f
  have := heldIntS_l0 a ha n hb n k 0 (by omega) hk
  simpa using this

theorem nesw_ge (c : UInt8) : 0 ≤ nesw c ↔ (c = 110 ∨ c = 101 ∨ c = 115 ∨ c = 119) := by
  unfold nesw
  simp only [Lib.indexByte, beq_iff_eq]
  by_cases h1 : (110 : UInt8) = c
  · subst h1; simp
  · by_cases h2 : (101 : UInt8) = c
    · subst h2; simp
    · by_cases h3 : (115 : UInt8) = c
      · subst h3; simp
      · by_cases h4 : (119 : UInt8) = c
        · subst h4; simp
        · rw [if_neg h1, if_neg h2, if_neg h3, if_neg h4]
          simp only [if_true]
          constructor
          · intro z; exact absurd z (by decide)
          · rintro (z | z | z | z)
            · exact absurd z.symm h1
            · exact absurd z.symm h2
            · exact absurd z.symm h3
            · exact absurd z.symm h4
theorem nesw_bt (c : UInt8) (s : Nat) (hs : s < 4) (h : c = 110 ∨ c = 101 ∨ c = 115 ∨ c = 119) : ((s : Int) == nesw c) = decide (bt (⟨#[110, 101, 115, 119]⟩ : ByteArray) s = bt (⟨#[c]⟩ : ByteArray) 0) := by
  have : s = 0 ∨ s = 1 ∨ s = 2 ∨ s = 3 := by omega
  rcases this with rfl | rfl | rfl | rfl <;> rcases h with rfl | rfl | rfl | rfl <;> decide
def sideP (R : Nat) (c : UInt8) (j : Nat) : Bool := (sideN R j : Int) == nesw c
theorem spec_side_l0 (a R : Nat) (e : Int) (c : UInt8) (hc : c = 110 ∨ c = 101 ∨ c = 115 ∨ c = 119) (ha : a ≤ 400) (hR : 0 < R) (hR2 : R ≤ 100) (d : Nat) : ∀ (k i : Nat) (acc : List Int), i + d = a + 1 → 1 ≤ i → d + 1001 < k → acc.length ≤ i →
    spec_StepsAtSide.l0 k ⟨#[c]⟩ acc i a R e = some (acc ++ filt (sideP R c) i d, true) := by
  induction d with
  | zero =>
    intro k i acc hd hi hk hl
    obtain ⟨k, rfl⟩ : ∃ m, k = m + 1 := ⟨k - 1, by omega⟩
    simp only [spec_StepsAtSide.l0]
    rw [if_neg (by omega), filt_zero, List.append_nil]
  | succ d ih =>
    intro k i acc hd hi hk hl
    obtain ⟨k, rfl⟩ : ∃ m, k = m + 1 := ⟨k - 1, by omega⟩
    have hs := sideN_lt R i
    have e0 : (0 : Int) < ((⟨#[c]⟩ : ByteArray).size : Int) := by show (0 : Int) < ((1 : Nat) : Int); omega
    simp only [spec_StepsAtSide.l0]
    rw [if_pos (by omega), spSide_eq _ _ R i hR hR2 (by omega) (by omega) (by omega), Option.bind_some, if_pos (by omega), if_pos (by omega), if_pos e0, w64 (x := (i : Int) + 1) (by omega), show (i : Int) + 1 = ((i + 1 : Nat) : Int) from rfl, filt_succ]
    have key := nesw_bt c (sideN R i) hs hc
    by_cases h : sideP R c i = true
    · have g : bt (⟨#[110, 101, 115, 119]⟩ : ByteArray) (sideN R i) = bt (⟨#[c]⟩ : ByteArray) 0 := by
        unfold sideP at h; rw [key] at h; exact of_decide_eq_true h
      rw [if_pos g, if_pos h, if_pos (by omega), ih k (i + 1) _ (by omega) (by omega) (by omega) (by simp; omega)]; simp
    · have g : ¬ bt (⟨#[110, 101, 115, 119]⟩ : ByteArray) (sideN R i) = bt (⟨#[c]⟩ : ByteArray) 0 := by
        unfold sideP at h; rw [key] at h; exact fun z => h (decide_eq_true z)
      rw [if_neg g, if_neg h, ih k (i + 1) _ (by omega) (by omega) (by omega) (by omega)]
theorem toList_one {s : ByteArray} {c : UInt8} (h : s.toList = [c]) : s = ⟨#[c]⟩ := by
  rw [Lib.toList_data] at h
  obtain ⟨⟨l⟩⟩ := s
  show ByteArray.mk _ = _
  congr 1
  exact congrArg Array.mk h
theorem one_toList (c : UInt8) : (⟨#[c]⟩ : ByteArray).toList = [c] := by rw [Lib.toList_data]
open Classical in
theorem spec_side_f {k : Nat} (a b e : Int) (s : ByteArray) (h : goodB a b e = true) : spec_StepsAtSide.f k a b e s = spec_StepsAtSide.j0 k s (!decide (∃ c, s = ⟨#[c]⟩ ∧ (c = 110 ∨ c = 101 ∨ c = 115 ∨ c = 119))) a b e := by
  unfold spec_StepsAtSide.f
  rw [spGood_eq, Option.bind_some, if_pos h]
  by_cases h1 : s.toList = ([110] : List UInt8)
  · rw [if_pos h1, decide_eq_true (show ∃ c, s = ⟨#[c]⟩ ∧ (c = 110 ∨ c = 101 ∨ c = 115 ∨ c = 119) from ⟨_, toList_one h1, .inl rfl⟩)]; rfl
  · rw [if_neg h1]
    by_cases h2 : s.toList = ([101] : List UInt8)
    · rw [if_pos h2, decide_eq_true (show ∃ c, s = ⟨#[c]⟩ ∧ (c = 110 ∨ c = 101 ∨ c = 115 ∨ c = 119) from ⟨_, toList_one h2, .inr (.inl rfl)⟩)]; rfl
    · rw [if_neg h2]
      by_cases h3 : s.toList = ([115] : List UInt8)
      · rw [if_pos h3, decide_eq_true (show ∃ c, s = ⟨#[c]⟩ ∧ (c = 110 ∨ c = 101 ∨ c = 115 ∨ c = 119) from ⟨_, toList_one h3, .inr (.inr (.inl rfl))⟩)]; rfl
      · rw [if_neg h3]
        by_cases h4 : s.toList = ([119] : List UInt8)
        · rw [decide_eq_true (show ∃ c, s = ⟨#[c]⟩ ∧ (c = 110 ∨ c = 101 ∨ c = 115 ∨ c = 119) from ⟨_, toList_one h4, .inr (.inr (.inr rfl))⟩), show (s.toList != ([119] : List UInt8)) = false from by rw [h4]; rfl]; rfl
        · rw [decide_eq_false (show ¬ ∃ c, s = ⟨#[c]⟩ ∧ (c = 110 ∨ c = 101 ∨ c = 115 ∨ c = 119) from by
            rintro ⟨c, rfl, g⟩
            rw [one_toList] at h1 h2 h3 h4
            rcases g with rfl | rfl | rfl | rfl
            · exact h1 rfl
            · exact h2 rfl
            · exact h3 rfl
            · exact h4 rfl), show (s.toList != ([119] : List UInt8)) = true from bne_iff_ne.2 h4]; rfl
open Classical in
theorem StepsAtSide_eq {k : Nat} (hk : 3000 < k) (a b e : Int) (s : ByteArray) : ∃ r, spec_StepsAtSide.f k a b e s = some r ∧ impl_StepsAtSide.f k a b e s = some r ∧ r.1.length ≤ 400 := by
  by_cases h : goodB a b e = true
  · rw [spec_side_f a b e s h]
    unfold impl_StepsAtSide.f
    rw [IsSpiral_eq, Option.bind_some, if_pos h]
    have g := h
    unfold goodB at g
    rw [decide_eq_true_eq] at g
    obtain ⟨a, rfl⟩ := Int.eq_ofNat_of_zero_le (show 0 ≤ a by omega)
    obtain ⟨b, rfl⟩ := Int.eq_ofNat_of_zero_le (show 0 ≤ b by omega)
    obtain ⟨k, rfl⟩ : ∃ m, k = m + 1 := ⟨k - 1, by omega⟩
    by_cases h1 : s.size = 1
    · have es := one_byte s h1
      generalize s.data.getD 0 0 = c at *
      rw [if_pos h1]
      subst es
      by_cases hc : c = 110 ∨ c = 101 ∨ c = 115 ∨ c = 119
      · rw [if_pos ((nesw_ge c).2 hc), decide_eq_true (show ∃ x, (⟨#[c]⟩ : ByteArray) = ⟨#[x]⟩ ∧ (x = 110 ∨ x = 101 ∨ x = 115 ∨ x = 119) from ⟨c, rfl, hc⟩)]
        have e1 := spec_side_l0 a b e c hc (by omega) (by omega) (by omega) a k 1 [] (by omega) (by omega) (by omega) (by simp)
        rw [show ((1 : Nat) : Int) = 1 from rfl] at e1
        simp only [spec_StepsAtSide.j0, Bool.not_true]
        rw [if_neg (by simp)]
        rw [e1, thoseW_eq _ (sideP b c) a (by omega) (by omega) (fun j j1 j2 => by
          unfold impl_StepsAtSide.q sideP
          rw [side_eq _ _ b j (by omega) (by omega) (by omega) (by omega), Option.bind_some]), Option.bind_some]
        have := filt_length (sideP b c) 1 a
        exact ⟨_, rfl, by simp, by simp; omega⟩
      · rw [if_neg (fun z => hc ((nesw_ge c).1 z)), decide_eq_false (show ¬ ∃ x, (⟨#[c]⟩ : ByteArray) = ⟨#[x]⟩ ∧ (x = 110 ∨ x = 101 ∨ x = 115 ∨ x = 119) from by
          rintro ⟨x, q, y⟩
          have q2 : (#[c] : Array UInt8) = #[x] := congrArg ByteArray.data q
          have : c = x := by simpa using q2
          subst this; exact hc y)]
        simp only [spec_StepsAtSide.j0, Bool.not_false, if_true]
        exact ⟨_, rfl, rfl, by simp⟩
    · rw [if_neg h1, decide_eq_false (show ¬ ∃ x, s = ⟨#[x]⟩ ∧ (x = 110 ∨ x = 101 ∨ x = 115 ∨ x = 119) from by
        rintro ⟨x, rfl, -⟩; exact h1 rfl)]
      simp only [spec_StepsAtSide.j0, Bool.not_false, if_true]
      exact ⟨_, rfl, rfl, by simp⟩
  · unfold spec_StepsAtSide.f impl_StepsAtSide.f
    rw [spGood_eq, IsSpiral_eq, Option.bind_some, Option.bind_some, if_neg h, if_neg h]
    obtain ⟨k, rfl⟩ : ∃ m, k = m + 1 := ⟨k - 1, by omega⟩
    simp only [spec_StepsAtSide.j0, if_true]
    exact ⟨_, rfl, rfl, by simp⟩
theorem FnExactStepsAtSide : laws_FnExactStepsAtSide.Pure := by
  intro a b c s _ _ _ _
  obtain ⟨k, hk⟩ : ∃ k, 900000 < k := ⟨900001, by omega⟩
  refine ⟨k + 2, ?_⟩
  obtain ⟨r, h1, h2, hl⟩ := StepsAtSide_eq (k := k + 2) (by omega) a b c s
  obtain ⟨r', h1', h2', -⟩ := StepsAtSide_eq (k := k + 1) (by omega) a b c s
  have e : r' = r := by
    have m := impl_StepsAtSide.mono a b c s (k + 1) _ h2'
    rw [h2] at m; exact (Option.some.inj m).symm
  subst e
  unfold laws_FnExactStepsAtSide.f
  by_cases hs : (s.size : Int) > 1048576
  · rw [if_pos hs]
  rw [if_neg hs]
  repeat unfold laws_toSpiral.f
  repeat rw [Option.bind_some]
  rw [h1, Option.bind_some]
  repeat rw [Option.bind_some]
  rw [h2, Option.bind_some, eqIntS_self (by omega) (by omega), Option.bind_some, if_pos rfl, laws_FnExactStepsAtSide.j0, if_neg (by simp), markIntS_eq (by omega) (by omega) (by omega), Option.bind_some, heldIntS_eq (by omega) (by omega) (by omega), Option.bind_some, if_neg (by omega), if_pos rfl]
  repeat unfold laws_toSpiral.f
  repeat rw [Option.bind_some]
  rw [h2', Option.bind_some, eqIntS_self (by omega) (by omega), Option.bind_some, if_pos rfl, laws_FnExactStepsAtSide.j1, if_neg (by simp), heldIntS_eq (by omega) (by omega) (by omega), Option.bind_some, if_neg (by omega), if_pos rfl]

end Go.Proofs.Ytlajnkdokmbpeaa.Pure
