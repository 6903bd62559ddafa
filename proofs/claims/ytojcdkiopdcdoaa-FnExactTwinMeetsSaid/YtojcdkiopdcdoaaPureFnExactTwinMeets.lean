/- The program's TwinMeets returns what the reference's returns, for all arguments. No condition. -/
import Derived.Test.YtojcdkiopdcdoaaPFnExactTwinMeetsx3
namespace Go.Proofs.Ytojcdkiopdcdoaa.Pure
open Go.RowKit Go.Proofs.Ytojcdkiopdcdoaa.PFnExactTwinMeets Go.Proofs.YtojcdkiopdcdoaaW.PrintWords Go.Proofs.YtojcdkiopdcdoaaW.PrintLast Go.Proofs.YtojcdkiopdcdoaaW.PrintMore
set_option linter.unusedVariables false
set_option linter.unusedSimpArgs false

-- block within
theorem within_eq (a b c : Int) : impl_within.f a b c = some (decide (b ≤ a ∧ a ≤ c)) := by
  unfold impl_within.f
  by_cases h : b ≤ a
  · rw [if_pos h]; simp [h]
  · rw [if_neg h]; simp [h]

-- block l1In
theorem l1In_eq (a b c : Int) : spec_l1In.f a b c = some (decide (b ≤ a ∧ a ≤ c)) := by
  unfold spec_l1In.f
  by_cases h : a ≥ b
  · rw [if_pos h]; simp [show b ≤ a from h]
  · rw [if_neg h]; simp [show ¬ b ≤ a from h]

-- block w64
theorem w64 {x : Int} (h : -9223372036854775808 ≤ x ∧ x ≤ 9223372036854775807) : wrap64 x = x := by
  unfold wrap64; omega

-- block tdiv
theorem tdiv_nat (a b : Nat) : Int.tdiv (a : Int) (b : Int) = ((a / b : Nat) : Int) := rfl
theorem tmod_nat (a b : Nat) : Int.tmod (a : Int) (b : Int) = ((a % b : Nat) : Int) := rfl
theorem tdiv_pos {a b : Int} (ha : 0 ≤ a) : Int.tdiv a b = a / b := Int.tdiv_eq_ediv_of_nonneg ha
theorem tmod_pos {a b : Int} (ha : 0 ≤ a) : Int.tmod a b = a % b := Int.tmod_eq_emod_of_nonneg ha

-- block spiral
def goodB (a b c : Int) : Bool := decide ((1 ≤ a ∧ a ≤ 400) ∧ (3 ≤ b ∧ b ≤ 60) ∧ (1 ≤ c ∧ c ≤ 300))
theorem spGood_eq (a b c : Int) : spec_spGood.f a b c = some (goodB a b c) := by
  unfold spec_spGood.f goodB
  rw [l1In_eq, l1In_eq, l1In_eq]
  simp only [Option.bind_some]
  by_cases h : 1 ≤ a ∧ a ≤ 400
  · by_cases g : 3 ≤ b ∧ b ≤ 60
    · rw [if_pos (decide_eq_true h), if_pos (decide_eq_true g)]; congr 1; rw [decide_eq_decide]; omega
    · rw [if_pos (decide_eq_true h), if_neg (by simpa using g)]; congr 1; rw [eq_comm, decide_eq_false_iff_not]; omega
  · rw [if_neg (by simpa using h)]; congr 1; rw [eq_comm, decide_eq_false_iff_not]; omega

-- block IsSpiral
theorem IsSpiral_eq (a b c : Int) : impl_IsSpiral.f a b c = some (goodB a b c) := by
  unfold impl_IsSpiral.f goodB
  rw [within_eq, within_eq, within_eq]
  simp only [Option.bind_some]
  by_cases h : 1 ≤ a ∧ a ≤ 400
  · by_cases g : 3 ≤ b ∧ b ≤ 60
    · rw [if_pos (decide_eq_true h), if_pos (decide_eq_true g)]; congr 1; rw [decide_eq_decide]; omega
    · rw [if_pos (decide_eq_true h), if_neg (by simpa using g)]; congr 1; rw [eq_comm, decide_eq_false_iff_not]; omega
  · rw [if_neg (by simpa using h)]; congr 1; rw [eq_comm, decide_eq_false_iff_not]; omega

-- block angle
theorem angle_eq (a c : Int) (R s : Nat) (hR : 0 < R) (hs : 0 < s) (hs2 : s ≤ 1000) : impl_Spiral_angle.f a R c s = some (((s - 1) % R : Nat) : Int) := by
  unfold impl_Spiral_angle.f
  rw [if_neg (by omega), w64 (by omega), show (s : Int) - 1 = ((s - 1 : Nat) : Int) from by omega, tmod_nat]

-- block filt
/-- The numbers from i on, d of them, of which p holds. -/
def filt (p : Nat → Bool) (i d : Nat) : List Int := ((List.range' i d).filter p).map fun j : Nat => (j : Int)
theorem filt_succ (p : Nat → Bool) (i d : Nat) : filt p i (d + 1) = if p i = true then (i : Int) :: filt p (i + 1) d else filt p (i + 1) d := by
  unfold filt
  rw [List.range'_succ, List.filter_cons]
  by_cases h : p i = true
  · rw [if_pos h, if_pos h]; rfl
  · rw [if_neg h, if_neg h]
theorem filt_zero (p : Nat → Bool) (i : Nat) : filt p i 0 = [] := by simp [filt]
theorem filt_skip (p : Nat → Bool) (m : Nat) : ∀ (i d : Nat), (∀ j, i ≤ j → j < i + m → p j ≠ true) → filt p i d = filt p (i + m) (d - m) := by
  induction m with
  | zero => intro i d _; rfl
  | succ m ih =>
    intro i d h
    cases d with
    | zero => simp [filt]
    | succ d =>
      rw [filt_succ, if_neg (h i (Nat.le_refl _) (by omega)), ih (i + 1) d (fun j h1 h2 => h j (by omega) (by omega))]
      congr 1 <;> omega
theorem filt_length (p : Nat → Bool) (i d : Nat) : (filt p i d).length ≤ d := by
  unfold filt; rw [List.length_map]; exact Nat.le_trans (List.length_filter_le _ _) (by simp)
theorem thoseW_l0 (q : Int → Option Bool) (p : Nat → Bool) (N : Nat) (hN : N ≤ 1000) (hq : ∀ j : Nat, 1 ≤ j → j ≤ N → q j = some (p j)) (d : Nat) : ∀ (k i : Nat) (acc : List Int), i + d = N + 1 → d < k → acc.length ≤ i → 1 ≤ i → thoseW q k N i acc = some (acc ++ filt p i d) := by
  induction d with
  | zero =>
    intro k i acc hd hk ha hi
    obtain ⟨k, rfl⟩ : ∃ m, k = m + 1 := ⟨k - 1, by omega⟩
    simp only [thoseW]
    rw [if_neg (by omega), filt_zero, List.append_nil]
  | succ d ih =>
    intro k i acc hd hk ha hi
    obtain ⟨k, rfl⟩ : ∃ m, k = m + 1 := ⟨k - 1, by omega⟩
    simp only [thoseW]
    rw [if_pos (by omega), hq i hi (by omega), Option.bind_some, filt_succ, w64 (by omega), show (i : Int) + 1 = ((i + 1 : Nat) : Int) from rfl]
    by_cases h : p i = true
    · rw [if_pos h, if_pos h, if_pos (by omega), ih k (i + 1) _ (by omega) (by omega) (by simp; omega) (by omega)]; simp
    · rw [if_neg h, if_neg h, ih k (i + 1) _ (by omega) (by omega) (by omega) (by omega)]
theorem thoseW_eq {k : Nat} (q : Int → Option Bool) (p : Nat → Bool) (N : Nat) (hN : N ≤ 1000) (hk : 1001 < k) (hq : ∀ j : Nat, 1 ≤ j → j ≤ N → q j = some (p j)) : thoseW q k N 1 [] = some (filt p 1 N) :=
  thoseW_l0 q p N hN hq N k 1 [] (by omega) (by omega) (by simp) (by omega)
theorem multiple_gap {R x y : Nat} (h1 : x % R = 0) (h2 : y % R = 0) (h3 : x < y) (h4 : y < x + R) : False := by
  obtain ⟨a, rfl⟩ := Nat.dvd_of_mod_eq_zero h1
  obtain ⟨b, rfl⟩ := Nat.dvd_of_mod_eq_zero h2
  have a2 : R * b < R * (a + 1) := by rw [Nat.mul_add]; omega
  have b1 := Nat.lt_of_mul_lt_mul_left h3
  have b2 := Nat.lt_of_mul_lt_mul_left a2
  omega

-- block eqIntS
theorem eqIntS_l0 (l : List Int) (hl : l.length ≤ 1000000000) (d : Nat) : ∀ (k i : Nat), i + d = l.length → d < k → laws_eqIntS.l0 k l l i = some true := by
  induction d with
  | zero =>
    intro k i hd hk
    obtain ⟨k, rfl⟩ : ∃ m, k = m + 1 := ⟨k - 1, by omega⟩
    simp only [laws_eqIntS.l0]; rw [if_neg (by omega)]
  | succ d ih =>
    intro k i hd hk
    obtain ⟨k, rfl⟩ : ∃ m, k = m + 1 := ⟨k - 1, by omega⟩
    simp only [laws_eqIntS.l0]
    rw [if_pos (by omega), if_pos (by omega), if_pos (by omega), if_pos trivial, w64 (by omega)]
    exact ih k (i + 1) (by omega) (by omega)
theorem eqIntS_self {k : Nat} {l : List Int} (hl : l.length ≤ 1000000000) (hk : l.length < k) : laws_eqIntS.f k l l = some true := by
  unfold laws_eqIntS.f
  rw [if_pos rfl, show (0 : Int) = ((0 : Nat) : Int) from rfl, eqIntS_l0 l hl l.length k 0 (by omega) hk]

-- block marks
def ups (a : Int) (n : Nat) : List Int := (List.range n).map fun i : Nat => a + (i : Int)
theorem ups_length (a : Int) (n : Nat) : (ups a n).length = n := by simp [ups]
theorem ups_succ (a : Int) (n : Nat) : ups a (n + 1) = ups a n ++ [a + n] := by simp [ups, List.range_succ]
theorem rd_ups (a : Int) (n i : Nat) (h : i < n) : rd (ups a n) i = a + i := by
  unfold rd ups
  rw [List.getD_eq_getElem?_getD, Int.toNat_natCast, List.getElem?_map, List.getElem?_range h]; rfl
theorem markIntS_l0 (a : Int) (ha : 0 ≤ a) (d : Nat) : ∀ (k i : Nat) (post : List Int), post.length = d → a + i + d ≤ 4000000000000 → d < k →
    laws_markIntS.l0 k (ups a i ++ post) (a + i) i = some (a + i + d, ups a (i + d)) := by
  induction d with
  | zero =>
    intro k i post hp hb hk
    obtain ⟨k, rfl⟩ : ∃ m, k = m + 1 := ⟨k - 1, by omega⟩
    obtain rfl := List.eq_nil_of_length_eq_zero hp
    simp only [laws_markIntS.l0]
    rw [if_neg (by simp [ups_length])]
    simp
  | succ d ih =>
    intro k i post hp hb hk
    obtain ⟨k, rfl⟩ : ∃ m, k = m + 1 := ⟨k - 1, by omega⟩
    obtain ⟨x, post, rfl⟩ : ∃ x p, post = x :: p := by
      cases post with
      | nil => simp at hp
      | cons x p => exact ⟨x, p, rfl⟩
    simp only [laws_markIntS.l0]
    rw [if_pos (by simp [ups_length]; omega), if_pos (by omega), w64 (by omega), w64 (by omega)]
    have e : (ups a i ++ x :: post).set (i : Int).toNat (a + i) = ups a (i + 1) ++ post := by
      rw [Int.toNat_natCast, List.set_append_right _ _ (by simp [ups_length]), ups_length, Nat.sub_self, List.set_cons_zero, ups_succ, List.append_assoc]; rfl
    rw [e, show a + (i : Int) + 1 = a + ((i + 1 : Nat) : Int) from by omega, show (i : Int) + 1 = ((i + 1 : Nat) : Int) from rfl]
    rw [ih k (i + 1) post (by simpa using hp) (by omega) (by omega)]
    rw [show i + 1 + d = i + (d + 1) from by omega]
    congr 2; omega
theorem markIntS_eq {k : Nat} {l : List Int} {a : Int} (ha : 0 ≤ a) (hb : a + l.length ≤ 4000000000000) (hk : l.length < k) : laws_markIntS.f k l a = some (a + l.length, ups a l.length) := by
  unfold laws_markIntS.f
  have := markIntS_l0 a ha l.length k 0 l rfl (by omega) hk
  simpa [ups] using this
theorem heldIntS_l0 (a : Int) (ha : 0 ≤ a) (n : Nat) (hb : a + n ≤ 4000000000000) (d : Nat) : ∀ (k i : Nat), i + d = n → d < k → laws_heldIntS.l0 k (ups a n) (a + i) i = some (a + n) := by
  induction d with
  | zero =>
    intro k i hd hk
    obtain ⟨k, rfl⟩ : ∃ m, k = m + 1 := ⟨k - 1, by omega⟩
    simp only [laws_heldIntS.l0]
    rw [if_neg (by rw [ups_length]; omega)]
    congr 1; omega
  | succ d ih =>
    intro k i hd hk
    obtain ⟨k, rfl⟩ : ∃ m, k = m + 1 := ⟨k - 1, by omega⟩
    simp only [laws_heldIntS.l0]
    rw [if_pos (by rw [ups_length]; omega), if_pos (by omega), rd_ups _ _ _ (by omega), if_pos rfl, w64 (by omega), w64 (by omega)]
    rw [show a + (i : Int) + 1 = a + ((i + 1 : Nat) : Int) from by omega, show (i : Int) + 1 = ((i + 1 : Nat) : Int) from rfl]
    exact ih k (i + 1) (by omega) (by omega)
theorem heldIntS_eq {k n : Nat} {a : Int} (ha : 0 ≤ a) (hb : a + n ≤ 4000000000000) (hk : n < k) : laws_heldIntS.f k (ups a n) a = some (a + n) := by
  unfold laws_heldIntS.f
  have := heldIntS_l0 a ha n hb n k 0 (by omega) hk
  simpa using this

theorem tmod_sub_zero (x y m : Nat) : Int.tmod ((x : Int) - y) m = 0 ↔ x % m = y % m := by
  constructor
  · intro h
    have h1 := Int.emod_eq_zero_of_dvd (Int.dvd_of_tmod_eq_zero h)
    have h2 := (Int.emod_eq_emod_iff_emod_sub_eq_zero).2 h1
    exact_mod_cast h2
  · intro h
    refine Int.tmod_eq_zero_of_dvd (Int.dvd_of_emod_eq_zero ((Int.emod_eq_emod_iff_emod_sub_eq_zero).1 ?_))
    exact_mod_cast h
def angP (R T i j : Nat) : Bool := ((i - 1) % R) * T == ((j - 1) % T) * R
def twinP (R c N T d i : Nat) : Bool := if i * c % d = 0 ∧ i * c / d ≤ N then angP R T i (i * c / d) else false
theorem impl_twin_ql (a R c N T d i : Nat) (hR : 0 < R) (hR2 : R ≤ 60) (hc : c ≤ 300) (hN : N ≤ 400) (hT : 0 < T) (hT2 : T ≤ 60) (hd0 : 0 < d) (hd2 : d ≤ 300) (hi : 0 < i) (hi2 : i ≤ 400) (e : Nat) : ∀ (k j : Nat), j + e = N + 1 → e < k → 0 < j →
    impl_TwinMeets.ql k i a R c N T d j = some (if i * c % d = 0 ∧ j ≤ i * c / d ∧ i * c / d ≤ N then angP R T i (i * c / d) else false) := by
  have hic : i * c ≤ 400 * 300 := Nat.mul_le_mul hi2 hc
  induction e with
  | zero =>
    intro k j he hk hj
    obtain ⟨k, rfl⟩ : ∃ m, k = m + 1 := ⟨k - 1, by omega⟩
    simp only [impl_TwinMeets.ql]
    rw [if_neg (by omega), if_neg (by omega)]
  | succ e ih =>
    intro k j he hk hj
    obtain ⟨k, rfl⟩ : ∃ m, k = m + 1 := ⟨k - 1, by omega⟩
    simp only [impl_TwinMeets.ql]
    have hjd : j * d ≤ 400 * 300 := Nat.mul_le_mul (by omega) hd2
    have nx := ih k (j + 1) (by omega) (by omega) (by omega)
    have h1 := Nat.mod_lt (i - 1) hR
    have h2 := Nat.mod_lt (j - 1) hT
    have h3 : (i - 1) % R * T ≤ 60 * 60 := Nat.mul_le_mul (by omega) hT2
    have h4 : (j - 1) % T * R ≤ 60 * 60 := Nat.mul_le_mul (by omega) hR2
    rw [if_pos (by omega), ← Int.natCast_mul, ← Int.natCast_mul, w64 (x := ((i * c : Nat) : Int)) (by omega), w64 (x := ((j * d : Nat) : Int)) (by omega), w64 (x := (j : Int) + 1) (by omega), show (j : Int) + 1 = ((j + 1 : Nat) : Int) from rfl, nx]
    by_cases g : i * c = j * d
    · have q1 : i * c / d = j := by rw [g]; exact Nat.mul_div_cancel _ hd0
      have q2 : i * c % d = 0 := by rw [g]; exact Nat.mul_mod_left _ _
      rw [if_pos (by rw [g]), angle_eq a c R i hR hi (by omega), angle_eq N d T j hT hj (by omega), Option.bind_some, Option.bind_some, ← Int.natCast_mul, ← Int.natCast_mul, w64 (by omega), w64 (by omega), q1, if_pos (show i * c % d = 0 ∧ j ≤ j ∧ j ≤ N from ⟨q2, by omega, by omega⟩), if_neg (show ¬ (i * c % d = 0 ∧ j + 1 ≤ j ∧ j ≤ N) by omega)]
      unfold angP
      by_cases f : (i - 1) % R * T = (j - 1) % T * R
      · rw [if_pos (by rw [f]), f]; simp
      · rw [if_neg (by omega), beq_eq_false_iff_ne.mpr f]
    · rw [if_neg (by omega)]
      congr 1
      have hdm := Nat.div_add_mod (i * c) d
      by_cases m : i * c % d = 0 ∧ j + 1 ≤ i * c / d ∧ i * c / d ≤ N
      · rw [if_pos m, if_pos ⟨m.1, by omega, m.2.2⟩]
      · rw [if_neg m, if_neg (fun z => by
          have : i * c / d = j := by
            apply Decidable.byContradiction; intro y; exact m ⟨z.1, by omega, z.2.2⟩
          rw [this, z.1, Nat.mul_comm] at hdm
          omega)]
theorem spec_twin_l0 (a R c N T d : Nat) (ha : a ≤ 400) (hR : 0 < R) (hR2 : R ≤ 60) (hc0 : 0 < c) (hc : c ≤ 300) (hN : N ≤ 400) (hT : 0 < T) (hT2 : T ≤ 60) (hd0 : 0 < d) (hd2 : d ≤ 300) (e : Nat) : ∀ (k i : Nat) (acc : List Int), i + e = a + 1 → 2 * e < k → 0 < i → acc.length ≤ i →
    spec_TwinMeets.l0 k acc i a R c N T d = some (acc ++ filt (twinP R c N T d) i e, true) := by
  induction e with
  | zero =>
    intro k i acc he hk hi hl
    obtain ⟨k, rfl⟩ : ∃ m, k = m + 1 := ⟨k - 1, by omega⟩
    simp only [spec_TwinMeets.l0]
    rw [if_neg (by omega), filt_zero, List.append_nil]
  | succ e ih =>
    intro k i acc he hk hi hl
    obtain ⟨k, rfl⟩ : ∃ m, k = m + 1 + 1 := ⟨k - 2, by omega⟩
    simp only [spec_TwinMeets.l0]
    have hic : i * c ≤ 400 * 300 := Nat.mul_le_mul (by omega) hc
    have hq : i * c / d ≤ i * c := Nat.div_le_self _ _
    have nx := ih k (i + 1) acc (by omega) (by omega) (by omega) (by omega)
    have nx2 := ih k (i + 1) (acc ++ [(i : Int)]) (by omega) (by omega) (by omega) (by simp; omega)
    rw [if_pos (by omega), if_neg (by omega), ← Int.natCast_mul, w64 (x := ((i * c : Nat) : Int)) (by omega), tmod_nat, tdiv_nat, filt_succ]
    unfold twinP
    have key : ∀ b : Bool, (b = true ↔ ¬ (i * c % d = 0 ∧ i * c / d ≤ N)) → spec_TwinMeets.j2 (k + 1) acc i ((i * c : Nat) : Int) b a R c N T d = some (acc ++ if (if i * c % d = 0 ∧ i * c / d ≤ N then angP R T i (i * c / d) else false) = true then (i : Int) :: filt (twinP R c N T d) (i + 1) e else filt (twinP R c N T d) (i + 1) e, true) := by
      intro b hb
      simp only [spec_TwinMeets.j2]
      rw [w64 (x := (i : Int) + 1) (by omega), show (i : Int) + 1 = ((i + 1 : Nat) : Int) from rfl, nx, nx2]
      cases b with
      | true => rw [if_pos rfl, if_neg (hb.1 rfl)]; simp
      | false =>
        have hx : i * c % d = 0 ∧ i * c / d ≤ N := Decidable.byContradiction fun z => by have := hb.2 z; simp at this
        have hq0 : 0 < i * c / d := by
          have hdm := Nat.div_add_mod (i * c) d
          have : 0 < i * c := Nat.mul_pos hi hc0
          apply Nat.pos_of_ne_zero; intro z; rw [z, hx.1] at hdm; omega
        have b1 : R * T ≤ 60 * 60 := Nat.mul_le_mul hR2 hT2
        have b0 : 0 < R * T := Nat.mul_pos hR hT
        have b2 : (i - 1) * T ≤ 400 * 60 := Nat.mul_le_mul (by omega) hT2
        have b3 : (i * c / d - 1) * R ≤ 400 * 60 := Nat.mul_le_mul (by omega) hR2
        rw [if_neg (by simp), if_neg (by omega), if_pos hx, tdiv_nat, ← Int.natCast_mul R T, w64 (x := ((R * T : Nat) : Int)) (by omega), if_neg (by omega)]
        unfold angP
        have e1 : ((i - 1) * T) % (R * T) = ((i - 1) % R) * T := Nat.mul_mod_mul_right _ _ _
        have e2 : ((i * c / d - 1) * R) % (R * T) = ((i * c / d - 1) % T) * R := by rw [Nat.mul_comm R T]; exact Nat.mul_mod_mul_right _ _ _
        rw [← e1, ← e2]
        generalize hqq : i * c / d = q at *
        rw [w64 (x := (q : Int)) (by omega), w64 (x := (q : Int) - 1) (by omega), w64 (x := (i : Int) - 1) (by omega), show (q : Int) - 1 = ((q - 1 : Nat) : Int) from by omega, show (i : Int) - 1 = ((i - 1 : Nat) : Int) from by omega, ← Int.natCast_mul, ← Int.natCast_mul, w64 (x := (((i - 1) * T : Nat) : Int)) (by omega), w64 (x := (((q - 1) * R : Nat) : Int)) (by omega), w64 (by omega)]
        by_cases f : ((i - 1) * T) % (R * T) = ((q - 1) * R) % (R * T)
        · rw [if_pos ((tmod_sub_zero _ _ _).2 f), if_pos (by omega), f]; simp
        · rw [if_neg (fun z => f ((tmod_sub_zero _ _ _).1 z)), beq_eq_false_iff_ne.mpr f]; simp
    by_cases m : i * c % d = 0
    · rw [if_pos (by omega)]
      refine key _ ?_
      clear key nx nx2 ih
      generalize i * c / d = q at *
      rw [w64 (by omega), decide_eq_true_eq]
      constructor
      · intro z y; omega
      · intro z; apply Decidable.byContradiction; intro y; exact z ⟨m, by omega⟩
    · rw [if_neg (by omega)]
      exact key _ ⟨fun _ z => m z.1, fun _ => rfl⟩
theorem TwinMeets_eq {k : Nat} (hk : 2000 < k) (a b c N T d : Int) : ∃ r, spec_TwinMeets.f k a b c N T d = some r ∧ impl_TwinMeets.f k a b c N T d = some r ∧ r.1.length ≤ 400 := by
  obtain ⟨k, rfl⟩ : ∃ m, k = m + 1 := ⟨k - 1, by omega⟩
  unfold spec_TwinMeets.f impl_TwinMeets.f
  rw [spGood_eq, spGood_eq, IsSpiral_eq, IsSpiral_eq]
  simp only [Option.bind_some, spec_TwinMeets.j0]
  by_cases h : goodB a b c = true
  · by_cases h1 : goodB N T d = true
    · have g := h
      have g1 := h1
      unfold goodB at g g1
      rw [decide_eq_true_eq] at g g1
      obtain ⟨a, rfl⟩ := Int.eq_ofNat_of_zero_le (show 0 ≤ a by omega)
      obtain ⟨b, rfl⟩ := Int.eq_ofNat_of_zero_le (show 0 ≤ b by omega)
      obtain ⟨c, rfl⟩ := Int.eq_ofNat_of_zero_le (show 0 ≤ c by omega)
      obtain ⟨N, rfl⟩ := Int.eq_ofNat_of_zero_le (show 0 ≤ N by omega)
      obtain ⟨T, rfl⟩ := Int.eq_ofNat_of_zero_le (show 0 ≤ T by omega)
      obtain ⟨d, rfl⟩ := Int.eq_ofNat_of_zero_le (show 0 ≤ d by omega)
      rw [h, h1]
      simp only [if_true, Bool.not_true, Bool.false_eq_true, if_false]
      have e := spec_twin_l0 a b c N T d (by omega) (by omega) (by omega) (by omega) (by omega) (by omega) (by omega) (by omega) (by omega) (by omega) a k 1 [] (by omega) (by omega) (by omega) (by simp)
      rw [show ((1 : Nat) : Int) = 1 from rfl] at e
      rw [e, thoseW_eq _ (twinP b c N T d) a (by omega) (by omega) (fun j j1 j2 => by
        unfold impl_TwinMeets.q twinP
        have e := impl_twin_ql a b c N T d j (by omega) (by omega) (by omega) (by omega) (by omega) (by omega) (by omega) (by omega) (by omega) (by omega) N (k + 1) 1 (by omega) (by omega) (by omega)
        rw [show ((1 : Nat) : Int) = 1 from rfl] at e
        rw [e]
        congr 1
        have hd0 : 0 < d := by omega
        have hdm := Nat.div_add_mod (j * c) d
        have : 0 < j * c := Nat.mul_pos (by omega) (by omega)
        by_cases m : j * c % d = 0 ∧ j * c / d ≤ N
        · rw [if_pos m, if_pos ⟨m.1, by
            apply Nat.pos_of_ne_zero; intro z; rw [z, m.1] at hdm; omega, m.2⟩]
        · rw [if_neg m, if_neg (fun z => m ⟨z.1, z.2.2⟩)])]
      rw [Option.bind_some]
      have := filt_length (twinP b c N T d) 1 a
      exact ⟨_, rfl, by simp, by simp; omega⟩
    · have h' : goodB N T d = false := by simpa using h1
      rw [h, h']
      exact ⟨_, rfl, rfl, by simp⟩
  · have h' : goodB a b c = false := by simpa using h
    rw [h']
    exact ⟨_, rfl, rfl, by simp⟩
theorem FnExactTwinMeets : laws_FnExactTwinMeets.Pure := by
  intro a b c N T d _ _ _ _ _ _ 
  obtain ⟨k, hk⟩ : ∃ k, 900000 < k := ⟨900001, by omega⟩
  refine ⟨k + 2, ?_⟩
  obtain ⟨r, h1, h2, hl⟩ := TwinMeets_eq (k := k + 2) (by omega) a b c N T d
  obtain ⟨r', h1', h2', -⟩ := TwinMeets_eq (k := k + 1) (by omega) a b c N T d
  have e : r' = r := by
    have m := impl_TwinMeets.mono a b c N T d (k + 1) _ h2'
    rw [h2] at m; exact (Option.some.inj m).symm
  subst e
  unfold laws_FnExactTwinMeets.f
  repeat unfold laws_toSpiral.f
  repeat rw [Option.bind_some]
  rw [h1, Option.bind_some]
  repeat rw [Option.bind_some]
  rw [h2, Option.bind_some, eqIntS_self (by omega) (by omega), Option.bind_some, if_pos rfl, laws_FnExactTwinMeets.j0, if_neg (by simp), markIntS_eq (by omega) (by omega) (by omega), Option.bind_some, heldIntS_eq (by omega) (by omega) (by omega), Option.bind_some, if_neg (by omega), if_pos rfl]
  repeat unfold laws_toSpiral.f
  repeat rw [Option.bind_some]
  rw [h2', Option.bind_some, eqIntS_self (by omega) (by omega), Option.bind_some, if_pos rfl, laws_FnExactTwinMeets.j1, if_neg (by simp), heldIntS_eq (by omega) (by omega) (by omega), Option.bind_some, if_neg (by omega), if_pos rfl]

end Go.Proofs.Ytojcdkiopdcdoaa.Pure
