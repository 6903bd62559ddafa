/- The program's DarkSteps returns what the reference's returns, for all arguments. No condition. -/
import Derived.Test.YtflagakoikgkhaaPFnExactDarkStepsx3
namespace Go.Proofs.Ytflagakoikgkhaa.Pure
open Go.RowKit Go.Proofs.Ytflagakoikgkhaa.PFnExactDarkSteps Go.Proofs.YtflagakoikgkhaaW.PrintWords Go.Proofs.YtflagakoikgkhaaW.PrintLast Go.Proofs.YtflagakoikgkhaaW.PrintMore
set_option linter.unusedVariables false
set_option linter.unusedSimpArgs false

-- block within
theorem within_eq (a b c : Int) : impl_within.f a b c = some (decide (b ≤ a ∧ a ≤ c)) := by
  unfold impl_within.f
  by_cases h : b ≤ a
  · rw [if_pos h]; simp [h]
  · rw [if_neg h]; simp [h]

-- block l1In
theorem l1In_eq (a b c : Int) : spec_l1In.f a b c = some (decide (b ≤ a ∧ a ≤ c)) := by
  unfold spec_l1In.f
  by_cases h : a ≥ b
  · rw [if_pos h]; simp [show b ≤ a from h]
  · rw [if_neg h]; simp [show ¬ b ≤ a from h]

-- block w64
theorem w64 {x : Int} (h : -9223372036854775808 ≤ x ∧ x ≤ 9223372036854775807) : wrap64 x = x := by
  unfold wrap64; omega

-- block tdiv
theorem tdiv_nat (a b : Nat) : Int.tdiv (a : Int) (b : Int) = ((a / b : Nat) : Int) := rfl
theorem tmod_nat (a b : Nat) : Int.tmod (a : Int) (b : Int) = ((a % b : Nat) : Int) := rfl
theorem tdiv_pos {a b : Int} (ha : 0 ≤ a) : Int.tdiv a b = a / b := Int.tdiv_eq_ediv_of_nonneg ha
theorem tmod_pos {a b : Int} (ha : 0 ≤ a) : Int.tmod a b = a % b := Int.tmod_eq_emod_of_nonneg ha

-- block spiral
def goodB (a b c : Int) : Bool := decide ((1 ≤ a ∧ a ≤ 400) ∧ (3 ≤ b ∧ b ≤ 60) ∧ (1 ≤ c ∧ c ≤ 300))
theorem spGood_eq (a b c : Int) : spec_spGood.f a b c = some (goodB a b c) := by
  unfold spec_spGood.f goodB
  rw [l1In_eq, l1In_eq, l1In_eq]
  simp only [Option.bind_some]
  by_cases h : 1 ≤ a ∧ a ≤ 400
  · by_cases g : 3 ≤ b ∧ b ≤ 60
    · rw [if_pos (decide_eq_true h), if_pos (decide_eq_true g)]; congr 1; rw [decide_eq_decide]; omega
    · rw [if_pos (decide_eq_true h), if_neg (by simpa using g)]; congr 1; rw [eq_comm, decide_eq_false_iff_not]; omega
  · rw [if_neg (by simpa using h)]; congr 1; rw [eq_comm, decide_eq_false_iff_not]; omega

-- block IsSpiral
theorem IsSpiral_eq (a b c : Int) : impl_IsSpiral.f a b c = some (goodB a b c) := by
  unfold impl_IsSpiral.f goodB
  rw [within_eq, within_eq, within_eq]
  simp only [Option.bind_some]
  by_cases h : 1 ≤ a ∧ a ≤ 400
  · by_cases g : 3 ≤ b ∧ b ≤ 60
    · rw [if_pos (decide_eq_true h), if_pos (decide_eq_true g)]; congr 1; rw [decide_eq_decide]; omega
    · rw [if_pos (decide_eq_true h), if_neg (by simpa using g)]; congr 1; rw [eq_comm, decide_eq_false_iff_not]; omega
  · rw [if_neg (by simpa using h)]; congr 1; rw [eq_comm, decide_eq_false_iff_not]; omega

-- block every
theorem isEvery_eq (n : Int) : impl_isEvery.f n = some (decide (1 ≤ n ∧ n ≤ 400)) := by
  unfold impl_isEvery.f; rw [within_eq, Option.bind_some]
theorem spEvery_eq (a b c n : Int) : spec_spEvery.f a b c n = some (goodB a b c && decide (1 ≤ n ∧ n ≤ 400)) := by
  unfold spec_spEvery.f; rw [spGood_eq, Option.bind_some]
  cases goodB a b c
  · simp
  · rw [if_pos rfl, l1In_eq]; simp

-- block filt
/-- The numbers from i on, d of them, of which p holds. -/
def filt (p : Nat → Bool) (i d : Nat) : List Int := ((List.range' i d).filter p).map fun j : Nat => (j : Int)
theorem filt_succ (p : Nat → Bool) (i d : Nat) : filt p i (d + 1) = if p i = true then (i : Int) :: filt p (i + 1) d else filt p (i + 1) d := by
  unfold filt
  rw [List.range'_succ, List.filter_cons]
  by_cases h : p i = true
  · rw [if_pos h, if_pos h]; rfl
  · rw [if_neg h, if_neg h]
theorem filt_zero (p : Nat → Bool) (i : Nat) : filt p i 0 = [] := by simp [filt]
theorem filt_skip (p : Nat → Bool) (m : Nat) : ∀ (i d : Nat), (∀ j, i ≤ j → j < i + m → p j ≠ true) → filt p i d = filt p (i + m) (d - m) := by
  induction m with
  | zero => intro i d _; rfl
  | succ m ih =>
    intro i d h
    cases d with
    | zero => simp [filt]
    | succ d =>
      rw [filt_succ, if_neg (h i (Nat.le_refl _) (by omega)), ih (i + 1) d (fun j h1 h2 => h j (by omega) (by omega))]
      congr 1 <;> omega
theorem filt_length (p : Nat → Bool) (i d : Nat) : (filt p i d).length ≤ d := by
  unfold filt; rw [List.length_map]; exact Nat.le_trans (List.length_filter_le _ _) (by simp)
theorem thoseW_l0 (q : Int → Option Bool) (p : Nat → Bool) (N : Nat) (hN : N ≤ 1000) (hq : ∀ j : Nat, 1 ≤ j → j ≤ N → q j = some (p j)) (d : Nat) : ∀ (k i : Nat) (acc : List Int), i + d = N + 1 → d < k → acc.length ≤ i → 1 ≤ i → thoseW q k N i acc = some (acc ++ filt p i d) := by
  induction d with
  | zero =>
    intro k i acc hd hk ha hi
    obtain ⟨k, rfl⟩ : ∃ m, k = m + 1 := ⟨k - 1, by omega⟩
    simp only [thoseW]
    rw [if_neg (by omega), filt_zero, List.append_nil]
  | succ d ih =>
    intro k i acc hd hk ha hi
    obtain ⟨k, rfl⟩ : ∃ m, k = m + 1 := ⟨k - 1, by omega⟩
    simp only [thoseW]
    rw [if_pos (by omega), hq i hi (by omega), Option.bind_some, filt_succ, w64 (by omega), show (i : Int) + 1 = ((i + 1 : Nat) : Int) from rfl]
    by_cases h : p i = true
    · rw [if_pos h, if_pos h, if_pos (by omega), ih k (i + 1) _ (by omega) (by omega) (by simp; omega) (by omega)]; simp
    · rw [if_neg h, if_neg h, ih k (i + 1) _ (by omega) (by omega) (by omega) (by omega)]
theorem thoseW_eq {k : Nat} (q : Int → Option Bool) (p : Nat → Bool) (N : Nat) (hN : N ≤ 1000) (hk : 1001 < k) (hq : ∀ j : Nat, 1 ≤ j → j ≤ N → q j = some (p j)) : thoseW q k N 1 [] = some (filt p 1 N) :=
  thoseW_l0 q p N hN hq N k 1 [] (by omega) (by omega) (by simp) (by omega)
theorem multiple_gap {R x y : Nat} (h1 : x % R = 0) (h2 : y % R = 0) (h3 : x < y) (h4 : y < x + R) : False := by
  obtain ⟨a, rfl⟩ := Nat.dvd_of_mod_eq_zero h1
  obtain ⟨b, rfl⟩ := Nat.dvd_of_mod_eq_zero h2
  have a2 : R * b < R * (a + 1) := by rw [Nat.mul_add]; omega
  have b1 := Nat.lt_of_mul_lt_mul_left h3
  have b2 := Nat.lt_of_mul_lt_mul_left a2
  omega

-- block eqIntS
theorem eqIntS_l0 (l : List Int) (hl : l.length ≤ 1000000000) (d : Nat) : ∀ (k i : Nat), i + d = l.length → d < k → laws_eqIntS.l0 k l l i = some true := by
  induction d with
  | zero =>
    intro k i hd hk
    obtain ⟨k, rfl⟩ : ∃ m, k = m + 1 := ⟨k - 1, by omega⟩
    simp only [laws_eqIntS.l0]; rw [if_neg (by omega)]
  | succ d ih =>
    intro k i hd hk
    obtain ⟨k, rfl⟩ : ∃ m, k = m + 1 := ⟨k - 1, by omega⟩
    simp only [laws_eqIntS.l0]
    rw [if_pos (by omega), if_pos (by omega), if_pos (by omega), if_pos trivial, w64 (by omega)]
    exact ih k (i + 1) (by omega) (by omega)
theorem eqIntS_self {k : Nat} {l : List Int} (hl : l.length ≤ 1000000000) (hk : l.length < k) : laws_eqIntS.f k l l = some true := by
  unfold laws_eqIntS.f
  rw [if_pos rfl, show (0 : Int) = ((0 : Nat) : Int) from rfl, eqIntS_l0 l hl l.length k 0 (by omega) hk]

-- block marks
def ups (a : Int) (n : Nat) : List Int := (List.range n).map fun i : Nat => a + (i : Int)
theorem ups_length (a : Int) (n : Nat) : (ups a n).length = n := by simp [ups]
theorem ups_succ (a : Int) (n : Nat) : ups a (n + 1) = ups a n ++ [a + n] := by simp [ups, List.range_succ]
theorem rd_ups (a : Int) (n i : Nat) (h : i < n) : rd (ups a n) i = a + i := by
  unfold rd ups
  rw [List.getD_eq_getElem?_getD, Int.toNat_natCast, List.getElem?_map, List.getElem?_range h]; rfl
theorem markIntS_l0 (a : Int) (ha : 0 ≤ a) (d : Nat) : ∀ (k i : Nat) (post : List Int), post.length = d → a + i + d ≤ 4000000000000 → d < k →
    laws_markIntS.l0 k (ups a i ++ post) (a + i) i = some (a + i + d, ups a (i + d)) := by
  induction d with
  | zero =>
    intro k i post hp hb hk
    obtain ⟨k, rfl⟩ : ∃ m, k = m + 1 := ⟨k - 1, by omega⟩
    obtain rfl := List.eq_nil_of_length_eq_zero hp
    simp only [laws_markIntS.l0]
    rw [if_neg (by simp [ups_length])]
    simp
  | succ d ih =>
    intro k i post hp hb hk
    obtain ⟨k, rfl⟩ : ∃ m, k = m + 1 := ⟨k - 1, by omega⟩
    obtain ⟨x, post, rfl⟩ : ∃ x p, post = x :: p := by
      cases post with
      | nil => simp at hp
      | cons x p => exact ⟨x, p, rfl⟩
    simp only [laws_markIntS.l0]
    rw [if_pos (by simp [ups_length]; omega), if_pos (by omega), w64 (by omega), w64 (by omega)]
    have e : (ups a i ++ x :: post).set (i : Int).toNat (a + i) = ups a (i + 1) ++ post := by
      rw [Int.toNat_natCast, List.set_append_right _ _ (by simp [ups_length]), ups_length, Nat.sub_self, List.set_cons_zero, ups_succ, List.append_assoc]; rfl
    rw [e, show a + (i : Int) + 1 = a + ((i + 1 : Nat) : Int) from by omega, show (i : Int) + 1 = ((i + 1 : Nat) : Int) from rfl]
    rw [ih k (i + 1) post (by simpa using hp) (by omega) (by omega)]
    rw [show i + 1 + d = i + (d + 1) from by omega]
    congr 2; omega
theorem markIntS_eq {k : Nat} {l : List Int} {a : Int} (ha : 0 ≤ a) (hb : a + l.length ≤ 4000000000000) (hk : l.length < k) : laws_markIntS.f k l a = some (a + l.length, ups a l.length) := by
  unfold laws_markIntS.f
  have := markIntS_l0 a ha l.length k 0 l rfl (by omega) hk
  simpa [ups] using this
theorem heldIntS_l0 (a : Int) (ha : 0 ≤ a) (n : Nat) (hb : a + n ≤ 4000000000000) (d : Nat) : ∀ (k i : Nat), i + d = n → d < k → laws_heldIntS.l0 k (ups a n) (a + i) i = some (a + n) := by
  induction d with
  | zero =>
    intro k i hd hk
    obtain ⟨k, rfl⟩ : ∃ m, k = m + 1 := ⟨k - 1, by omega⟩
    simp only [laws_heldIntS.l0]
    rw [if_neg (by rw [ups_length]; omega)]
    congr 1; omega
  | succ d ih =>
    intro k i hd hk
    obtain ⟨k, rfl⟩ : ∃ m, k = m + 1 := ⟨k - 1, by omega⟩
    simp only [laws_heldIntS.l0]
    rw [if_pos (by rw [ups_length]; omega), if_pos (by omega), rd_ups _ _ _ (by omega), if_pos rfl, w64 (by omega), w64 (by omega)]
    rw [show a + (i : Int) + 1 = a + ((i + 1 : Nat) : Int) from by omega, show (i : Int) + 1 = ((i + 1 : Nat) : Int) from rfl]
    exact ih k (i + 1) (by omega) (by omega)
theorem heldIntS_eq {k n : Nat} {a : Int} (ha : 0 ≤ a) (hb : a + n ≤ 4000000000000) (hk : n < k) : laws_heldIntS.f k (ups a n) a = some (a + n) := by
  unfold laws_heldIntS.f
  have := heldIntS_l0 a ha n hb n k 0 (by omega) hk
  simpa using this

def absd (i j : Nat) : Nat := if j ≤ i then i - j else j - i
theorem absd_le {i j n : Nat} (hi : i ≤ n) (hj : j ≤ n) : absd i j ≤ n := by unfold absd; split <;> omega
theorem mx_absd (i j : Nat) : mx ((i : Int) - j) ((j : Int) - i) = (absd i j : Int) := by
  unfold mx absd
  by_cases h : j ≤ i
  · rw [if_pos h]; split <;> omega
  · rw [if_neg h]; split <;> omega
theorem l1Abs_absd (i j : Nat) (hi : i ≤ 1000) (hj : j ≤ 1000) : spec_l1Abs.f ((i : Int) - j) = some (absd i j : Int) := by
  unfold spec_l1Abs.f spec_l1Most.f absd
  rw [w64 (x := -((i : Int) - j)) (by omega)]
  by_cases h : j ≤ i
  · rw [if_pos h]
    by_cases g : i = j
    · subst g; rw [if_neg (by omega), Option.bind_some]; congr 1; omega
    · rw [if_pos (by omega), Option.bind_some]; congr 1; omega
  · rw [if_neg h, if_neg (by omega), Option.bind_some]; congr 1; omega
/-- No lamp of those from at on (one every x steps, up to a) shines on step j. -/
def darkL (a x z j : Nat) : Nat → Nat → Bool
  | 0, _ => true
  | d + 1, at_ => if at_ ≤ a then (if absd at_ j ≤ z then false else darkL a x z j d (at_ + x)) else true
theorem impl_dark_ql (a x z j : Nat) (ha : a ≤ 400) (hx : 0 < x) (hx2 : x ≤ 400) (hj : j ≤ 400) (d : Nat) : ∀ (k at_ : Nat), a < at_ + d → d < k → at_ ≤ 900 → impl_DarkSteps.ql k j a x z at_ = some (darkL a x z j d at_) := by
  induction d with
  | zero =>
    intro k at_ hd hk h9
    obtain ⟨k, rfl⟩ : ∃ m, k = m + 1 := ⟨k - 1, by omega⟩
    simp only [impl_DarkSteps.ql, darkL]
    rw [if_neg (by omega)]
  | succ d ih =>
    intro k at_ hd hk h9
    obtain ⟨k, rfl⟩ : ∃ m, k = m + 1 := ⟨k - 1, by omega⟩
    simp only [impl_DarkSteps.ql, darkL]
    by_cases h : at_ ≤ a
    · rw [if_pos (by omega), if_pos h, w64 (x := (at_ : Int) - j) (by omega), w64 (x := (j : Int) - at_) (by omega), mx_absd, w64 (by omega), show (at_ : Int) + (x : Int) = ((at_ + x : Nat) : Int) from by omega]
      by_cases g : absd at_ j ≤ z
      · rw [if_pos (by omega), if_pos g]
      · rw [if_neg (by omega), if_neg g, ih k (at_ + x) (by omega) (by omega) (by omega)]
    · rw [if_neg (by omega), if_neg h]
def specNext (k : Nat) (x z : Int) (acc : List Int) (j : Int) (a b c : Int) (dark : Bool) : Option (List Int × Bool) :=
  if dark = true then (if acc.length < 17592186044416 then spec_DarkSteps.l0 k x z (acc ++ [j]) (wrap64 (j + 1)) a b c else none) else spec_DarkSteps.l0 k x z acc (wrap64 (j + 1)) a b c
theorem spec_dark_l1 (a x z j : Nat) (b c : Int) (acc : List Int) (ha : a ≤ 400) (hx : 0 < x) (hx2 : x ≤ 400) (hj : j ≤ 400) (d : Nat) : ∀ (k at_ : Nat) (f : Bool), a < at_ + d → d < k → at_ ≤ 900 →
    ∃ m, k ≤ m + d + 1 ∧ spec_DarkSteps.l1 k x z acc j f at_ a b c = specNext m x z acc j a b c (f && darkL a x z j d at_) := by
  induction d with
  | zero =>
    intro k at_ f hd hk h9
    obtain ⟨k, rfl⟩ : ∃ m, k = m + 1 := ⟨k - 1, by omega⟩
    refine ⟨k, by omega, ?_⟩
    simp only [spec_DarkSteps.l1, darkL]
    rw [if_neg (by omega), Bool.and_true]; rfl
  | succ d ih =>
    intro k at_ f hd hk h9
    obtain ⟨k, rfl⟩ : ∃ m, k = m + 1 := ⟨k - 1, by omega⟩
    simp only [spec_DarkSteps.l1, darkL]
    by_cases h : at_ ≤ a
    · rw [if_pos (by omega), if_pos h, w64 (x := (at_ : Int) - j) (by omega), l1Abs_absd at_ j (by omega) (by omega), w64 (x := (at_ : Int) + x) (by omega), show (at_ : Int) + (x : Int) = ((at_ + x : Nat) : Int) from by omega, Option.bind_some]
      obtain ⟨m1, g1, e1⟩ := ih k (at_ + x) (decide ((absd at_ j : Int) > (z : Int))) (by omega) (by omega) (by omega)
      obtain ⟨m2, g2, e2⟩ := ih k (at_ + x) false (by omega) (by omega) (by omega)
      cases f with
      | true =>
        refine ⟨m1, by omega, ?_⟩
        rw [if_pos rfl, e1]
        by_cases g : absd at_ j ≤ z
        · rw [if_pos g, decide_eq_false (by omega)]; rfl
        · rw [if_neg g, decide_eq_true (by omega)]
      | false =>
        refine ⟨m2, by omega, ?_⟩
        rw [if_neg (by simp), e2]; rfl
    · refine ⟨k, by omega, ?_⟩
      rw [if_neg (by omega), if_neg h, Bool.and_true]; rfl
def darkP (a x z j : Nat) : Bool := darkL a x z j (a + 1) x
set_option maxRecDepth 20000 in
theorem spec_dark_l0 (a x z : Nat) (b c : Int) (ha : a ≤ 400) (hx : 0 < x) (hx2 : x ≤ 400) (d : Nat) : ∀ (k i : Nat) (acc : List Int), i + d = a + 1 → d * 500 + 500 < k → acc.length ≤ i →
    spec_DarkSteps.l0 k x z acc i a b c = some (acc ++ filt (darkP a x z) i d, true) := by
  induction d with
  | zero =>
    intro k i acc hd hk hl
    obtain ⟨k, rfl⟩ : ∃ m, k = m + 1 := ⟨k - 1, by omega⟩
    simp only [spec_DarkSteps.l0]
    rw [if_neg (by omega), filt_zero, List.append_nil]
  | succ d ih =>
    intro k i acc hd hk hl
    obtain ⟨k, rfl⟩ : ∃ m, k = m + 1 := ⟨k - 1, by omega⟩
    simp only [spec_DarkSteps.l0]
    obtain ⟨m, g, e⟩ := spec_dark_l1 a x z i b c acc ha hx hx2 (by omega) (a + 1) k x true (by omega) (by omega) (by omega)
    have h5 : d * 500 + 500 < m := by omega
    rw [if_pos (by omega), e, Bool.true_and, filt_succ]
    unfold specNext
    rw [w64 (by omega), show (i : Int) + 1 = ((i + 1 : Nat) : Int) from rfl]
    show (if darkP a x z i = true then _ else _) = _
    by_cases h : darkP a x z i = true
    · rw [if_pos h, if_pos h, if_pos (by omega), ih m (i + 1) _ (by omega) h5 (by simp; omega)]; simp
    · rw [if_neg h, if_neg h, ih m (i + 1) _ (by omega) h5 (by omega)]
theorem DarkSteps_eq {k : Nat} (hk : 800000 < k) (a b c x z : Int) : ∃ r, spec_DarkSteps.f k a b c x z = some r ∧ impl_DarkSteps.f k a b c x z = some r ∧ r.1.length ≤ 400 := by
  obtain ⟨k, rfl⟩ : ∃ m, k = m + 1 := ⟨k - 1, by omega⟩
  unfold spec_DarkSteps.f impl_DarkSteps.f
  rw [spEvery_eq, l1In_eq, IsSpiral_eq, isEvery_eq, within_eq]
  simp only [Option.bind_some, spec_DarkSteps.j0]
  by_cases h : goodB a b c = true
  · by_cases h1 : 1 ≤ x ∧ x ≤ 400
    · by_cases h2 : 0 ≤ z ∧ z ≤ 400
      · have g := h
        unfold goodB at g
        rw [decide_eq_true_eq] at g
        obtain ⟨a, rfl⟩ := Int.eq_ofNat_of_zero_le (show 0 ≤ a by omega)
        obtain ⟨x, rfl⟩ := Int.eq_ofNat_of_zero_le (show 0 ≤ x by omega)
        obtain ⟨z, rfl⟩ := Int.eq_ofNat_of_zero_le (show 0 ≤ z by omega)
        rw [h, decide_eq_true h1, decide_eq_true h2]
        simp only [Bool.and_true, if_true, Bool.not_true, Bool.false_eq_true, if_false]
        have e := spec_dark_l0 a x z b c (by omega) (by omega) (by omega) a k 1 [] (by omega) (by omega) (by simp)
        rw [show ((1 : Nat) : Int) = 1 from rfl] at e
        rw [e, thoseW_eq _ (darkP a x z) a (by omega) (by omega) (fun j _ _ => by
          unfold impl_DarkSteps.q darkP
          exact impl_dark_ql a x z j (by omega) (by omega) (by omega) (by omega) (a + 1) (k + 1) x (by omega) (by omega) (by omega))]
        rw [Option.bind_some]
        have := filt_length (darkP a x z) 1 a
        exact ⟨_, rfl, by simp, by simp; omega⟩
      · rw [h, decide_eq_true h1, decide_eq_false h2]
        exact ⟨_, rfl, rfl, by simp⟩
    · rw [h, decide_eq_false h1]
      exact ⟨_, rfl, rfl, by simp⟩
  · have h' : goodB a b c = false := by simpa using h
    rw [h']
    exact ⟨_, rfl, rfl, by simp⟩
theorem FnExactDarkSteps : laws_FnExactDarkSteps.Pure := by
  intro a b c x z _ _ _ _ _ 
  obtain ⟨k, hk⟩ : ∃ k, 900000 < k := ⟨900001, by omega⟩
  refine ⟨k + 2, ?_⟩
  obtain ⟨r, h1, h2, hl⟩ := DarkSteps_eq (k := k + 2) (by omega) a b c x z
  obtain ⟨r', h1', h2', -⟩ := DarkSteps_eq (k := k + 1) (by omega) a b c x z
  have e : r' = r := by
    have m := impl_DarkSteps.mono a b c x z (k + 1) _ h2'
    rw [h2] at m; exact (Option.some.inj m).symm
  subst e
  unfold laws_FnExactDarkSteps.f
  repeat unfold laws_toSpiral.f
  repeat rw [Option.bind_some]
  rw [h1, Option.bind_some]
  repeat rw [Option.bind_some]
  rw [h2, Option.bind_some, eqIntS_self (by omega) (by omega), Option.bind_some, if_pos rfl, laws_FnExactDarkSteps.j0, if_neg (by simp), markIntS_eq (by omega) (by omega) (by omega), Option.bind_some, heldIntS_eq (by omega) (by omega) (by omega), Option.bind_some, if_neg (by omega), if_pos rfl]
  repeat unfold laws_toSpiral.f
  repeat rw [Option.bind_some]
  rw [h2', Option.bind_some, eqIntS_self (by omega) (by omega), Option.bind_some, if_pos rfl, laws_FnExactDarkSteps.j1, if_neg (by simp), heldIntS_eq (by omega) (by omega) (by omega), Option.bind_some, if_neg (by omega), if_pos rfl]

end Go.Proofs.Ytflagakoikgkhaa.Pure
