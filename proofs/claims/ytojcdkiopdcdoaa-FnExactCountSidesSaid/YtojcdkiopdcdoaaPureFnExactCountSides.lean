/- The program's CountSides returns what the reference's returns, for all arguments. No condition. -/
import Derived.Test.YtojcdkiopdcdoaaPFnExactCountSidesx2
namespace Go.Proofs.Ytojcdkiopdcdoaa.Pure
open Go.RowKit Go.Proofs.Ytojcdkiopdcdoaa.PFnExactCountSides Go.Proofs.YtojcdkiopdcdoaaW.PrintWords Go.Proofs.YtojcdkiopdcdoaaW.PrintLast Go.Proofs.YtojcdkiopdcdoaaW.PrintMore
set_option linter.unusedVariables false
set_option linter.unusedSimpArgs false

-- block within
theorem within_eq (a b c : Int) : impl_within.f a b c = some (decide (b ≤ a ∧ a ≤ c)) := by
  unfold impl_within.f
  by_cases h : b ≤ a
  · rw [if_pos h]; simp [h]
  · rw [if_neg h]; simp [h]

-- block l1In
theorem l1In_eq (a b c : Int) : spec_l1In.f a b c = some (decide (b ≤ a ∧ a ≤ c)) := by
  unfold spec_l1In.f
  by_cases h : a ≥ b
  · rw [if_pos h]; simp [show b ≤ a from h]
  · rw [if_neg h]; simp [show ¬ b ≤ a from h]

-- block w64
theorem w64 {x : Int} (h : -9223372036854775808 ≤ x ∧ x ≤ 9223372036854775807) : wrap64 x = x := by
  unfold wrap64; omega

-- block tdiv
theorem tdiv_nat (a b : Nat) : Int.tdiv (a : Int) (b : Int) = ((a / b : Nat) : Int) := rfl
theorem tmod_nat (a b : Nat) : Int.tmod (a : Int) (b : Int) = ((a % b : Nat) : Int) := rfl
theorem tdiv_pos {a b : Int} (ha : 0 ≤ a) : Int.tdiv a b = a / b := Int.tdiv_eq_ediv_of_nonneg ha
theorem tmod_pos {a b : Int} (ha : 0 ≤ a) : Int.tmod a b = a % b := Int.tmod_eq_emod_of_nonneg ha

-- block spiral
def goodB (a b c : Int) : Bool := decide ((1 ≤ a ∧ a ≤ 400) ∧ (3 ≤ b ∧ b ≤ 60) ∧ (1 ≤ c ∧ c ≤ 300))
theorem spGood_eq (a b c : Int) : spec_spGood.f a b c = some (goodB a b c) := by
  unfold spec_spGood.f goodB
  rw [l1In_eq, l1In_eq, l1In_eq]
  simp only [Option.bind_some]
  by_cases h : 1 ≤ a ∧ a ≤ 400
  · by_cases g : 3 ≤ b ∧ b ≤ 60
    · rw [if_pos (decide_eq_true h), if_pos (decide_eq_true g)]; congr 1; rw [decide_eq_decide]; omega
    · rw [if_pos (decide_eq_true h), if_neg (by simpa using g)]; congr 1; rw [eq_comm, decide_eq_false_iff_not]; omega
  · rw [if_neg (by simpa using h)]; congr 1; rw [eq_comm, decide_eq_false_iff_not]; omega

-- block IsSpiral
theorem IsSpiral_eq (a b c : Int) : impl_IsSpiral.f a b c = some (goodB a b c) := by
  unfold impl_IsSpiral.f goodB
  rw [within_eq, within_eq, within_eq]
  simp only [Option.bind_some]
  by_cases h : 1 ≤ a ∧ a ≤ 400
  · by_cases g : 3 ≤ b ∧ b ≤ 60
    · rw [if_pos (decide_eq_true h), if_pos (decide_eq_true g)]; congr 1; rw [decide_eq_decide]; omega
    · rw [if_pos (decide_eq_true h), if_neg (by simpa using g)]; congr 1; rw [eq_comm, decide_eq_false_iff_not]; omega
  · rw [if_neg (by simpa using h)]; congr 1; rw [eq_comm, decide_eq_false_iff_not]; omega

-- block angle
theorem angle_eq (a c : Int) (R s : Nat) (hR : 0 < R) (hs : 0 < s) (hs2 : s ≤ 1000) : impl_Spiral_angle.f a R c s = some (((s - 1) % R : Nat) : Int) := by
  unfold impl_Spiral_angle.f
  rw [if_neg (by omega), w64 (by omega), show (s : Int) - 1 = ((s - 1 : Nat) : Int) from by omega, tmod_nat]

-- block side
def sideN (R s : Nat) : Nat := (4 * ((s - 1) % R) / R + if 2 * (4 * ((s - 1) % R) % R) > R then 1 else 0) % 4
theorem sideN_lt (R s : Nat) : sideN R s < 4 := Nat.mod_lt _ (by omega)
theorem side_eq (a c : Int) (R s : Nat) (hR : 0 < R) (hR2 : R ≤ 100) (hs : 0 < s) (hs2 : s ≤ 1000) : impl_Spiral_side.f a R c s = some (sideN R s : Int) := by
  unfold impl_Spiral_side.f sideN
  rw [angle_eq a c R s hR hs hs2, Option.bind_some, if_neg (by omega)]
  have hat := Nat.mod_lt (s - 1) hR
  generalize (s - 1) % R = t at *
  have hr := Nat.mod_lt (4 * t) hR
  have hq : 4 * t / R ≤ 4 * t := Nat.div_le_self _ _
  rw [w64 (x := 4 * (t : Int)) (by omega), show 4 * (t : Int) = ((4 * t : Nat) : Int) from by omega, tmod_nat, tdiv_nat]
  generalize 4 * t / R = q at *
  generalize 4 * t % R = r at *
  rw [w64 (x := 2 * (r : Int)) (by omega), w64 (x := (q : Int)) (by omega), w64 (by omega)]
  by_cases h : 2 * r > R
  · rw [if_pos (by omega), if_pos h, show (q : Int) + 1 = ((q + 1 : Nat) : Int) from rfl, show (4 : Int) = ((4 : Nat) : Int) from rfl, tmod_nat]
  · rw [if_neg (by omega), if_neg h, show (4 : Int) = ((4 : Nat) : Int) from rfl, tmod_nat]; simp
theorem spSide_l0 (a c : Int) (R t q r e : Nat) (hR : 0 < R) (hR2 : R ≤ 100) (ht : t < R) (hn : R * q + r = 4 * t) (hr : r < R) (he : e = q + if 2 * r > R then 1 else 0) (d : Nat) : ∀ (k j : Nat), j + d = e → d < k →
    spec_spSide.l0 k t j a R c = some ((e % 4 : Nat) : Int) := by
  have hq4 : q ≤ 400 := by
    have : 1 * q ≤ R * q := Nat.mul_le_mul_right _ hR
    omega
  have lin : ∀ j : Nat, R * (2 * j + 1) = 2 * (R * j) + R := fun j => by rw [Nat.mul_add, Nat.mul_one, Nat.mul_left_comm]
  induction d with
  | zero =>
    intro k j hd hk
    obtain ⟨k, rfl⟩ : ∃ m, k = m + 1 := ⟨k - 1, by omega⟩
    simp only [spec_spSide.l0]
    have hj : j ≤ 401 := by split at he <;> omega
    have hm : R * (2 * j + 1) ≤ 100 * 1000 := Nat.mul_le_mul hR2 (by omega)
    have key : 8 * t ≤ R * (2 * j + 1) := by
      rw [lin]
      have : j = e := by omega
      subst this
      rw [he]
      by_cases h : 2 * r > R
      · rw [if_pos h, Nat.mul_add]; omega
      · rw [if_neg h, Nat.add_zero]; omega
    rw [w64 (x := 8 * (t : Int)) (by omega), w64 (x := 2 * (j : Int)) (by omega), w64 (x := 2 * (j : Int) + 1) (by omega), show 2 * (j : Int) + 1 = ((2 * j + 1 : Nat) : Int) from by omega, ← Int.natCast_mul, w64 (by omega), if_neg (by omega), show (4 : Int) = ((4 : Nat) : Int) from rfl, tmod_nat, show j = e from by omega]
  | succ d ih =>
    intro k j hd hk
    obtain ⟨k, rfl⟩ : ∃ m, k = m + 1 := ⟨k - 1, by omega⟩
    simp only [spec_spSide.l0]
    have hj : j ≤ 401 := by split at he <;> omega
    have hm : R * (2 * j + 1) ≤ 100 * 1000 := Nat.mul_le_mul hR2 (by omega)
    have key : 8 * t > R * (2 * j + 1) := by
      rw [lin]
      by_cases h : j < q
      · have : R * (j + 1) ≤ R * q := Nat.mul_le_mul_left _ h
        rw [Nat.mul_add] at this
        omega
      · have hjq : j = q := by split at he <;> omega
        subst hjq
        have : 2 * r > R := by
          by_cases h2 : 2 * r > R
          · exact h2
          · rw [if_neg h2] at he; omega
        omega
    rw [w64 (x := 8 * (t : Int)) (by omega), w64 (x := 2 * (j : Int)) (by omega), w64 (x := 2 * (j : Int) + 1) (by omega), show 2 * (j : Int) + 1 = ((2 * j + 1 : Nat) : Int) from by omega, ← Int.natCast_mul, w64 (x := ((R * (2 * j + 1) : Nat) : Int)) (by omega), if_pos (by omega), w64 (by omega)]
    exact ih k (j + 1) (by omega) (by omega)
theorem spSide_eq {k : Nat} (a c : Int) (R s : Nat) (hR : 0 < R) (hR2 : R ≤ 100) (hs : 0 < s) (hs2 : s ≤ 1000) (hk : 1000 < k) : spec_spSide.f k a R c s = some (sideN R s : Int) := by
  unfold spec_spSide.f sideN
  have hat := Nat.mod_lt (s - 1) hR
  rw [if_neg (by omega), w64 (by omega), show (s : Int) - 1 = ((s - 1 : Nat) : Int) from by omega, tmod_nat]
  generalize (s - 1) % R = t at *
  have hr := Nat.mod_lt (4 * t) hR
  have hn := Nat.div_add_mod (4 * t) R
  have hq : 4 * t / R ≤ 4 * t := Nat.div_le_self _ _
  generalize 4 * t / R = q at *
  generalize 4 * t % R = r at *
  exact spSide_l0 a c R t q r _ hR hR2 hat hn hr rfl (q + if 2 * r > R then 1 else 0) k 0 (by omega) (by split <;> omega)

-- block eqIntS
theorem eqIntS_l0 (l : List Int) (hl : l.length ≤ 1000000000) (d : Nat) : ∀ (k i : Nat), i + d = l.length → d < k → laws_eqIntS.l0 k l l i = some true := by
  induction d with
  | zero =>
    intro k i hd hk
    obtain ⟨k, rfl⟩ : ∃ m, k = m + 1 := ⟨k - 1, by omega⟩
    simp only [laws_eqIntS.l0]; rw [if_neg (by omega)]
  | succ d ih =>
    intro k i hd hk
    obtain ⟨k, rfl⟩ : ∃ m, k = m + 1 := ⟨k - 1, by omega⟩
    simp only [laws_eqIntS.l0]
    rw [if_pos (by omega), if_pos (by omega), if_pos (by omega), if_pos trivial, w64 (by omega)]
    exact ih k (i + 1) (by omega) (by omega)
theorem eqIntS_self {k : Nat} {l : List Int} (hl : l.length ≤ 1000000000) (hk : l.length < k) : laws_eqIntS.f k l l = some true := by
  unfold laws_eqIntS.f
  rw [if_pos rfl, show (0 : Int) = ((0 : Nat) : Int) from rfl, eqIntS_l0 l hl l.length k 0 (by omega) hk]

-- block marks
def ups (a : Int) (n : Nat) : List Int := (List.range n).map fun i : Nat => a + (i : Int)
theorem ups_length (a : Int) (n : Nat) : (ups a n).length = n := by simp [ups]
theorem ups_succ (a : Int) (n : Nat) : ups a (n + 1) = ups a n ++ [a + n] := by simp [ups, List.range_succ]
theorem rd_ups (a : Int) (n i : Nat) (h : i < n) : rd (ups a n) i = a + i := by
  unfold rd ups
  rw [List.getD_eq_getElem?_getD, Int.toNat_natCast, List.getElem?_map, List.getElem?_range h]; rfl
theorem markIntS_l0 (a : Int) (ha : 0 ≤ a) (d : Nat) : ∀ (k i : Nat) (post : List Int), post.length = d → a + i + d ≤ 4000000000000 → d < k →
    laws_markIntS.l0 k (ups a i ++ post) (a + i) i = some (a + i + d, ups a (i + d)) := by
  induction d with
  | zero =>
    intro k i post hp hb hk
    obtain ⟨k, rfl⟩ : ∃ m, k = m + 1 := ⟨k - 1, by omega⟩
    obtain rfl := List.eq_nil_of_length_eq_zero hp
    simp only [laws_markIntS.l0]
    rw [if_neg (by simp [ups_length])]
    simp
  | succ d ih =>
    intro k i post hp hb hk
    obtain ⟨k, rfl⟩ : ∃ m, k = m + 1 := ⟨k - 1, by omega⟩
    obtain ⟨x, post, rfl⟩ : ∃ x p, post = x :: p := by
      cases post with
      | nil => simp at hp
      | cons x p => exact ⟨x, p, rfl⟩
    simp only [laws_markIntS.l0]
    rw [if_pos (by simp [ups_length]; omega), if_pos (by omega), w64 (by omega), w64 (by omega)]
    have e : (ups a i ++ x :: post).set (i : Int).toNat (a + i) = ups a (i + 1) ++ post := by
      rw [Int.toNat_natCast, List.set_append_right _ _ (by simp [ups_length]), ups_length, Nat.sub_self, List.set_cons_zero, ups_succ, List.append_assoc]; rfl
    rw [e, show a + (i : Int) + 1 = a + ((i + 1 : Nat) : Int) from by omega, show (i : Int) + 1 = ((i + 1 : Nat) : Int) from rfl]
    rw [ih k (i + 1) post (by simpa using hp) (by omega) (by omega)]
    rw [show i + 1 + d = i + (d + 1) from by omega]
    congr 2; omega
theorem markIntS_eq {k : Nat} {l : List Int} {a : Int} (ha : 0 ≤ a) (hb : a + l.length ≤ 4000000000000) (hk : l.length < k) : laws_markIntS.f k l a = some (a + l.length, ups a l.length) := by
  unfold laws_markIntS.f
  have := markIntS_l0 a ha l.length k 0 l rfl (by omega) hk
  simpa [ups] using this
theorem heldIntS_l0 (a : Int) (ha : 0 ≤ a) (n : Nat) (hb : a + n ≤ 4000000000000) (d : Nat) : ∀ (k i : Nat), i + d = n → d < k → laws_heldIntS.l0 k (ups a n) (a + i) i = some (a + n) := by
  induction d with
  | zero =>
    intro k i hd hk
    obtain ⟨k, rfl⟩ : ∃ m, k = m + 1 := ⟨k - 1, by omega⟩
    simp only [laws_heldIntS.l0]
    rw [if_neg (by rw [ups_length]; omega)]
    congr 1; omega
  | succ d ih =>
    intro k i hd hk
    obtain ⟨k, rfl⟩ : ∃ m, k = m + 1 := ⟨k - 1, by omega⟩
    simp only [laws_heldIntS.l0]
    rw [if_pos (by rw [ups_length]; omega), if_pos (by omega), rd_ups _ _ _ (by omega), if_pos rfl, w64 (by omega), w64 (by omega)]
    rw [show a + (i : Int) + 1 = a + ((i + 1 : Nat) : Int) from by omega, show (i : Int) + 1 = ((i + 1 : Nat) : Int) from rfl]
    exact ih k (i + 1) (by omega) (by omega)
theorem heldIntS_eq {k n : Nat} {a : Int} (ha : 0 ≤ a) (hb : a + n ≤ 4000000000000) (hk : n < k) : laws_heldIntS.f k (ups a n) a = some (a + n) := by
  unfold laws_heldIntS.f
  have := heldIntS_l0 a ha n hb n k 0 (by omega) hk
  simpa using this

theorem counts_l0 (a R : Nat) (c : Int) (hR : 0 < R) (hR2 : R ≤ 100) (ha : a ≤ 400) (d : Nat) : ∀ (k i : Nat) (l : List Int), i + d = a + 1 → d + 1000 < k → 0 < i → l.length = 4 →
    ∃ r, spec_CountSides.l0 k l i a R c = some (r, true) ∧ impl_CountSides.l0 k l i a R c = some (r, true) ∧ r.length = 4 := by
  induction d with
  | zero =>
    intro k i l hd hk hi hl
    obtain ⟨k, rfl⟩ : ∃ m, k = m + 1 := ⟨k - 1, by omega⟩
    simp only [spec_CountSides.l0, impl_CountSides.l0]
    exact ⟨l, by rw [if_neg (by omega)], by rw [if_neg (by omega)], hl⟩
  | succ d ih =>
    intro k i l hd hk hi hl
    obtain ⟨k, rfl⟩ : ∃ m, k = m + 1 := ⟨k - 1, by omega⟩
    simp only [spec_CountSides.l0, impl_CountSides.l0]
    have hs := sideN_lt R i
    obtain ⟨r, h1, h2, h3⟩ := ih k (i + 1) (l.set (sideN R i : Int).toNat (wrap64 (rd l (sideN R i : Int) + 1))) (by omega) (by omega) (by omega) (by simpa using hl)
    refine ⟨r, ?_, ?_, h3⟩
    · rw [if_pos (by omega), spSide_eq _ _ R i hR hR2 hi (by omega) (by omega), Option.bind_some, if_pos (by omega), if_pos (by omega), w64 (x := (i : Int) + 1) (by omega)]
      exact h1
    · rw [if_pos (by omega), side_eq _ _ R i hR hR2 hi (by omega), Option.bind_some, if_pos (by omega), if_pos (by omega), w64 (x := (i : Int) + 1) (by omega)]
      exact h2
theorem counts_eq {k : Nat} (hk : 3000 < k) (a b c : Int) : ∃ r, spec_CountSides.f k a b c = some r ∧ impl_CountSides.f k a b c = some r ∧ r.1.length ≤ 4 := by
  unfold spec_CountSides.f impl_CountSides.f
  rw [spGood_eq, IsSpiral_eq, Option.bind_some, Option.bind_some]
  by_cases h : goodB a b c = true
  · have g := h
    unfold goodB at g
    rw [decide_eq_true_eq] at g
    obtain ⟨a, rfl⟩ := Int.eq_ofNat_of_zero_le (show 0 ≤ a by omega)
    obtain ⟨b, rfl⟩ := Int.eq_ofNat_of_zero_le (show 0 ≤ b by omega)
    obtain ⟨r, h1, h2, h3⟩ := counts_l0 a b c (by omega) (by omega) (by omega) a k 1 (List.replicate 4 0) (by omega) (by omega) (by omega) (by simp)
    rw [if_pos h, if_pos h, if_pos (by decide), if_pos (by decide)]
    exact ⟨_, h1, h2, by show r.length ≤ 4; omega⟩
  · rw [if_neg h, if_neg h]; exact ⟨_, rfl, rfl, by simp⟩
theorem FnExactCountSides : laws_FnExactCountSides.Pure := by
  intro a b c _ _ _
  obtain ⟨k, hk⟩ : ∃ k, 4000 < k := ⟨4001, by omega⟩
  refine ⟨k + 2, ?_⟩
  obtain ⟨r, h1, h2, hl⟩ := counts_eq (k := k + 2) (by omega) a b c
  obtain ⟨r', h1', h2', -⟩ := counts_eq (k := k + 1) (by omega) a b c
  have e : r' = r := by
    have m := impl_CountSides.mono a b c (k + 1) _ h2'
    rw [h2] at m; exact (Option.some.inj m).symm
  subst e
  unfold laws_FnExactCountSides.f laws_toSpiral.f
  rw [Option.bind_some, h1, Option.bind_some, Option.bind_some, h2, Option.bind_some, eqIntS_self (by omega) (by omega), Option.bind_some, if_pos rfl, laws_FnExactCountSides.j0, if_neg (by simp), markIntS_eq (by omega) (by omega) (by omega), Option.bind_some, heldIntS_eq (by omega) (by omega) (by omega), Option.bind_some, if_neg (by omega), if_pos rfl]
  unfold laws_toSpiral.f
  rw [Option.bind_some, h2', Option.bind_some, eqIntS_self (by omega) (by omega), Option.bind_some, if_pos rfl, laws_FnExactCountSides.j1, if_neg (by simp), heldIntS_eq (by omega) (by omega) (by omega), Option.bind_some, if_neg (by omega), if_pos rfl]

end Go.Proofs.Ytojcdkiopdcdoaa.Pure
