/- The program's CoverPlan returns what the reference's returns, for all arguments. No condition. -/
import Derived.Test.YtflagakoikgkhaaPFnExactCoverPlanx4
namespace Go.Proofs.Ytflagakoikgkhaa.Pure
open Go.RowKit Go.Proofs.Ytflagakoikgkhaa.PFnExactCoverPlan Go.Proofs.YtflagakoikgkhaaW.PrintWords Go.Proofs.YtflagakoikgkhaaW.PrintLast Go.Proofs.YtflagakoikgkhaaW.PrintMore
set_option linter.unusedVariables false
set_option linter.unusedSimpArgs false

-- block l1In
theorem l1In_eq (a b c : Int) : spec_l1In.f a b c = some (decide (b ≤ a ∧ a ≤ c)) := by
  unfold spec_l1In.f
  by_cases h : a ≥ b
  · rw [if_pos h]; simp [show b ≤ a from h]
  · rw [if_neg h]; simp [show ¬ b ≤ a from h]

-- block w64
theorem w64 {x : Int} (h : -9223372036854775808 ≤ x ∧ x ≤ 9223372036854775807) : wrap64 x = x := by
  unfold wrap64; omega

-- block l1All
theorem l1All_l0 (lo hi : Int) (l : List Int) (hl : l.length ≤ 1000000000) (d : Nat) : ∀ (k i : Nat), i + d = l.length → d < k → spec_l1All.l0 k lo hi l l.length i = some ((l.drop i).all fun n => decide (lo ≤ n ∧ n ≤ hi)) := by
  induction d with
  | zero =>
    intro k i hd hk
    obtain ⟨k, rfl⟩ : ∃ m, k = m + 1 := ⟨k - 1, by omega⟩
    simp only [spec_l1All.l0]; rw [if_neg (by omega), List.drop_eq_nil_of_le (by omega)]; rfl
  | succ d ih =>
    intro k i hd hk
    obtain ⟨k, rfl⟩ : ∃ m, k = m + 1 := ⟨k - 1, by omega⟩
    simp only [spec_l1All.l0]
    have h : i < l.length := by omega
    have e : rd l i = l[i] := by simp [rd, List.getD_eq_getElem?_getD, List.getElem?_eq_getElem h]
    rw [if_pos (by omega), if_pos (by omega), if_pos (by omega), l1In_eq, Option.bind_some, List.drop_eq_getElem_cons h, e, List.all_cons]
    by_cases g : lo ≤ l[i] ∧ l[i] ≤ hi
    · rw [if_pos (decide_eq_true g), w64 (by omega), decide_eq_true g, Bool.true_and]
      exact ih k (i + 1) (by omega) (by omega)
    · rw [if_neg (by simpa using g), decide_eq_false g, Bool.false_and]
theorem l1All_eq {k : Nat} {l : List Int} (lo hi : Int) (hl : l.length ≤ 1000000000) (hk : l.length < k) : spec_l1All.f k l lo hi = some (l.all fun n => decide (lo ≤ n ∧ n ≤ hi)) := by
  unfold spec_l1All.f
  exact l1All_l0 lo hi l hl l.length k 0 (by omega) (by omega)

-- block within
theorem within_eq (a b c : Int) : impl_within.f a b c = some (decide (b ≤ a ∧ a ≤ c)) := by
  unfold impl_within.f
  by_cases h : b ≤ a
  · rw [if_pos h]; simp [h]
  · rw [if_neg h]; simp [h]

-- block isRoll
theorem isRoll_eq (a : Int) : impl_isRoll.f a = some (decide (1 ≤ a ∧ a ≤ 2000)) := by
  unfold impl_isRoll.f; rw [within_eq]; rfl

-- block hofAny
theorem hofAny_eq (q : Int → Option Bool) (p : Int → Bool) (h : ∀ n, q n = some (p n)) (l : List Int) : hofAny q l = some (l.any p) := by
  induction l with
  | nil => rfl
  | cons x xs ih =>
    unfold hofAny
    rw [h x, Option.bind_some, ih]
    cases hp : p x
    · rw [if_neg (by decide)]; simp [hp]
    · rw [if_pos rfl]; simp [hp]

-- block rolls
def rollsB (l : List Int) : Bool := decide (1 ≤ l.length ∧ l.length ≤ 8) && l.all fun n => decide (1 ≤ n ∧ n ≤ 2000)
theorem AreRolls_eq (l : List Int) : impl_AreRolls.f l = some (rollsB l) := by
  unfold impl_AreRolls.f rollsB
  have hc : ∀ n, impl_AreRolls_1.f n = some (!decide (1 ≤ n ∧ n ≤ 2000)) := fun n => by unfold impl_AreRolls_1.f; rw [isRoll_eq]; rfl
  have hh := hofAny_eq _ _ hc l
  rw [within_eq, Option.bind_some]
  by_cases h : 1 ≤ l.length ∧ l.length ≤ 8
  · rw [if_pos (by simp; omega), decide_eq_true h, Bool.true_and]
    simp only [slices_ContainsFunc_int_int.f, Array.size_empty, and_self, if_true]
    simp [hh, List.not_any_eq_all_not]
  · rw [if_neg (by simp; omega), decide_eq_false h, Bool.false_and]
theorem cpRolls_eq {k : Nat} {l : List Int} (hk : 30 < k) : spec_cpRolls.f k l = some (rollsB l) := by
  unfold spec_cpRolls.f rollsB
  rw [l1In_eq, Option.bind_some]
  by_cases h : 1 ≤ l.length ∧ l.length ≤ 8
  · rw [if_pos (by simp; omega), l1All_eq _ _ (by omega) (by omega), decide_eq_true h, Bool.true_and, Option.bind_some]
  · rw [if_neg (by simp; omega), decide_eq_false h, Bool.false_and]
theorem rollsB_true {l : List Int} (h : rollsB l = true) : (1 ≤ l.length ∧ l.length ≤ 8) ∧ ∀ x ∈ l, 1 ≤ x ∧ x ≤ 2000 := by
  unfold rollsB at h
  rw [Bool.and_eq_true, decide_eq_true_eq, List.all_eq_true] at h
  exact ⟨h.1, fun x hx => by simpa using h.2 x hx⟩

-- block covers
def covF (b : Int) : List Int → Int → Int
  | [], a => a
  | x :: xs, a => covF b xs (wrap64 (a + wrap64 (Int.tdiv x b)))
theorem rd_at (l : List Int) (i : Nat) (h : i < l.length) : rd l i = l[i] := by simp [rd, List.getD_eq_getElem?_getD, List.getElem?_eq_getElem h]
theorem covers_l0 (b : Int) (hb : b ≠ 0) (l : List Int) (hl : l.length ≤ 1048576) (d : Nat) : ∀ (k i : Nat) (a : Int), i + d = l.length → d < k → impl_covers.l0 k b a l l.length i = some (covF b (l.drop i) a) := by
  induction d with
  | zero =>
    intro k i a hd hk
    obtain ⟨k, rfl⟩ : ∃ m, k = m + 1 := ⟨k - 1, by omega⟩
    simp only [impl_covers.l0]; rw [if_neg (by omega), List.drop_eq_nil_of_le (by omega)]; rfl
  | succ d ih =>
    intro k i a hd hk
    obtain ⟨k, rfl⟩ : ∃ m, k = m + 1 := ⟨k - 1, by omega⟩
    simp only [impl_covers.l0]
    have h : i < l.length := by omega
    rw [if_pos (by omega), if_pos (by omega), if_pos (by omega), if_neg hb, rd_at l i h, w64 (x := (i : Int) + 1) (by omega), List.drop_eq_getElem_cons h, covF]
    exact ih k (i + 1) _ (by omega) (by omega)
theorem covers_eq {k : Nat} {l : List Int} {b : Int} (hb : b ≠ 0) (hl : l.length ≤ 1048576) (hk : l.length < k) : impl_covers.f k l b = some (covF b l 0) := by
  unfold impl_covers.f
  exact covers_l0 b hb l hl l.length k 0 0 (by omega) hk

-- block cpSum
theorem cpSum_l0 (b : Int) (hb : b ≠ 0) (l : List Int) (hl : l.length ≤ 1048576) (d : Nat) : ∀ (k i : Nat) (a : Int), i + d = l.length → d < k → spec_cpSum.l0 k b a l l.length i = some (covF b (l.drop i) a) := by
  induction d with
  | zero =>
    intro k i a hd hk
    obtain ⟨k, rfl⟩ : ∃ m, k = m + 1 := ⟨k - 1, by omega⟩
    simp only [spec_cpSum.l0]; rw [if_neg (by omega), List.drop_eq_nil_of_le (by omega)]; rfl
  | succ d ih =>
    intro k i a hd hk
    obtain ⟨k, rfl⟩ : ∃ m, k = m + 1 := ⟨k - 1, by omega⟩
    simp only [spec_cpSum.l0]
    have h : i < l.length := by omega
    rw [if_pos (by omega), if_pos (by omega), if_pos (by omega), if_neg hb, rd_at l i h, w64 (x := (i : Int) + 1) (by omega), List.drop_eq_getElem_cons h, covF]
    exact ih k (i + 1) _ (by omega) (by omega)
theorem cpSum_eq {k : Nat} {l : List Int} {b : Int} (hb : b ≠ 0) (hl : l.length ≤ 1048576) (hk : l.length < k) : spec_cpSum.f k l b = some (covF b l 0) := by
  unfold spec_cpSum.f
  exact cpSum_l0 b hb l hl l.length k 0 0 (by omega) hk

-- block cpNeed
theorem cpNeed_eq (a : Int) : spec_cpNeed.f a = some (decide (1 ≤ a ∧ a ≤ 100)) := by
  unfold spec_cpNeed.f; rw [l1In_eq]; rfl

-- block cpSteps
theorem cpSteps_eq (a b : Int) : spec_cpSteps.f a b = some (decide ((1 ≤ a ∧ a ≤ 100) ∧ (1 ≤ b ∧ b ≤ 100))) := by
  unfold spec_cpSteps.f; rw [l1In_eq, Option.bind_some]
  by_cases h : 1 ≤ a ∧ a ≤ 100
  · rw [if_pos (decide_eq_true h), cpNeed_eq]; simp [h]
  · rw [if_neg (by simp; omega)]; simp [h]

-- block isCover
theorem isCover_eq (a : Int) : impl_isCover.f a = some (decide (1 ≤ a ∧ a ≤ 100)) := by
  unfold impl_isCover.f; rw [within_eq]; rfl

-- block isNeed
theorem isNeed_eq (a : Int) : impl_isNeed.f a = some (decide (1 ≤ a ∧ a ≤ 100)) := by
  unfold impl_isNeed.f; rw [within_eq]; rfl

-- block toIntS
theorem toIntS_l0 (l : List Int) (hl : l.length ≤ 1048576) (d : Nat) : ∀ (k i : Nat) (m : List Int), i + d = l.length → d < k → m.length = d → laws_toIntS.l0 k l (l.take i ++ m) i = some l := by
  induction d with
  | zero =>
    intro k i m hd hk hm
    obtain ⟨k, rfl⟩ : ∃ n, k = n + 1 := ⟨k - 1, by omega⟩
    obtain rfl := List.eq_nil_of_length_eq_zero hm
    simp only [laws_toIntS.l0]; rw [if_neg (by omega), List.take_of_length_le (by omega), List.append_nil]
  | succ d ih =>
    intro k i m hd hk hm
    obtain ⟨k, rfl⟩ : ∃ n, k = n + 1 := ⟨k - 1, by omega⟩
    obtain ⟨x, m, rfl⟩ : ∃ x p, m = x :: p := by
      cases m with
      | nil => simp at hm
      | cons x p => exact ⟨x, p, rfl⟩
    simp only [laws_toIntS.l0]
    have hi : i < l.length := by omega
    have hlen : (l.take i ++ x :: m).length = l.length := by simp at hm ⊢; omega
    have e : (l.take i ++ x :: m).set (i : Int).toNat (rd l i) = l.take (i + 1) ++ m := by
      have ht : (l.take i).length = i := by simp; omega
      rw [Int.toNat_natCast, List.set_append_right _ _ (by omega), ht, Nat.sub_self, List.set_cons_zero, List.take_succ_eq_append_getElem hi, List.append_assoc]
      simp [rd, List.getD_eq_getElem?_getD, List.getElem?_eq_getElem hi]
    rw [if_pos (by omega), if_pos (by omega), if_pos (by omega), e, w64 (by omega)]
    exact ih k (i + 1) m (by omega) (by omega) (by simpa using hm)
theorem toIntS_eq {k : Nat} {l : List Int} (hl : l.length ≤ 1048576) (hk : 1048576 < k) : laws_toIntS.f k l = some l := by
  unfold laws_toIntS.f
  rw [if_pos (by omega), if_pos (by omega)]
  have := toIntS_l0 l hl l.length k 0 (List.replicate l.length 0) (by omega) (by omega) (by simp)
  simpa using this

-- block eqIntS
theorem eqIntS_l0 (l : List Int) (hl : l.length ≤ 1000000000) (d : Nat) : ∀ (k i : Nat), i + d = l.length → d < k → laws_eqIntS.l0 k l l i = some true := by
  induction d with
  | zero =>
    intro k i hd hk
    obtain ⟨k, rfl⟩ : ∃ m, k = m + 1 := ⟨k - 1, by omega⟩
    simp only [laws_eqIntS.l0]; rw [if_neg (by omega)]
  | succ d ih =>
    intro k i hd hk
    obtain ⟨k, rfl⟩ : ∃ m, k = m + 1 := ⟨k - 1, by omega⟩
    simp only [laws_eqIntS.l0]
    rw [if_pos (by omega), if_pos (by omega), if_pos (by omega), if_pos trivial, w64 (by omega)]
    exact ih k (i + 1) (by omega) (by omega)
theorem eqIntS_self {k : Nat} {l : List Int} (hl : l.length ≤ 1000000000) (hk : l.length < k) : laws_eqIntS.f k l l = some true := by
  unfold laws_eqIntS.f
  rw [if_pos rfl, show (0 : Int) = ((0 : Nat) : Int) from rfl, eqIntS_l0 l hl l.length k 0 (by omega) hk]

-- block marks
def ups (a : Int) (n : Nat) : List Int := (List.range n).map fun i : Nat => a + (i : Int)
theorem ups_length (a : Int) (n : Nat) : (ups a n).length = n := by simp [ups]
theorem ups_succ (a : Int) (n : Nat) : ups a (n + 1) = ups a n ++ [a + n] := by simp [ups, List.range_succ]
theorem rd_ups (a : Int) (n i : Nat) (h : i < n) : rd (ups a n) i = a + i := by
  unfold rd ups
  rw [List.getD_eq_getElem?_getD, Int.toNat_natCast, List.getElem?_map, List.getElem?_range h]; rfl
theorem markIntS_l0 (a : Int) (ha : 0 ≤ a) (d : Nat) : ∀ (k i : Nat) (post : List Int), post.length = d → a + i + d ≤ 4000000000000 → d < k →
    laws_markIntS.l0 k (ups a i ++ post) (a + i) i = some (a + i + d, ups a (i + d)) := by
  induction d with
  | zero =>
    intro k i post hp hb hk
    obtain ⟨k, rfl⟩ : ∃ m, k = m + 1 := ⟨k - 1, by omega⟩
    obtain rfl := List.eq_nil_of_length_eq_zero hp
    simp only [laws_markIntS.l0]
    rw [if_neg (by simp [ups_length])]
    simp
  | succ d ih =>
    intro k i post hp hb hk
    obtain ⟨k, rfl⟩ : ∃ m, k = m + 1 := ⟨k - 1, by omega⟩
    obtain ⟨x, post, rfl⟩ : ∃ x p, post = x :: p := by
      cases post with
      | nil => simp at hp
      | cons x p => exact ⟨x, p, rfl⟩
    simp only [laws_markIntS.l0]
    rw [if_pos (by simp [ups_length]; omega), if_pos (by omega), w64 (by omega), w64 (by omega)]
    have e : (ups a i ++ x :: post).set (i : Int).toNat (a + i) = ups a (i + 1) ++ post := by
      rw [Int.toNat_natCast, List.set_append_right _ _ (by simp [ups_length]), ups_length, Nat.sub_self, List.set_cons_zero, ups_succ, List.append_assoc]; rfl
    rw [e, show a + (i : Int) + 1 = a + ((i + 1 : Nat) : Int) from by omega, show (i : Int) + 1 = ((i + 1 : Nat) : Int) from rfl]
    rw [ih k (i + 1) post (by simpa using hp) (by omega) (by omega)]
    rw [show i + 1 + d = i + (d + 1) from by omega]
    congr 2; omega
theorem markIntS_eq {k : Nat} {l : List Int} {a : Int} (ha : 0 ≤ a) (hb : a + l.length ≤ 4000000000000) (hk : l.length < k) : laws_markIntS.f k l a = some (a + l.length, ups a l.length) := by
  unfold laws_markIntS.f
  have := markIntS_l0 a ha l.length k 0 l rfl (by omega) hk
  simpa [ups] using this
theorem heldIntS_l0 (a : Int) (ha : 0 ≤ a) (n : Nat) (hb : a + n ≤ 4000000000000) (d : Nat) : ∀ (k i : Nat), i + d = n → d < k → laws_heldIntS.l0 k (ups a n) (a + i) i = some (a + n) := by
  induction d with
  | zero =>
    intro k i hd hk
    obtain ⟨k, rfl⟩ : ∃ m, k = m + 1 := ⟨k - 1, by omega⟩
    simp only [laws_heldIntS.l0]
    rw [if_neg (by rw [ups_length]; omega)]
    congr 1; omega
  | succ d ih =>
    intro k i hd hk
    obtain ⟨k, rfl⟩ : ∃ m, k = m + 1 := ⟨k - 1, by omega⟩
    simp only [laws_heldIntS.l0]
    rw [if_pos (by rw [ups_length]; omega), if_pos (by omega), rd_ups _ _ _ (by omega), if_pos rfl, w64 (by omega), w64 (by omega)]
    rw [show a + (i : Int) + 1 = a + ((i + 1 : Nat) : Int) from by omega, show (i : Int) + 1 = ((i + 1 : Nat) : Int) from rfl]
    exact ih k (i + 1) (by omega) (by omega)
theorem heldIntS_eq {k n : Nat} {a : Int} (ha : 0 ≤ a) (hb : a + n ≤ 4000000000000) (hk : n < k) : laws_heldIntS.f k (ups a n) a = some (a + n) := by
  unfold laws_heldIntS.f
  have := heldIntS_l0 a ha n hb n k 0 (by omega) hk
  simpa using this

-- block tdiv
theorem tdiv_nat (a b : Nat) : Int.tdiv (a : Int) (b : Int) = ((a / b : Nat) : Int) := rfl
theorem tmod_nat (a b : Nat) : Int.tmod (a : Int) (b : Int) = ((a % b : Nat) : Int) := rfl
theorem tdiv_pos {a b : Int} (ha : 0 ≤ a) : Int.tdiv a b = a / b := Int.tdiv_eq_ediv_of_nonneg ha
theorem tmod_pos {a b : Int} (ha : 0 ≤ a) : Int.tmod a b = a % b := Int.tmod_eq_emod_of_nonneg ha

theorem spec_plan_l1 (s : Nat) (n q : Int) (L : List Int) (x : Int) (hs : s ≤ 100) (i : Nat) : ∀ (k : Nat) (acc : List Int), i < k → acc.length ≤ s → i ≤ 2000 →
    ∃ j, j < k ∧ k ≤ j + i + 1 ∧ spec_CoverPlan.l1 k s n acc q i L L.length x = spec_CoverPlan.l0 j s n (acc ++ List.replicate (min i (s - acc.length)) q) L L.length (wrap64 (x + 1)) := by
  induction i with
  | zero =>
    intro k acc hk ha _
    obtain ⟨k, rfl⟩ : ∃ m, k = m + 1 := ⟨k - 1, by omega⟩
    refine ⟨k, by omega, by omega, ?_⟩
    simp only [spec_CoverPlan.l1]
    rw [if_neg (by omega)]; simp
  | succ i ih =>
    intro k acc hk ha hi
    obtain ⟨k, rfl⟩ : ∃ m, k = m + 1 := ⟨k - 1, by omega⟩
    simp only [spec_CoverPlan.l1]
    rw [if_pos (show ((i + 1 : Nat) : Int) > 0 by omega)]
    by_cases h : ((acc.length : Nat) : Int) < s
    · rw [if_pos h, if_pos (by omega), w64 (x := ((i + 1 : Nat) : Int) - 1) (by omega), show ((i + 1 : Nat) : Int) - 1 = (i : Int) from by omega]
      obtain ⟨j, h1, h2, h3⟩ := ih k (acc ++ [q]) (by omega) (by simp; omega) (by omega)
      refine ⟨j, by omega, by omega, ?_⟩
      rw [h3, List.append_assoc]
      congr 2
      rw [show min (i + 1) (s - acc.length) = min i (s - (acc ++ [q]).length) + 1 from by simp; omega, List.replicate_succ]; rfl
    · rw [if_neg h]
      refine ⟨k, by omega, by omega, ?_⟩
      rw [show min (i + 1) (s - acc.length) = 0 from by omega]; simp
theorem impl_plan_l1 (s : Nat) (n q : Int) (L : List Int) (x : Int) (hs : s ≤ 100) (m d : Nat) (hm : m ≤ 2000) : ∀ (k i : Nat) (acc : List Int), d < k → acc.length ≤ s → i + d = m →
    ∃ j, j < k ∧ k ≤ j + d + 1 ∧ impl_CoverPlan.l1 k s n acc q L L.length x m i = impl_CoverPlan.l0 j s n (acc ++ List.replicate (min d (s - acc.length)) q) L L.length (wrap64 (x + 1)) := by
  induction d with
  | zero =>
    intro k i acc hk ha _
    obtain ⟨k, rfl⟩ : ∃ m, k = m + 1 := ⟨k - 1, by omega⟩
    refine ⟨k, by omega, by omega, ?_⟩
    simp only [impl_CoverPlan.l1]
    rw [if_neg (by omega)]; simp
  | succ d ih =>
    intro k i acc hk ha hi
    obtain ⟨k, rfl⟩ : ∃ m, k = m + 1 := ⟨k - 1, by omega⟩
    simp only [impl_CoverPlan.l1]
    rw [if_pos (show (i : Int) < (m : Int) by omega), w64 (x := (i : Int) + 1) (by omega), show (i : Int) + 1 = ((i + 1 : Nat) : Int) from rfl]
    by_cases h : ((acc.length : Nat) : Int) < s
    · rw [if_pos h, if_pos (by omega)]
      obtain ⟨j, h1, h2, h3⟩ := ih k (i + 1) (acc ++ [q]) (by omega) (by simp; omega) (by omega)
      refine ⟨j, by omega, by omega, ?_⟩
      rw [h3, List.append_assoc]
      congr 2
      rw [show min (d + 1) (s - acc.length) = min d (s - (acc ++ [q]).length) + 1 from by simp; omega, List.replicate_succ]; rfl
    · rw [if_neg h]
      obtain ⟨j, h1, h2, h3⟩ := ih k (i + 1) acc (by omega) ha (by omega)
      refine ⟨j, by omega, by omega, ?_⟩
      rw [h3, show min (d + 1) (s - acc.length) = min d (s - acc.length) from by omega]
theorem plan_l0 (s : Nat) (n : Int) (hs : s ≤ 100) (hn : 1 ≤ n) (L : List Int) (hL : L.length ≤ 8) (hx : ∀ x ∈ L, 1 ≤ x ∧ x ≤ 2000) (d : Nat) : ∀ (i : Nat) (acc : List Int), i + d = L.length → acc.length ≤ s →
    ∃ r, r.length ≤ s ∧ ∀ k, 2100 * d + 10 < k → spec_CoverPlan.l0 k s n acc L L.length i = some (r, true) ∧ impl_CoverPlan.l0 k s n acc L L.length i = some (r, true) := by
  induction d with
  | zero =>
    intro i acc hd ha
    refine ⟨acc, ha, fun k hk => ?_⟩
    obtain ⟨k, rfl⟩ : ∃ m, k = m + 1 := ⟨k - 1, by omega⟩
    simp only [spec_CoverPlan.l0, impl_CoverPlan.l0]
    exact ⟨by rw [if_neg (by omega)], by rw [if_neg (by omega)]⟩
  | succ d ih =>
    intro i acc hd ha
    have hi : i < L.length := by omega
    have h0 := hx L[i] (List.getElem_mem hi)
    have e : Int.tdiv L[i] n = L[i] / n := Int.tdiv_eq_ediv_of_nonneg (by omega)
    have hd0 : 0 ≤ L[i] / n := Int.ediv_nonneg (by omega) (by omega)
    have hd1 : L[i] / n ≤ L[i] := Int.ediv_le_self n (by omega)
    obtain ⟨m, hm⟩ := Int.eq_ofNat_of_zero_le hd0
    obtain ⟨r, hr, h⟩ := ih (i + 1) (acc ++ List.replicate (min m (s - acc.length)) (i : Int)) (by omega) (by simp; omega)
    refine ⟨r, hr, fun k hk => ?_⟩
    obtain ⟨k, rfl⟩ : ∃ m, k = m + 1 := ⟨k - 1, by omega⟩
    have ew : wrap64 (Int.tdiv (rd L i) n) = (m : Int) := by rw [rd_at L i hi, e, w64 (by omega), hm]
    simp only [spec_CoverPlan.l0, impl_CoverPlan.l0]
    rw [ew]
    obtain ⟨j1, a1, a2, a3⟩ := spec_plan_l1 s n (i : Int) L (i : Int) hs m k acc (by omega) ha (by omega)
    obtain ⟨j2, b1, b2, b3⟩ := impl_plan_l1 s n (i : Int) L (i : Int) hs m m (by omega) k 0 acc (by omega) ha (by omega)
    rw [w64 (x := (i : Int) + 1) (by omega)] at a3 b3
    refine ⟨?_, ?_⟩
    · rw [if_pos (by omega), if_pos (by omega), if_pos (by omega), if_neg (by omega), a3]; exact (h j1 (by omega)).1
    · rw [if_pos (by omega), if_pos (by omega), if_pos (by omega), if_neg (by omega), show (0 : Int) = ((0 : Nat) : Int) from rfl, b3]; exact (h j2 (by omega)).2
theorem CoverPlan_eq {k : Nat} (hk : 30000 < k) (l : List Int) (hl : l.length ≤ 1048576) (s n : Int) : ∃ r, spec_CoverPlan.f k l s n = some r ∧ impl_CoverPlan.f k l s n = some r ∧ r.1.length ≤ 100 := by
  unfold spec_CoverPlan.f impl_CoverPlan.f spec_cpAll.f
  rw [cpRolls_eq (by omega), AreRolls_eq, Option.bind_some, Option.bind_some, cpSteps_eq, isCover_eq, isNeed_eq, Option.bind_some, Option.bind_some, Option.bind_some]
  obtain ⟨k, rfl⟩ : ∃ m, k = m + 1 := ⟨k - 1, by omega⟩
  have it : impl_CoverPlan.j0 (k + 1) l s n true = some ([], false) := by rw [impl_CoverPlan.j0, if_pos rfl]
  by_cases h : rollsB l = true
  · have g := rollsB_true h
    rw [if_pos h, if_pos h]
    by_cases c1 : 1 ≤ s ∧ s ≤ 100
    · rw [if_pos (decide_eq_true c1)]
      by_cases c2 : 1 ≤ n ∧ n ≤ 100
      · rw [if_pos (decide_eq_true c2), if_pos (decide_eq_true ⟨c1, c2⟩), cpSum_eq (by omega) (by omega) (by omega), covers_eq (by omega) (by omega) (by omega), Option.bind_some, Option.bind_some, Option.bind_some]
        by_cases c3 : covF n l 0 < s
        · rw [decide_eq_false (show ¬ covF n l 0 ≥ s by omega), decide_eq_true c3, it, if_neg (by decide)]; exact ⟨_, rfl, rfl, by simp⟩
        · rw [decide_eq_true (show covF n l 0 ≥ s by omega), decide_eq_false c3, if_pos rfl, impl_CoverPlan.j0, if_neg (by decide)]
          obtain ⟨s, rfl⟩ := Int.eq_ofNat_of_zero_le (show 0 ≤ s by omega)
          obtain ⟨r, hr, hh⟩ := plan_l0 s n (by omega) c2.1 l (by omega) g.2 l.length 0 [] (by omega) (by simp)
          exact ⟨_, (hh (k + 1) (by omega)).1, (hh k (by omega)).2, by show r.length ≤ 100; omega⟩
      · rw [if_neg (show ¬ decide ((1 ≤ s ∧ s ≤ 100) ∧ (1 ≤ n ∧ n ≤ 100)) = true by rw [decide_eq_true_eq]; exact fun z => c2 z.2), if_neg (show ¬ decide (1 ≤ n ∧ n ≤ 100) = true by rw [decide_eq_true_eq]; exact c2), Option.bind_some, if_neg (by decide), it]; exact ⟨_, rfl, rfl, by simp⟩
    · rw [if_neg (show ¬ decide ((1 ≤ s ∧ s ≤ 100) ∧ (1 ≤ n ∧ n ≤ 100)) = true by rw [decide_eq_true_eq]; exact fun z => c1 z.1), if_neg (show ¬ decide (1 ≤ s ∧ s ≤ 100) = true by rw [decide_eq_true_eq]; exact c1), Option.bind_some, if_neg (by decide), it]; exact ⟨_, rfl, rfl, by simp⟩
  · rw [if_neg h, if_neg h, Option.bind_some, if_neg (by decide), it]; exact ⟨_, rfl, rfl, by simp⟩
theorem FnExactCoverPlan : laws_FnExactCoverPlan.Pure := by
  intro l s n _ _ _ _ _ 
  obtain ⟨k, hk⟩ : ∃ k, 2000000 < k := ⟨2000001, by omega⟩
  refine ⟨k + 3, ?_⟩
  unfold laws_FnExactCoverPlan.f
  by_cases hs : (l.length : Int) > 1048576
  · rw [if_pos hs]
  · obtain ⟨r, h1, h2, hl⟩ := CoverPlan_eq (k := k + 3) (by omega) l (by omega) s n
    obtain ⟨r', h1', h2', -⟩ := CoverPlan_eq (k := k + 1) (by omega) l (by omega) s n
    have e : r' = r := by
      have m := impl_CoverPlan.mono l s n (k + 1 + 1) _ (impl_CoverPlan.mono l s n (k + 1) _ h2')
      rw [h2] at m; exact (Option.some.inj m).symm
    subst e
    rw [if_neg hs, toIntS_eq (by omega) (by omega), Option.bind_some, h1, Option.bind_some, Option.bind_some, h2, Option.bind_some, eqIntS_self (by omega) (by omega), Option.bind_some, if_pos rfl, laws_FnExactCoverPlan.j0, if_neg (by simp), toIntS_eq (by omega) (by omega), Option.bind_some, eqIntS_self (by omega) (by omega), Option.bind_some, if_pos rfl, markIntS_eq (by omega) (by omega) (by omega), Option.bind_some]
    rw [if_neg (by omega), eqIntS_self (by omega) (by omega), Option.bind_some, if_pos rfl, laws_FnExactCoverPlan.j1, if_neg (by simp), markIntS_eq (by omega) (by omega) (by omega), Option.bind_some, heldIntS_eq (by omega) (by omega) (by omega), Option.bind_some, if_neg (by omega), if_pos rfl, toIntS_eq (by omega) (by omega), Option.bind_some, h2', Option.bind_some, eqIntS_self (by omega) (by omega), Option.bind_some, if_pos rfl, laws_FnExactCoverPlan.j2, if_neg (by simp), heldIntS_eq (by omega) (by omega) (by omega), Option.bind_some, if_neg (by omega), if_pos rfl]

end Go.Proofs.Ytflagakoikgkhaa.Pure
