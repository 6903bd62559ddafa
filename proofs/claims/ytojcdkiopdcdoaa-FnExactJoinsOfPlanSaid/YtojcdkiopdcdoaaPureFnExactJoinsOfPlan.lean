/- The program's JoinsOfPlan returns what the reference's returns, for all arguments. No condition. -/
import Derived.Test.YtojcdkiopdcdoaaPFnExactJoinsOfPlanx3
namespace Go.Proofs.Ytojcdkiopdcdoaa.Pure
open Go.RowKit Go.Proofs.Ytojcdkiopdcdoaa.PFnExactJoinsOfPlan Go.Proofs.YtojcdkiopdcdoaaW.PrintWords Go.Proofs.YtojcdkiopdcdoaaW.PrintLast Go.Proofs.YtojcdkiopdcdoaaW.PrintMore
set_option linter.unusedVariables false
set_option linter.unusedSimpArgs false

-- block within
theorem within_eq (a b c : Int) : impl_within.f a b c = some (decide (b ≤ a ∧ a ≤ c)) := by
  unfold impl_within.f
  by_cases h : b ≤ a
  · rw [if_pos h]; simp [h]
  · rw [if_neg h]; simp [h]

-- block isCover
theorem isCover_eq (a : Int) : impl_isCover.f a = some (decide (1 ≤ a ∧ a ≤ 100)) := by
  unfold impl_isCover.f; rw [within_eq]; rfl

-- block l1In
theorem l1In_eq (a b c : Int) : spec_l1In.f a b c = some (decide (b ≤ a ∧ a ≤ c)) := by
  unfold spec_l1In.f
  by_cases h : a ≥ b
  · rw [if_pos h]; simp [show b ≤ a from h]
  · rw [if_neg h]; simp [show ¬ b ≤ a from h]

-- block w64
theorem w64 {x : Int} (h : -9223372036854775808 ≤ x ∧ x ≤ 9223372036854775807) : wrap64 x = x := by
  unfold wrap64; omega

-- block l1All
theorem l1All_l0 (lo hi : Int) (l : List Int) (hl : l.length ≤ 1000000000) (d : Nat) : ∀ (k i : Nat), i + d = l.length → d < k → spec_l1All.l0 k lo hi l l.length i = some ((l.drop i).all fun n => decide (lo ≤ n ∧ n ≤ hi)) := by
  induction d with
  | zero =>
    intro k i hd hk
    obtain ⟨k, rfl⟩ : ∃ m, k = m + 1 := ⟨k - 1, by omega⟩
    simp only [spec_l1All.l0]; rw [if_neg (by omega), List.drop_eq_nil_of_le (by omega)]; rfl
  | succ d ih =>
    intro k i hd hk
    obtain ⟨k, rfl⟩ : ∃ m, k = m + 1 := ⟨k - 1, by omega⟩
    simp only [spec_l1All.l0]
    have h : i < l.length := by omega
    have e : rd l i = l[i] := by simp [rd, List.getD_eq_getElem?_getD, List.getElem?_eq_getElem h]
    rw [if_pos (by omega), if_pos (by omega), if_pos (by omega), l1In_eq, Option.bind_some, List.drop_eq_getElem_cons h, e, List.all_cons]
    by_cases g : lo ≤ l[i] ∧ l[i] ≤ hi
    · rw [if_pos (decide_eq_true g), w64 (by omega), decide_eq_true g, Bool.true_and]
      exact ih k (i + 1) (by omega) (by omega)
    · rw [if_neg (by simpa using g), decide_eq_false g, Bool.false_and]
theorem l1All_eq {k : Nat} {l : List Int} (lo hi : Int) (hl : l.length ≤ 1000000000) (hk : l.length < k) : spec_l1All.f k l lo hi = some (l.all fun n => decide (lo ≤ n ∧ n ≤ hi)) := by
  unfold spec_l1All.f
  exact l1All_l0 lo hi l hl l.length k 0 (by omega) (by omega)

-- block hofAny
theorem hofAny_eq (q : Int → Option Bool) (p : Int → Bool) (h : ∀ n, q n = some (p n)) (l : List Int) : hofAny q l = some (l.any p) := by
  induction l with
  | nil => rfl
  | cons x xs ih =>
    unfold hofAny
    rw [h x, Option.bind_some, ih]
    cases hp : p x
    · rw [if_neg (by decide)]; simp [hp]
    · rw [if_pos rfl]; simp [hp]

-- block toIntS
theorem toIntS_l0 (l : List Int) (hl : l.length ≤ 1048576) (d : Nat) : ∀ (k i : Nat) (m : List Int), i + d = l.length → d < k → m.length = d → laws_toIntS.l0 k l (l.take i ++ m) i = some l := by
  induction d with
  | zero =>
    intro k i m hd hk hm
    obtain ⟨k, rfl⟩ : ∃ n, k = n + 1 := ⟨k - 1, by omega⟩
    obtain rfl := List.eq_nil_of_length_eq_zero hm
    simp only [laws_toIntS.l0]; rw [if_neg (by omega), List.take_of_length_le (by omega), List.append_nil]
  | succ d ih =>
    intro k i m hd hk hm
    obtain ⟨k, rfl⟩ : ∃ n, k = n + 1 := ⟨k - 1, by omega⟩
    obtain ⟨x, m, rfl⟩ : ∃ x p, m = x :: p := by
      cases m with
      | nil => simp at hm
      | cons x p => exact ⟨x, p, rfl⟩
    simp only [laws_toIntS.l0]
    have hi : i < l.length := by omega
    have hlen : (l.take i ++ x :: m).length = l.length := by simp at hm ⊢; omega
    have e : (l.take i ++ x :: m).set (i : Int).toNat (rd l i) = l.take (i + 1) ++ m := by
      have ht : (l.take i).length = i := by simp; omega
      rw [Int.toNat_natCast, List.set_append_right _ _ (by omega), ht, Nat.sub_self, List.set_cons_zero, List.take_succ_eq_append_getElem hi, List.append_assoc]
      simp [rd, List.getD_eq_getElem?_getD, List.getElem?_eq_getElem hi]
    rw [if_pos (by omega), if_pos (by omega), if_pos (by omega), e, w64 (by omega)]
    exact ih k (i + 1) m (by omega) (by omega) (by simpa using hm)
theorem toIntS_eq {k : Nat} {l : List Int} (hl : l.length ≤ 1048576) (hk : 1048576 < k) : laws_toIntS.f k l = some l := by
  unfold laws_toIntS.f
  rw [if_pos (by omega), if_pos (by omega)]
  have := toIntS_l0 l hl l.length k 0 (List.replicate l.length 0) (by omega) (by omega) (by simp)
  simpa using this

-- block eqIntS
theorem eqIntS_l0 (l : List Int) (hl : l.length ≤ 1000000000) (d : Nat) : ∀ (k i : Nat), i + d = l.length → d < k → laws_eqIntS.l0 k l l i = some true := by
  induction d with
  | zero =>
    intro k i hd hk
    obtain ⟨k, rfl⟩ : ∃ m, k = m + 1 := ⟨k - 1, by omega⟩
    simp only [laws_eqIntS.l0]; rw [if_neg (by omega)]
  | succ d ih =>
    intro k i hd hk
    obtain ⟨k, rfl⟩ : ∃ m, k = m + 1 := ⟨k - 1, by omega⟩
    simp only [laws_eqIntS.l0]
    rw [if_pos (by omega), if_pos (by omega), if_pos (by omega), if_pos trivial, w64 (by omega)]
    exact ih k (i + 1) (by omega) (by omega)
theorem eqIntS_self {k : Nat} {l : List Int} (hl : l.length ≤ 1000000000) (hk : l.length < k) : laws_eqIntS.f k l l = some true := by
  unfold laws_eqIntS.f
  rw [if_pos rfl, show (0 : Int) = ((0 : Nat) : Int) from rfl, eqIntS_l0 l hl l.length k 0 (by omega) hk]

-- block marks
def ups (a : Int) (n : Nat) : List Int := (List.range n).map fun i : Nat => a + (i : Int)
theorem ups_length (a : Int) (n : Nat) : (ups a n).length = n := by simp [ups]
theorem ups_succ (a : Int) (n : Nat) : ups a (n + 1) = ups a n ++ [a + n] := by simp [ups, List.range_succ]
theorem rd_ups (a : Int) (n i : Nat) (h : i < n) : rd (ups a n) i = a + i := by
  unfold rd ups
  rw [List.getD_eq_getElem?_getD, Int.toNat_natCast, List.getElem?_map, List.getElem?_range h]; rfl
theorem markIntS_l0 (a : Int) (ha : 0 ≤ a) (d : Nat) : ∀ (k i : Nat) (post : List Int), post.length = d → a + i + d ≤ 4000000000000 → d < k →
    laws_markIntS.l0 k (ups a i ++ post) (a + i) i = some (a + i + d, ups a (i + d)) := by
  induction d with
  | zero =>
    intro k i post hp hb hk
    obtain ⟨k, rfl⟩ : ∃ m, k = m + 1 := ⟨k - 1, by omega⟩
    obtain rfl := List.eq_nil_of_length_eq_zero hp
    simp only [laws_markIntS.l0]
    rw [if_neg (by simp [ups_length])]
    simp
  | succ d ih =>
    intro k i post hp hb hk
    obtain ⟨k, rfl⟩ : ∃ m, k = m + 1 := ⟨k - 1, by omega⟩
    obtain ⟨x, post, rfl⟩ : ∃ x p, post = x :: p := by
      cases post with
      | nil => simp at hp
      | cons x p => exact ⟨x, p, rfl⟩
    simp only [laws_markIntS.l0]
    rw [if_pos (by simp [ups_length]; omega), if_pos (by omega), w64 (by omega), w64 (by omega)]
    have e : (ups a i ++ x :: post).set (i : Int).toNat (a + i) = ups a (i + 1) ++ post := by
      rw [Int.toNat_natCast, List.set_append_right _ _ (by simp [ups_length]), ups_length, Nat.sub_self, List.set_cons_zero, ups_succ, List.append_assoc]; rfl
    rw [e, show a + (i : Int) + 1 = a + ((i + 1 : Nat) : Int) from by omega, show (i : Int) + 1 = ((i + 1 : Nat) : Int) from rfl]
    rw [ih k (i + 1) post (by simpa using hp) (by omega) (by omega)]
    rw [show i + 1 + d = i + (d + 1) from by omega]
    congr 2; omega
theorem markIntS_eq {k : Nat} {l : List Int} {a : Int} (ha : 0 ≤ a) (hb : a + l.length ≤ 4000000000000) (hk : l.length < k) : laws_markIntS.f k l a = some (a + l.length, ups a l.length) := by
  unfold laws_markIntS.f
  have := markIntS_l0 a ha l.length k 0 l rfl (by omega) hk
  simpa [ups] using this
theorem heldIntS_l0 (a : Int) (ha : 0 ≤ a) (n : Nat) (hb : a + n ≤ 4000000000000) (d : Nat) : ∀ (k i : Nat), i + d = n → d < k → laws_heldIntS.l0 k (ups a n) (a + i) i = some (a + n) := by
  induction d with
  | zero =>
    intro k i hd hk
    obtain ⟨k, rfl⟩ : ∃ m, k = m + 1 := ⟨k - 1, by omega⟩
    simp only [laws_heldIntS.l0]
    rw [if_neg (by rw [ups_length]; omega)]
    congr 1; omega
  | succ d ih =>
    intro k i hd hk
    obtain ⟨k, rfl⟩ : ∃ m, k = m + 1 := ⟨k - 1, by omega⟩
    simp only [laws_heldIntS.l0]
    rw [if_pos (by rw [ups_length]; omega), if_pos (by omega), rd_ups _ _ _ (by omega), if_pos rfl, w64 (by omega), w64 (by omega)]
    rw [show a + (i : Int) + 1 = a + ((i + 1 : Nat) : Int) from by omega, show (i : Int) + 1 = ((i + 1 : Nat) : Int) from rfl]
    exact ih k (i + 1) (by omega) (by omega)
theorem heldIntS_eq {k n : Nat} {a : Int} (ha : 0 ≤ a) (hb : a + n ≤ 4000000000000) (hk : n < k) : laws_heldIntS.f k (ups a n) a = some (a + n) := by
  unfold laws_heldIntS.f
  have := heldIntS_l0 a ha n hb n k 0 (by omega) hk
  simpa using this

theorem joins_l0 (l : List Int) (hl : l.length ≤ 100) (d : Nat) : ∀ (k i : Nat) (acc : List Int), i + d = l.length → d < k → 0 < i → acc.length ≤ i →
    ∃ r, spec_JoinsOfPlan.l0 k l acc i = some (r, true) ∧ impl_JoinsOfPlan.l0 k l acc i = some (r, true) ∧ r.length ≤ 100 := by
  induction d with
  | zero =>
    intro k i acc hd hk hi ha
    obtain ⟨k, rfl⟩ : ∃ m, k = m + 1 := ⟨k - 1, by omega⟩
    simp only [spec_JoinsOfPlan.l0, impl_JoinsOfPlan.l0]
    exact ⟨acc, by rw [if_neg (by omega)], by rw [if_neg (by omega)], by omega⟩
  | succ d ih =>
    intro k i acc hd hk hi ha
    obtain ⟨k, rfl⟩ : ∃ m, k = m + 1 := ⟨k - 1, by omega⟩
    simp only [spec_JoinsOfPlan.l0, impl_JoinsOfPlan.l0]
    rw [w64 (x := (i : Int) + 1) (by omega), w64 (x := (i : Int) - 1) (by omega)]
    by_cases h : rd l i = rd l ((i : Int) - 1)
    · obtain ⟨r, h1, h2, h3⟩ := ih k (i + 1) acc (by omega) (by omega) (by omega) (by omega)
      refine ⟨r, ?_, ?_, h3⟩
      · rw [if_pos (by omega), if_pos (by omega), if_pos (by omega), if_pos (by omega), if_pos h]; exact h1
      · rw [if_pos (by omega), if_pos (by omega), if_pos (by omega), if_pos (by omega), if_pos h]; exact h2
    · obtain ⟨r, h1, h2, h3⟩ := ih k (i + 1) (acc ++ [(i : Int) + 1]) (by omega) (by omega) (by omega) (by simp; omega)
      refine ⟨r, ?_, ?_, h3⟩
      · rw [if_pos (by omega), if_pos (by omega), if_pos (by omega), if_pos (by omega), if_neg h, if_pos (by omega)]; exact h1
      · rw [if_pos (by omega), if_pos (by omega), if_pos (by omega), if_pos (by omega), if_neg h, if_pos (by omega)]; exact h2
theorem joins_eq {k : Nat} (hk : 1000 < k) (l : List Int) (hl : l.length ≤ 1048576) : ∃ r, spec_JoinsOfPlan.f k l = some r ∧ impl_JoinsOfPlan.f k l = some r ∧ r.1.length ≤ 100 := by
  obtain ⟨k, rfl⟩ : ∃ m, k = m + 1 := ⟨k - 1, by omega⟩
  unfold spec_JoinsOfPlan.f impl_JoinsOfPlan.f
  have hc : ∀ n, impl_JoinsOfPlan_1.f n = some (!decide (0 ≤ n ∧ n ≤ 7)) := fun n => by unfold impl_JoinsOfPlan_1.f; rw [within_eq]; rfl
  have hh := hofAny_eq _ _ hc l
  rw [l1In_eq, isCover_eq, Option.bind_some, Option.bind_some]
  by_cases h : 1 ≤ (l.length : Int) ∧ (l.length : Int) ≤ 100
  · rw [if_pos (decide_eq_true h), if_pos (decide_eq_true h), l1All_eq _ _ (by omega) (by omega)]
    have hcf : ∀ v, v = Value.func (Fn.func 66) #[] #[] → slices_ContainsFunc_int_int.f l v = some (!l.all fun n => decide (0 ≤ n ∧ n ≤ 7)) := by
      rintro v rfl
      simp only [slices_ContainsFunc_int_int.f, Array.size_empty, and_self, if_true]
      simp [hh, List.not_all_eq_any_not]
    rw [hcf _ rfl, Option.bind_some, Option.bind_some, spec_JoinsOfPlan.j0, impl_JoinsOfPlan.j0]
    cases l.all fun n => decide (0 ≤ n ∧ n ≤ 7)
    · rw [if_pos (by decide), if_pos (by decide)]; exact ⟨_, rfl, rfl, by simp⟩
    · obtain ⟨r, h1, h2, h3⟩ := joins_l0 l (by omega) (l.length - 1) k 1 [] (by omega) (by omega) (by omega) (by simp)
      rw [if_neg (by decide), if_neg (by decide)]; exact ⟨_, h1, h2, h3⟩
  · rw [if_neg (by simpa using h), if_neg (by simpa using h), spec_JoinsOfPlan.j0, impl_JoinsOfPlan.j0, if_pos rfl, if_pos rfl]
    exact ⟨_, rfl, rfl, by simp⟩
theorem FnExactJoinsOfPlan : laws_FnExactJoinsOfPlan.Pure := by
  intro l _ _ _
  obtain ⟨k, hk⟩ : ∃ k, 1048578 < k := ⟨1048579, by omega⟩
  refine ⟨k + 3, ?_⟩
  unfold laws_FnExactJoinsOfPlan.f
  by_cases hs : (l.length : Int) > 1048576
  · rw [if_pos hs]
  · obtain ⟨r, h1, h2, hl⟩ := joins_eq (k := k + 3) (by omega) l (by omega)
    obtain ⟨r', h1', h2', -⟩ := joins_eq (k := k + 1) (by omega) l (by omega)
    have e : r' = r := by
      have m := impl_JoinsOfPlan.mono l (k + 1 + 1) _ (impl_JoinsOfPlan.mono l (k + 1) _ h2')
      rw [h2] at m; exact (Option.some.inj m).symm
    subst e
    rw [if_neg hs, toIntS_eq (by omega) (by omega), Option.bind_some, h1, Option.bind_some, Option.bind_some, h2, Option.bind_some, eqIntS_self (by omega) (by omega), Option.bind_some, if_pos rfl, laws_FnExactJoinsOfPlan.j0, if_neg (by simp), toIntS_eq (by omega) (by omega), Option.bind_some, eqIntS_self (by omega) (by omega), Option.bind_some, if_pos rfl, markIntS_eq (by omega) (by omega) (by omega), Option.bind_some]
    rw [if_neg (by omega), eqIntS_self (by omega) (by omega), Option.bind_some, if_pos rfl, laws_FnExactJoinsOfPlan.j1, if_neg (by simp), markIntS_eq (by omega) (by omega) (by omega), Option.bind_some, heldIntS_eq (by omega) (by omega) (by omega), Option.bind_some, if_neg (by omega), if_pos rfl, toIntS_eq (by omega) (by omega), Option.bind_some, h2', Option.bind_some, eqIntS_self (by omega) (by omega), Option.bind_some, if_pos rfl, laws_FnExactJoinsOfPlan.j2, if_neg (by simp), heldIntS_eq (by omega) (by omega) (by omega), Option.bind_some, if_neg (by omega), if_pos rfl]

end Go.Proofs.Ytojcdkiopdcdoaa.Pure
