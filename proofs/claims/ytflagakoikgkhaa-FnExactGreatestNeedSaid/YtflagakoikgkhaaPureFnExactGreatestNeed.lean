/- The program's GreatestNeed returns what the reference's returns, for all arguments. No condition. -/
import Derived.Test.YtflagakoikgkhaaPFnExactGreatestNeedx2
namespace Go.Proofs.Ytflagakoikgkhaa.Pure
open Go.RowKit Go.Proofs.Ytflagakoikgkhaa.PFnExactGreatestNeed Go.Proofs.YtflagakoikgkhaaW.PrintWords Go.Proofs.YtflagakoikgkhaaW.PrintLast Go.Proofs.YtflagakoikgkhaaW.PrintMore
set_option linter.unusedVariables false
set_option linter.unusedSimpArgs false

-- block l1In
theorem l1In_eq (a b c : Int) : spec_l1In.f a b c = some (decide (b ≤ a ∧ a ≤ c)) := by
  unfold spec_l1In.f
  by_cases h : a ≥ b
  · rw [if_pos h]; simp [show b ≤ a from h]
  · rw [if_neg h]; simp [show ¬ b ≤ a from h]

-- block w64
theorem w64 {x : Int} (h : -9223372036854775808 ≤ x ∧ x ≤ 9223372036854775807) : wrap64 x = x := by
  unfold wrap64; omega

-- block l1All
theorem l1All_l0 (lo hi : Int) (l : List Int) (hl : l.length ≤ 1000000000) (d : Nat) : ∀ (k i : Nat), i + d = l.length → d < k → spec_l1All.l0 k lo hi l l.length i = some ((l.drop i).all fun n => decide (lo ≤ n ∧ n ≤ hi)) := by
  induction d with
  | zero =>
    intro k i hd hk
    obtain ⟨k, rfl⟩ : ∃ m, k = m + 1 := ⟨k - 1, by omega⟩
    simp only [spec_l1All.l0]; rw [if_neg (by omega), List.drop_eq_nil_of_le (by omega)]; rfl
  | succ d ih =>
    intro k i hd hk
    obtain ⟨k, rfl⟩ : ∃ m, k = m + 1 := ⟨k - 1, by omega⟩
    simp only [spec_l1All.l0]
    have h : i < l.length := by omega
    have e : rd l i = l[i] := by simp [rd, List.getD_eq_getElem?_getD, List.getElem?_eq_getElem h]
    rw [if_pos (by omega), if_pos (by omega), if_pos (by omega), l1In_eq, Option.bind_some, List.drop_eq_getElem_cons h, e, List.all_cons]
    by_cases g : lo ≤ l[i] ∧ l[i] ≤ hi
    · rw [if_pos (decide_eq_true g), w64 (by omega), decide_eq_true g, Bool.true_and]
      exact ih k (i + 1) (by omega) (by omega)
    · rw [if_neg (by simpa using g), decide_eq_false g, Bool.false_and]
theorem l1All_eq {k : Nat} {l : List Int} (lo hi : Int) (hl : l.length ≤ 1000000000) (hk : l.length < k) : spec_l1All.f k l lo hi = some (l.all fun n => decide (lo ≤ n ∧ n ≤ hi)) := by
  unfold spec_l1All.f
  exact l1All_l0 lo hi l hl l.length k 0 (by omega) (by omega)

-- block within
theorem within_eq (a b c : Int) : impl_within.f a b c = some (decide (b ≤ a ∧ a ≤ c)) := by
  unfold impl_within.f
  by_cases h : b ≤ a
  · rw [if_pos h]; simp [h]
  · rw [if_neg h]; simp [h]

-- block isRoll
theorem isRoll_eq (a : Int) : impl_isRoll.f a = some (decide (1 ≤ a ∧ a ≤ 2000)) := by
  unfold impl_isRoll.f; rw [within_eq]; rfl

-- block hofAny
theorem hofAny_eq (q : Int → Option Bool) (p : Int → Bool) (h : ∀ n, q n = some (p n)) (l : List Int) : hofAny q l = some (l.any p) := by
  induction l with
  | nil => rfl
  | cons x xs ih =>
    unfold hofAny
    rw [h x, Option.bind_some, ih]
    cases hp : p x
    · rw [if_neg (by decide)]; simp [hp]
    · rw [if_pos rfl]; simp [hp]

-- block rolls
def rollsB (l : List Int) : Bool := decide (1 ≤ l.length ∧ l.length ≤ 8) && l.all fun n => decide (1 ≤ n ∧ n ≤ 2000)
theorem AreRolls_eq (l : List Int) : impl_AreRolls.f l = some (rollsB l) := by
  unfold impl_AreRolls.f rollsB
  have hc : ∀ n, impl_AreRolls_1.f n = some (!decide (1 ≤ n ∧ n ≤ 2000)) := fun n => by unfold impl_AreRolls_1.f; rw [isRoll_eq]; rfl
  have hh := hofAny_eq _ _ hc l
  rw [within_eq, Option.bind_some]
  by_cases h : 1 ≤ l.length ∧ l.length ≤ 8
  · rw [if_pos (by simp; omega), decide_eq_true h, Bool.true_and]
    simp only [slices_ContainsFunc_int_int.f, Array.size_empty, and_self, if_true]
    simp [hh, List.not_any_eq_all_not]
  · rw [if_neg (by simp; omega), decide_eq_false h, Bool.false_and]
theorem cpRolls_eq {k : Nat} {l : List Int} (hk : 30 < k) : spec_cpRolls.f k l = some (rollsB l) := by
  unfold spec_cpRolls.f rollsB
  rw [l1In_eq, Option.bind_some]
  by_cases h : 1 ≤ l.length ∧ l.length ≤ 8
  · rw [if_pos (by simp; omega), l1All_eq _ _ (by omega) (by omega), decide_eq_true h, Bool.true_and, Option.bind_some]
  · rw [if_neg (by simp; omega), decide_eq_false h, Bool.false_and]
theorem rollsB_true {l : List Int} (h : rollsB l = true) : (1 ≤ l.length ∧ l.length ≤ 8) ∧ ∀ x ∈ l, 1 ≤ x ∧ x ≤ 2000 := by
  unfold rollsB at h
  rw [Bool.and_eq_true, decide_eq_true_eq, List.all_eq_true] at h
  exact ⟨h.1, fun x hx => by simpa using h.2 x hx⟩

-- block covers
def covF (b : Int) : List Int → Int → Int
  | [], a => a
  | x :: xs, a => covF b xs (wrap64 (a + wrap64 (Int.tdiv x b)))
theorem rd_at (l : List Int) (i : Nat) (h : i < l.length) : rd l i = l[i] := by simp [rd, List.getD_eq_getElem?_getD, List.getElem?_eq_getElem h]
theorem covers_l0 (b : Int) (hb : b ≠ 0) (l : List Int) (hl : l.length ≤ 1048576) (d : Nat) : ∀ (k i : Nat) (a : Int), i + d = l.length → d < k → impl_covers.l0 k b a l l.length i = some (covF b (l.drop i) a) := by
  induction d with
  | zero =>
    intro k i a hd hk
    obtain ⟨k, rfl⟩ : ∃ m, k = m + 1 := ⟨k - 1, by omega⟩
    simp only [impl_covers.l0]; rw [if_neg (by omega), List.drop_eq_nil_of_le (by omega)]; rfl
  | succ d ih =>
    intro k i a hd hk
    obtain ⟨k, rfl⟩ : ∃ m, k = m + 1 := ⟨k - 1, by omega⟩
    simp only [impl_covers.l0]
    have h : i < l.length := by omega
    rw [if_pos (by omega), if_pos (by omega), if_pos (by omega), if_neg hb, rd_at l i h, w64 (x := (i : Int) + 1) (by omega), List.drop_eq_getElem_cons h, covF]
    exact ih k (i + 1) _ (by omega) (by omega)
theorem covers_eq {k : Nat} {l : List Int} {b : Int} (hb : b ≠ 0) (hl : l.length ≤ 1048576) (hk : l.length < k) : impl_covers.f k l b = some (covF b l 0) := by
  unfold impl_covers.f
  exact covers_l0 b hb l hl l.length k 0 0 (by omega) hk

-- block cpSum
theorem cpSum_l0 (b : Int) (hb : b ≠ 0) (l : List Int) (hl : l.length ≤ 1048576) (d : Nat) : ∀ (k i : Nat) (a : Int), i + d = l.length → d < k → spec_cpSum.l0 k b a l l.length i = some (covF b (l.drop i) a) := by
  induction d with
  | zero =>
    intro k i a hd hk
    obtain ⟨k, rfl⟩ : ∃ m, k = m + 1 := ⟨k - 1, by omega⟩
    simp only [spec_cpSum.l0]; rw [if_neg (by omega), List.drop_eq_nil_of_le (by omega)]; rfl
  | succ d ih =>
    intro k i a hd hk
    obtain ⟨k, rfl⟩ : ∃ m, k = m + 1 := ⟨k - 1, by omega⟩
    simp only [spec_cpSum.l0]
    have h : i < l.length := by omega
    rw [if_pos (by omega), if_pos (by omega), if_pos (by omega), if_neg hb, rd_at l i h, w64 (x := (i : Int) + 1) (by omega), List.drop_eq_getElem_cons h, covF]
    exact ih k (i + 1) _ (by omega) (by omega)
theorem cpSum_eq {k : Nat} {l : List Int} {b : Int} (hb : b ≠ 0) (hl : l.length ≤ 1048576) (hk : l.length < k) : spec_cpSum.f k l b = some (covF b l 0) := by
  unfold spec_cpSum.f
  exact cpSum_l0 b hb l hl l.length k 0 0 (by omega) hk

-- block isCover
theorem isCover_eq (a : Int) : impl_isCover.f a = some (decide (1 ≤ a ∧ a ≤ 100)) := by
  unfold impl_isCover.f; rw [within_eq]; rfl

-- block toIntS
theorem toIntS_l0 (l : List Int) (hl : l.length ≤ 1048576) (d : Nat) : ∀ (k i : Nat) (m : List Int), i + d = l.length → d < k → m.length = d → laws_toIntS.l0 k l (l.take i ++ m) i = some l := by
  induction d with
  | zero =>
    intro k i m hd hk hm
    obtain ⟨k, rfl⟩ : ∃ n, k = n + 1 := ⟨k - 1, by omega⟩
    obtain rfl := List.eq_nil_of_length_eq_zero hm
    simp only [laws_toIntS.l0]; rw [if_neg (by omega), List.take_of_length_le (by omega), List.append_nil]
  | succ d ih =>
    intro k i m hd hk hm
    obtain ⟨k, rfl⟩ : ∃ n, k = n + 1 := ⟨k - 1, by omega⟩
    obtain ⟨x, m, rfl⟩ : ∃ x p, m = x :: p := by
      cases m with
      | nil => simp at hm
      | cons x p => exact ⟨x, p, rfl⟩
    simp only [laws_toIntS.l0]
    have hi : i < l.length := by omega
    have hlen : (l.take i ++ x :: m).length = l.length := by simp at hm ⊢; omega
    have e : (l.take i ++ x :: m).set (i : Int).toNat (rd l i) = l.take (i + 1) ++ m := by
      have ht : (l.take i).length = i := by simp; omega
      rw [Int.toNat_natCast, List.set_append_right _ _ (by omega), ht, Nat.sub_self, List.set_cons_zero, List.take_succ_eq_append_getElem hi, List.append_assoc]
      simp [rd, List.getD_eq_getElem?_getD, List.getElem?_eq_getElem hi]
    rw [if_pos (by omega), if_pos (by omega), if_pos (by omega), e, w64 (by omega)]
    exact ih k (i + 1) m (by omega) (by omega) (by simpa using hm)
theorem toIntS_eq {k : Nat} {l : List Int} (hl : l.length ≤ 1048576) (hk : 1048576 < k) : laws_toIntS.f k l = some l := by
  unfold laws_toIntS.f
  rw [if_pos (by omega), if_pos (by omega)]
  have := toIntS_l0 l hl l.length k 0 (List.replicate l.length 0) (by omega) (by omega) (by simp)
  simpa using this

-- block eqIntS
theorem eqIntS_l0 (l : List Int) (hl : l.length ≤ 1000000000) (d : Nat) : ∀ (k i : Nat), i + d = l.length → d < k → laws_eqIntS.l0 k l l i = some true := by
  induction d with
  | zero =>
    intro k i hd hk
    obtain ⟨k, rfl⟩ : ∃ m, k = m + 1 := ⟨k - 1, by omega⟩
    simp only [laws_eqIntS.l0]; rw [if_neg (by omega)]
  | succ d ih =>
    intro k i hd hk
    obtain ⟨k, rfl⟩ : ∃ m, k = m + 1 := ⟨k - 1, by omega⟩
    simp only [laws_eqIntS.l0]
    rw [if_pos (by omega), if_pos (by omega), if_pos (by omega), if_pos trivial, w64 (by omega)]
    exact ih k (i + 1) (by omega) (by omega)
theorem eqIntS_self {k : Nat} {l : List Int} (hl : l.length ≤ 1000000000) (hk : l.length < k) : laws_eqIntS.f k l l = some true := by
  unfold laws_eqIntS.f
  rw [if_pos rfl, show (0 : Int) = ((0 : Nat) : Int) from rfl, eqIntS_l0 l hl l.length k 0 (by omega) hk]

theorem great_l0 (l : List Int) (hl : l.length ≤ 8) (s : Int) (d : Nat) : ∀ (k : Nat), d + 100 < k → d ≤ 1000 →
    ∃ r, spec_GreatestNeed.l0 k l s d = some r ∧ impl_GreatestNeed.l0 k l s d = some r := by
  induction d with
  | zero =>
    intro k hk _
    obtain ⟨k, rfl⟩ : ∃ m, k = m + 1 := ⟨k - 1, by omega⟩
    simp only [spec_GreatestNeed.l0, impl_GreatestNeed.l0]
    exact ⟨_, by rw [if_neg (by omega)], by rw [if_neg (by omega)]⟩
  | succ d ih =>
    intro k hk hd
    obtain ⟨k, rfl⟩ : ∃ m, k = m + 1 := ⟨k - 1, by omega⟩
    simp only [spec_GreatestNeed.l0, impl_GreatestNeed.l0]
    rw [cpSum_eq (by omega) (by omega) (by omega), covers_eq (by omega) (by omega) (by omega), Option.bind_some, Option.bind_some]
    by_cases h : covF ((d + 1 : Nat) : Int) l 0 ≥ s
    · exact ⟨_, by rw [if_pos (by omega), if_pos h], by rw [if_pos (by omega), if_pos h]⟩
    · obtain ⟨r, h1, h2⟩ := ih k (by omega) (by omega)
      have e : wrap64 (((d + 1 : Nat) : Int) - 1) = (d : Int) := by rw [w64 (by omega)]; omega
      exact ⟨r, by rw [if_pos (by omega), if_neg h, e]; exact h1, by rw [if_pos (by omega), if_neg h, e]; exact h2⟩
theorem GreatestNeed_eq {k : Nat} (hk : 3000 < k) (l : List Int) (hl : l.length ≤ 1048576) (s : Int) : ∃ r, spec_GreatestNeed.f k l s = some r ∧ impl_GreatestNeed.f k l s = some r := by
  unfold spec_GreatestNeed.f impl_GreatestNeed.f
  rw [cpRolls_eq (by omega), AreRolls_eq, Option.bind_some, Option.bind_some]
  obtain ⟨k, rfl⟩ : ∃ m, k = m + 1 := ⟨k - 1, by omega⟩
  by_cases h : rollsB l = true
  · have g := rollsB_true h
    rw [if_pos h, if_pos h, l1In_eq, isCover_eq, Option.bind_some, Option.bind_some, spec_GreatestNeed.j0, impl_GreatestNeed.j0]
    by_cases c : 1 ≤ s ∧ s ≤ 100
    · rw [if_neg (by simp; omega), if_neg (by simp; omega)]
      exact great_l0 l (by omega) s 100 k (by omega) (by omega)
    · rw [if_pos (by simp; omega), if_pos (by simp; omega)]; exact ⟨_, rfl, rfl⟩
  · rw [if_neg h, if_neg h, spec_GreatestNeed.j0, impl_GreatestNeed.j0, if_pos rfl, if_pos rfl]; exact ⟨_, rfl, rfl⟩
theorem FnExactGreatestNeed : laws_FnExactGreatestNeed.Pure := by
  intro l s _ _ _ _ 
  obtain ⟨k, hk⟩ : ∃ k, 2000000 < k := ⟨2000001, by omega⟩
  refine ⟨k + 1, ?_⟩
  unfold laws_FnExactGreatestNeed.f
  by_cases hs : (l.length : Int) > 1048576
  · rw [if_pos hs]
  · obtain ⟨r, h1, h2⟩ := GreatestNeed_eq (k := k + 1) (by omega) l (by omega) s
    rw [if_neg hs, toIntS_eq (by omega) (by omega), Option.bind_some, h1, Option.bind_some, Option.bind_some, h2, Option.bind_some, if_pos rfl, laws_FnExactGreatestNeed.j0, if_neg (by simp), toIntS_eq (by omega) (by omega), Option.bind_some, eqIntS_self (by omega) (by omega), Option.bind_some, if_pos rfl]

end Go.Proofs.Ytflagakoikgkhaa.Pure
