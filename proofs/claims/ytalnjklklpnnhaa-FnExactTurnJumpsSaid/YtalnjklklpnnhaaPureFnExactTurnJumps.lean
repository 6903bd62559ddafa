/- The program's TurnJumps returns what the reference's returns, for all arguments. No condition. -/
import Derived.Test.YtalnjklklpnnhaaPFnExactTurnJumpsx3
namespace Go.Proofs.Ytalnjklklpnnhaa.Pure
open Go.RowKit Go.Proofs.Ytalnjklklpnnhaa.PFnExactTurnJumps Go.Proofs.YtalnjklklpnnhaaW.PrintWords Go.Proofs.YtalnjklklpnnhaaW.PrintLast Go.Proofs.YtalnjklklpnnhaaW.PrintMore
set_option linter.unusedVariables false
set_option linter.unusedSimpArgs false

-- block l1In
theorem l1In_eq (a b c : Int) : spec_l1In.f a b c = some (decide (b ≤ a ∧ a ≤ c)) := by
  unfold spec_l1In.f
  by_cases h : a ≥ b
  · rw [if_pos h]; simp [show b ≤ a from h]
  · rw [if_neg h]; simp [show ¬ b ≤ a from h]

-- block w64
theorem w64 {x : Int} (h : -9223372036854775808 ≤ x ∧ x ≤ 9223372036854775807) : wrap64 x = x := by
  unfold wrap64; omega

-- block l1All
theorem l1All_l0 (lo hi : Int) (l : List Int) (hl : l.length ≤ 1000000000) (d : Nat) : ∀ (k i : Nat), i + d = l.length → d < k → spec_l1All.l0 k lo hi l l.length i = some ((l.drop i).all fun n => decide (lo ≤ n ∧ n ≤ hi)) := by
  induction d with
  | zero =>
    intro k i hd hk
    obtain ⟨k, rfl⟩ : ∃ m, k = m + 1 := ⟨k - 1, by omega⟩
    simp only [spec_l1All.l0]; rw [if_neg (by omega), List.drop_eq_nil_of_le (by omega)]; rfl
  | succ d ih =>
    intro k i hd hk
    obtain ⟨k, rfl⟩ : ∃ m, k = m + 1 := ⟨k - 1, by omega⟩
    simp only [spec_l1All.l0]
    have h : i < l.length := by omega
    have e : rd l i = l[i] := by simp [rd, List.getD_eq_getElem?_getD, List.getElem?_eq_getElem h]
    rw [if_pos (by omega), if_pos (by omega), if_pos (by omega), l1In_eq, Option.bind_some, List.drop_eq_getElem_cons h, e, List.all_cons]
    by_cases g : lo ≤ l[i] ∧ l[i] ≤ hi
    · rw [if_pos (decide_eq_true g), w64 (by omega), decide_eq_true g, Bool.true_and]
      exact ih k (i + 1) (by omega) (by omega)
    · rw [if_neg (by simpa using g), decide_eq_false g, Bool.false_and]
theorem l1All_eq {k : Nat} {l : List Int} (lo hi : Int) (hl : l.length ≤ 1000000000) (hk : l.length < k) : spec_l1All.f k l lo hi = some (l.all fun n => decide (lo ≤ n ∧ n ≤ hi)) := by
  unfold spec_l1All.f
  exact l1All_l0 lo hi l hl l.length k 0 (by omega) (by omega)

-- block within
theorem within_eq (a b c : Int) : impl_within.f a b c = some (decide (b ≤ a ∧ a ≤ c)) := by
  unfold impl_within.f
  by_cases h : b ≤ a
  · rw [if_pos h]; simp [h]
  · rw [if_neg h]; simp [h]

-- block hofAny
theorem hofAny_eq (q : Int → Option Bool) (p : Int → Bool) (h : ∀ n, q n = some (p n)) (l : List Int) : hofAny q l = some (l.any p) := by
  induction l with
  | nil => rfl
  | cons x xs ih =>
    unfold hofAny
    rw [h x, Option.bind_some, ih]
    cases hp : p x
    · rw [if_neg (by decide)]; simp [hp]
    · rw [if_pos rfl]; simp [hp]

-- block jumps
def jumpsB (l : List Int) : Bool := decide (1 ≤ l.length ∧ l.length ≤ 30) && l.all fun n => decide (-30 ≤ n ∧ n ≤ 30)
theorem AreJumps_eq (l : List Int) : impl_AreJumps.f l = some (jumpsB l) := by
  unfold impl_AreJumps.f jumpsB
  have hc : ∀ n, impl_AreJumps_1.f n = some (!decide (-30 ≤ n ∧ n ≤ 30)) := fun n => by unfold impl_AreJumps_1.f; rw [within_eq]; rfl
  have hh := hofAny_eq _ _ hc l
  rw [within_eq, Option.bind_some]
  by_cases h : 1 ≤ l.length ∧ l.length ≤ 30
  · rw [if_pos (by simp; omega), decide_eq_true h, Bool.true_and]
    simp only [slices_ContainsFunc_int_int.f, Array.size_empty, and_self, if_true]
    simp [hh, List.not_any_eq_all_not]
  · rw [if_neg (by simp; omega), decide_eq_false h, Bool.false_and]
theorem baGood_eq {k : Nat} {l : List Int} (hk : 30 < k) : spec_baGood.f k l = some (jumpsB l) := by
  unfold spec_baGood.f jumpsB
  rw [l1In_eq, Option.bind_some]
  by_cases h : 1 ≤ l.length ∧ l.length ≤ 30
  · rw [if_pos (by simp; omega), l1All_eq _ _ (by omega) (by omega), decide_eq_true h, Bool.true_and, Option.bind_some]
  · rw [if_neg (by simp; omega), decide_eq_false h, Bool.false_and]
theorem jumpsB_true {l : List Int} (h : jumpsB l = true) : (1 ≤ l.length ∧ l.length ≤ 30) ∧ ∀ x ∈ l, -30 ≤ x ∧ x ≤ 30 := by
  unfold jumpsB at h
  rw [Bool.and_eq_true, decide_eq_true_eq, List.all_eq_true] at h
  exact ⟨h.1, fun x hx => by simpa using h.2 x hx⟩

-- block toIntS
theorem toIntS_l0 (l : List Int) (hl : l.length ≤ 1048576) (d : Nat) : ∀ (k i : Nat) (m : List Int), i + d = l.length → d < k → m.length = d → laws_toIntS.l0 k l (l.take i ++ m) i = some l := by
  induction d with
  | zero =>
    intro k i m hd hk hm
    obtain ⟨k, rfl⟩ : ∃ n, k = n + 1 := ⟨k - 1, by omega⟩
    obtain rfl := List.eq_nil_of_length_eq_zero hm
    simp only [laws_toIntS.l0]; rw [if_neg (by omega), List.take_of_length_le (by omega), List.append_nil]
  | succ d ih =>
    intro k i m hd hk hm
    obtain ⟨k, rfl⟩ : ∃ n, k = n + 1 := ⟨k - 1, by omega⟩
    obtain ⟨x, m, rfl⟩ : ∃ x p, m = x :: p := by
      cases m with
      | nil => simp at hm
      | cons x p => exact ⟨x, p, rfl⟩
    simp only [laws_toIntS.l0]
    have hi : i < l.length := by omega
    have hlen : (l.take i ++ x :: m).length = l.length := by simp at hm ⊢; omega
    have e : (l.take i ++ x :: m).set (i : Int).toNat (rd l i) = l.take (i + 1) ++ m := by
      have ht : (l.take i).length = i := by simp; omega
      rw [Int.toNat_natCast, List.set_append_right _ _ (by omega), ht, Nat.sub_self, List.set_cons_zero, List.take_succ_eq_append_getElem hi, List.append_assoc]
      simp [rd, List.getD_eq_getElem?_getD, List.getElem?_eq_getElem hi]
    rw [if_pos (by omega), if_pos (by omega), if_pos (by omega), e, w64 (by omega)]
    exact ih k (i + 1) m (by omega) (by omega) (by simpa using hm)
theorem toIntS_eq {k : Nat} {l : List Int} (hl : l.length ≤ 1048576) (hk : 1048576 < k) : laws_toIntS.f k l = some l := by
  unfold laws_toIntS.f
  rw [if_pos (by omega), if_pos (by omega)]
  have := toIntS_l0 l hl l.length k 0 (List.replicate l.length 0) (by omega) (by omega) (by simp)
  simpa using this

-- block eqIntS
theorem eqIntS_l0 (l : List Int) (hl : l.length ≤ 1000000000) (d : Nat) : ∀ (k i : Nat), i + d = l.length → d < k → laws_eqIntS.l0 k l l i = some true := by
  induction d with
  | zero =>
    intro k i hd hk
    obtain ⟨k, rfl⟩ : ∃ m, k = m + 1 := ⟨k - 1, by omega⟩
    simp only [laws_eqIntS.l0]; rw [if_neg (by omega)]
  | succ d ih =>
    intro k i hd hk
    obtain ⟨k, rfl⟩ : ∃ m, k = m + 1 := ⟨k - 1, by omega⟩
    simp only [laws_eqIntS.l0]
    rw [if_pos (by omega), if_pos (by omega), if_pos (by omega), if_pos trivial, w64 (by omega)]
    exact ih k (i + 1) (by omega) (by omega)
theorem eqIntS_self {k : Nat} {l : List Int} (hl : l.length ≤ 1000000000) (hk : l.length < k) : laws_eqIntS.f k l l = some true := by
  unfold laws_eqIntS.f
  rw [if_pos rfl, show (0 : Int) = ((0 : Nat) : Int) from rfl, eqIntS_l0 l hl l.length k 0 (by omega) hk]

-- block marks
def ups (a : Int) (n : Nat) : List Int := (List.range n).map fun i : Nat => a + (i : Int)
theorem ups_length (a : Int) (n : Nat) : (ups a n).length = n := by simp [ups]
theorem ups_succ (a : Int) (n : Nat) : ups a (n + 1) = ups a n ++ [a + n] := by simp [ups, List.range_succ]
theorem rd_ups (a : Int) (n i : Nat) (h : i < n) : rd (ups a n) i = a + i := by
  unfold rd ups
  rw [List.getD_eq_getElem?_getD, Int.toNat_natCast, List.getElem?_map, List.getElem?_range h]; rfl
theorem markIntS_l0 (a : Int) (ha : 0 ≤ a) (d : Nat) : ∀ (k i : Nat) (post : List Int), post.length = d → a + i + d ≤ 4000000000000 → d < k →
    laws_markIntS.l0 k (ups a i ++ post) (a + i) i = some (a + i + d, ups a (i + d)) := by
  induction d with
  | zero =>
    intro k i post hp hb hk
    obtain ⟨k, rfl⟩ : ∃ m, k = m + 1 := ⟨k - 1, by omega⟩
    obtain rfl := List.eq_nil_of_length_eq_zero hp
    simp only [laws_markIntS.l0]
    rw [if_neg (by simp [ups_length])]
    simp
  | succ d ih =>
    intro k i post hp hb hk
    obtain ⟨k, rfl⟩ : ∃ m, k = m + 1 := ⟨k - 1, by omega⟩
    obtain ⟨x, post, rfl⟩ : ∃ x p, post = x :: p := by
      cases post with
      | nil => simp at hp
      | cons x p => exact ⟨x, p, rfl⟩
    simp only [laws_markIntS.l0]
    rw [if_pos (by simp [ups_length]; omega), if_pos (by omega), w64 (by omega), w64 (by omega)]
    have e : (ups a i ++ x :: post).set (i : Int).toNat (a + i) = ups a (i + 1) ++ post := by
      rw [Int.toNat_natCast, List.set_append_right _ _ (by simp [ups_length]), ups_length, Nat.sub_self, List.set_cons_zero, ups_succ, List.append_assoc]; rfl
    rw [e, show a + (i : Int) + 1 = a + ((i + 1 : Nat) : Int) from by omega, show (i : Int) + 1 = ((i + 1 : Nat) : Int) from rfl]
    rw [ih k (i + 1) post (by simpa using hp) (by omega) (by omega)]
    rw [show i + 1 + d = i + (d + 1) from by omega]
    congr 2; omega
theorem markIntS_eq {k : Nat} {l : List Int} {a : Int} (ha : 0 ≤ a) (hb : a + l.length ≤ 4000000000000) (hk : l.length < k) : laws_markIntS.f k l a = some (a + l.length, ups a l.length) := by
  unfold laws_markIntS.f
  have := markIntS_l0 a ha l.length k 0 l rfl (by omega) hk
  simpa [ups] using this
theorem heldIntS_l0 (a : Int) (ha : 0 ≤ a) (n : Nat) (hb : a + n ≤ 4000000000000) (d : Nat) : ∀ (k i : Nat), i + d = n → d < k → laws_heldIntS.l0 k (ups a n) (a + i) i = some (a + n) := by
  induction d with
  | zero =>
    intro k i hd hk
    obtain ⟨k, rfl⟩ : ∃ m, k = m + 1 := ⟨k - 1, by omega⟩
    simp only [laws_heldIntS.l0]
    rw [if_neg (by rw [ups_length]; omega)]
    congr 1; omega
  | succ d ih =>
    intro k i hd hk
    obtain ⟨k, rfl⟩ : ∃ m, k = m + 1 := ⟨k - 1, by omega⟩
    simp only [laws_heldIntS.l0]
    rw [if_pos (by rw [ups_length]; omega), if_pos (by omega), rd_ups _ _ _ (by omega), if_pos rfl, w64 (by omega), w64 (by omega)]
    rw [show a + (i : Int) + 1 = a + ((i + 1 : Nat) : Int) from by omega, show (i : Int) + 1 = ((i + 1 : Nat) : Int) from rfl]
    exact ih k (i + 1) (by omega) (by omega)
theorem heldIntS_eq {k n : Nat} {a : Int} (ha : 0 ≤ a) (hb : a + n ≤ 4000000000000) (hk : n < k) : laws_heldIntS.f k (ups a n) a = some (a + n) := by
  unfold laws_heldIntS.f
  have := heldIntS_l0 a ha n hb n k 0 (by omega) hk
  simpa using this

theorem turn_l0 (l : List Int) (hl : l.length ≤ 100) : ∀ (m k : Nat) (acc : List Int), m ≤ l.length → m < k → acc.length + m ≤ l.length →
    spec_TurnJumps.l0 k l acc ((m : Int) - 1) = some (acc ++ (l.take m).reverse.map (fun x => wrap64 (-x)), true) := by
  intro m
  induction m with
  | zero =>
    intro k acc h1 hk h2
    obtain ⟨k, rfl⟩ : ∃ m, k = m + 1 := ⟨k - 1, by omega⟩
    rw [spec_TurnJumps.l0, if_neg (by omega)]
    simp
  | succ m ih =>
    intro k acc h1 hk h2
    obtain ⟨k, rfl⟩ : ∃ m, k = m + 1 := ⟨k - 1, by omega⟩
    rw [show (((m + 1 : Nat) : Int) - 1) = (m : Int) from by omega]
    rw [spec_TurnJumps.l0, if_pos (by omega), if_pos (by omega), if_pos (by omega), if_pos (by omega), w64 (x := (m : Int) - 1) (by omega), ih k _ (by omega) (by omega) (by simp; omega)]
    rw [List.take_succ_eq_append_getElem (by omega), List.reverse_append, List.reverse_singleton, List.singleton_append, List.map_cons, List.append_assoc, List.singleton_append]
    rw [show rd l (m : Int) = l[m] from by simp [rd, List.getD_eq_getElem?_getD, List.getElem?_eq_getElem (show m < l.length by omega)]]
theorem TurnJumps_eq {k : Nat} (hk : 3000 < k) (l : List Int) (hl : l.length ≤ 1048576) : ∃ r, spec_TurnJumps.f k l = some r ∧ impl_TurnJumps.f l = some r ∧ r.1.length ≤ 100 := by
  unfold spec_TurnJumps.f impl_TurnJumps.f
  rw [baGood_eq (by omega), AreJumps_eq, Option.bind_some, Option.bind_some]
  by_cases h : jumpsB l = true
  · have gl := (jumpsB_true h).1
    rw [if_pos h, if_pos h, if_pos (by omega), w64 (by omega), turn_l0 l (by omega) l.length k [] (by omega) (by omega) (by simp), List.take_length, List.nil_append]
    exact ⟨_, rfl, rfl, by show (List.map _ _).length ≤ 100; simp; omega⟩
  · rw [if_neg h, if_neg h]; exact ⟨_, rfl, rfl, by simp⟩
theorem FnExactTurnJumps : laws_FnExactTurnJumps.Pure := by
  intro l  _ _ _ 
  obtain ⟨k, hk⟩ : ∃ k, 2000000 < k := ⟨2000001, by omega⟩
  refine ⟨k + 3, ?_⟩
  unfold laws_FnExactTurnJumps.f
  by_cases hs : (l.length : Int) > 1048576
  · rw [if_pos hs]
  · obtain ⟨r, h1, h2, hl⟩ := TurnJumps_eq (k := k + 3) (by omega) l (by omega) 
    obtain ⟨r', h1', h2', -⟩ := TurnJumps_eq (k := k + 1) (by omega) l (by omega) 
    have e : r' = r := by
      rw [h2] at h2'; exact (Option.some.inj h2').symm
    subst e
    rw [if_neg hs, toIntS_eq (by omega) (by omega), Option.bind_some, h1, Option.bind_some, Option.bind_some, h2, Option.bind_some, eqIntS_self (by omega) (by omega), Option.bind_some, if_pos rfl, laws_FnExactTurnJumps.j0, if_neg (by simp), toIntS_eq (by omega) (by omega), Option.bind_some, eqIntS_self (by omega) (by omega), Option.bind_some, if_pos rfl, markIntS_eq (by omega) (by omega) (by omega), Option.bind_some]
    rw [if_neg (by omega), eqIntS_self (by omega) (by omega), Option.bind_some, if_pos rfl, laws_FnExactTurnJumps.j1, if_neg (by simp), markIntS_eq (by omega) (by omega) (by omega), Option.bind_some, heldIntS_eq (by omega) (by omega) (by omega), Option.bind_some, if_neg (by omega), if_pos rfl, toIntS_eq (by omega) (by omega), Option.bind_some, h2', Option.bind_some, eqIntS_self (by omega) (by omega), Option.bind_some, if_pos rfl, laws_FnExactTurnJumps.j2, if_neg (by simp), heldIntS_eq (by omega) (by omega) (by omega), Option.bind_some, if_neg (by omega), if_pos rfl]

end Go.Proofs.Ytalnjklklpnnhaa.Pure
