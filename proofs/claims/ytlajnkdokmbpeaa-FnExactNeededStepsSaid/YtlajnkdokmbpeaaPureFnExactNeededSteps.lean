/- The program's NeededSteps returns what the reference's returns, for all arguments. No condition. -/
import Derived.Test.YtlajnkdokmbpeaaPFnExactNeededStepsx8
namespace Go.Proofs.Ytlajnkdokmbpeaa.Pure
open Go.RowKit Go.Proofs.Ytlajnkdokmbpeaa.PFnExactNeededSteps Go.Proofs.YtlajnkdokmbpeaaW.PrintWords Go.Proofs.YtlajnkdokmbpeaaW.PrintLast Go.Proofs.YtlajnkdokmbpeaaW.PrintMore
set_option linter.unusedVariables false
set_option linter.unusedSimpArgs false

-- block within
theorem within_eq (a b c : Int) : impl_within.f a b c = some (decide (b ≤ a ∧ a ≤ c)) := by
  unfold impl_within.f
  by_cases h : b ≤ a
  · rw [if_pos h]; simp [h]
  · rw [if_neg h]; simp [h]

-- block l1In
theorem l1In_eq (a b c : Int) : spec_l1In.f a b c = some (decide (b ≤ a ∧ a ≤ c)) := by
  unfold spec_l1In.f
  by_cases h : a ≥ b
  · rw [if_pos h]; simp [show b ≤ a from h]
  · rw [if_neg h]; simp [show ¬ b ≤ a from h]

-- block w64
theorem w64 {x : Int} (h : -9223372036854775808 ≤ x ∧ x ≤ 9223372036854775807) : wrap64 x = x := by
  unfold wrap64; omega

-- block rise
/-- From place i on, d of them: between lo and hi, each above the one ahead. -/
def riseB (l : List Int) (lo hi : Int) : Nat → Nat → Bool
  | 0, _ => true
  | d + 1, i => if lo ≤ rd l (i : Int) ∧ rd l (i : Int) ≤ hi then (if 0 < i ∧ rd l (i : Int) ≤ rd l ((i - 1 : Nat) : Int) then false else riseB l lo hi d (i + 1)) else false
theorem rise_l0 (l : List Int) (lo hi : Int) (hl : l.length ≤ 1048576) (d : Nat) : ∀ (k i : Nat), i + d = l.length → d < k → impl_rise.l0 k l lo hi l l.length i = some (riseB l lo hi d i) ∧ spec_l1Rising.l0 k l lo hi l l.length i = some (riseB l lo hi d i) := by
  induction d with
  | zero =>
    intro k i hd hk
    obtain ⟨k, rfl⟩ : ∃ m, k = m + 1 := ⟨k - 1, by omega⟩
    simp only [impl_rise.l0, spec_l1Rising.l0, riseB]
    exact ⟨by rw [if_neg (by omega)], by rw [if_neg (by omega)]⟩
  | succ d ih =>
    intro k i hd hk
    obtain ⟨k, rfl⟩ : ∃ m, k = m + 1 := ⟨k - 1, by omega⟩
    simp only [impl_rise.l0, spec_l1Rising.l0, riseB]
    have nx := ih k (i + 1) (by omega) (by omega)
    simp only [if_pos (show (i : Int) < (l.length : Int) by omega), if_pos (show (0 : Int) ≤ (i : Int) by omega)]
    rw [within_eq, l1In_eq, Option.bind_some, Option.bind_some]
    by_cases h : lo ≤ rd l (i : Int) ∧ rd l (i : Int) ≤ hi
    · simp only [if_pos h, decide_eq_true h, if_true]
      by_cases g : 0 < i
      · have e : wrap64 ((i : Int) - 1) = ((i - 1 : Nat) : Int) := by rw [w64 (by omega)]; omega
        have e2 : wrap64 ((i : Int) + 1) = ((i + 1 : Nat) : Int) := by rw [w64 (by omega)]; omega
        simp only [if_pos (show (i : Int) > 0 by omega), e, e2, if_pos (show (0 : Int) ≤ ((i - 1 : Nat) : Int) by omega), if_pos (show ((i - 1 : Nat) : Int) < (l.length : Int) by omega)]
        by_cases f : rd l (i : Int) ≤ rd l ((i - 1 : Nat) : Int)
        · rw [if_pos f, if_pos (show rd l ((i - 1 : Nat) : Int) ≥ rd l (i : Int) from f), if_pos ⟨g, f⟩]; exact ⟨rfl, rfl⟩
        · rw [if_neg f, if_neg (show ¬ rd l ((i - 1 : Nat) : Int) ≥ rd l (i : Int) from f), if_neg (fun z => f z.2)]; exact nx
      · have e2 : wrap64 ((i : Int) + 1) = ((i + 1 : Nat) : Int) := by rw [w64 (by omega)]; omega
        simp only [if_neg (show ¬ (i : Int) > 0 by omega), e2, if_neg (show ¬ (0 < i ∧ rd l (i : Int) ≤ rd l ((i - 1 : Nat) : Int)) from fun z => g z.1)]
        exact nx
    · simp [if_neg h, decide_eq_false h]
theorem rise_eq {k : Nat} {l : List Int} (lo hi : Int) (hl : l.length ≤ 1048576) (hk : l.length < k) : impl_rise.f k l lo hi = some (riseB l lo hi l.length 0) := by
  unfold impl_rise.f; exact (rise_l0 l lo hi hl l.length k 0 (by omega) hk).1
theorem l1Rising_eq {k : Nat} {l : List Int} (lo hi : Int) (hl : l.length ≤ 1048576) (hk : l.length < k) : spec_l1Rising.f k l lo hi = some (riseB l lo hi l.length 0) := by
  unfold spec_l1Rising.f; exact (rise_l0 l lo hi hl l.length k 0 (by omega) hk).2
theorem riseB_true (l : List Int) (lo hi : Int) (d : Nat) : ∀ i, riseB l lo hi d i = true → ∀ j, i ≤ j → j < i + d → (lo ≤ rd l (j : Int) ∧ rd l (j : Int) ≤ hi) ∧ (0 < j → rd l ((j - 1 : Nat) : Int) < rd l (j : Int)) := by
  induction d with
  | zero => intro i _ j h1 h2; omega
  | succ d ih =>
    intro i h j h1 h2
    unfold riseB at h
    by_cases c : lo ≤ rd l (i : Int) ∧ rd l (i : Int) ≤ hi
    · rw [if_pos c] at h
      by_cases g : 0 < i ∧ rd l (i : Int) ≤ rd l ((i - 1 : Nat) : Int)
      · rw [if_pos g] at h; exact absurd h (by simp)
      · rw [if_neg g] at h
        by_cases e : j = i
        · subst e; exact ⟨c, fun z => by
            apply Int.not_le.mp; intro y; exact g ⟨z, y⟩⟩
        · exact ih (i + 1) h j (by omega) (by omega)
    · rw [if_neg c] at h; exact absurd h (by simp)

-- block stairs
def stairsB (n : Int) (l b : List Int) : Bool := if (1 ≤ n ∧ n ≤ 60) ∧ (1 ≤ l.length ∧ l.length ≤ 5) then riseB l 1 9 l.length 0 && riseB b 1 (n - 1) b.length 0 else false
theorem clGood_eq {k : Nat} (n : Int) {l b : List Int} (hl : l.length ≤ 1048576) (hb : b.length ≤ 1048576) (hk : 1048576 < k) : spec_clGood.f k n l b = some (stairsB n l b) := by
  unfold spec_clGood.f stairsB
  rw [l1In_eq, Option.bind_some, l1In_eq, Option.bind_some, l1Rising_eq 1 9 hl (by omega), Option.bind_some]
  by_cases h : 1 ≤ n ∧ n ≤ 60
  · rw [if_pos (decide_eq_true h)]
    by_cases g : 1 ≤ l.length ∧ l.length ≤ 5
    · rw [if_pos (by simp; omega), if_pos (show (1 ≤ n ∧ n ≤ 60) ∧ (1 ≤ l.length ∧ l.length ≤ 5) from ⟨h, g⟩), l1Rising_eq _ _ hb (by omega), w64 (by omega)]
      cases riseB l 1 9 l.length 0 <;> simp
    · rw [if_neg (by simp; omega), if_neg (show ¬ ((1 ≤ n ∧ n ≤ 60) ∧ (1 ≤ l.length ∧ l.length ≤ 5)) from fun z => g z.2)]
  · rw [if_neg (by simpa using h), if_neg (show ¬ ((1 ≤ n ∧ n ≤ 60) ∧ (1 ≤ l.length ∧ l.length ≤ 5)) from fun z => h z.1)]
theorem AreStairs_eq {k : Nat} (n : Int) {l b : List Int} (hl : l.length ≤ 1048576) (hb : b.length ≤ 1048576) (hk : 1048576 < k) : impl_AreStairs.f k n l b = some (stairsB n l b) := by
  unfold impl_AreStairs.f stairsB
  rw [within_eq, Option.bind_some, within_eq, Option.bind_some, rise_eq 1 9 hl (by omega), Option.bind_some]
  by_cases h : 1 ≤ n ∧ n ≤ 60
  · rw [if_pos (decide_eq_true h)]
    by_cases g : 1 ≤ l.length ∧ l.length ≤ 5
    · rw [if_pos (by simp; omega), if_pos (show (1 ≤ n ∧ n ≤ 60) ∧ (1 ≤ l.length ∧ l.length ≤ 5) from ⟨h, g⟩), rise_eq _ _ hb (by omega), w64 (by omega)]
      cases riseB l 1 9 l.length 0 <;> simp
    · rw [if_neg (by simp; omega), if_neg (show ¬ ((1 ≤ n ∧ n ≤ 60) ∧ (1 ≤ l.length ∧ l.length ≤ 5)) from fun z => g z.2)]
  · rw [if_neg (by simpa using h), if_neg (show ¬ ((1 ≤ n ∧ n ≤ 60) ∧ (1 ≤ l.length ∧ l.length ≤ 5)) from fun z => h z.1)]

-- block l1Has
theorem l1Has_l0 (x : Int) (l : List Int) (hl : l.length ≤ 1048576) (d : Nat) : ∀ (k i : Nat), i + d = l.length → d < k → spec_l1Has.l0 k x l l.length i = some (decide (x ∈ l.drop i)) := by
  induction d with
  | zero =>
    intro k i hd hk
    obtain ⟨k, rfl⟩ : ∃ m, k = m + 1 := ⟨k - 1, by omega⟩
    simp only [spec_l1Has.l0]; rw [if_neg (by omega), List.drop_eq_nil_of_le (by omega)]; simp
  | succ d ih =>
    intro k i hd hk
    obtain ⟨k, rfl⟩ : ∃ m, k = m + 1 := ⟨k - 1, by omega⟩
    simp only [spec_l1Has.l0]
    have h : i < l.length := by omega
    have e : rd l i = l[i] := by simp [rd, List.getD_eq_getElem?_getD, List.getElem?_eq_getElem h]
    rw [if_pos (by omega), if_pos (by omega), if_pos (by omega), e, List.drop_eq_getElem_cons h]
    by_cases g : l[i] = x
    · rw [if_pos g]; congr 1; rw [eq_comm, decide_eq_true_eq, g]; simp
    · rw [if_neg g, w64 (by omega), show (i : Int) + 1 = ((i + 1 : Nat) : Int) from rfl, ih k (i + 1) (by omega) (by omega)]
      congr 1; rw [decide_eq_decide, List.mem_cons]
      exact ⟨fun z => .inr z, fun z => z.resolve_left (fun y => g y.symm)⟩
theorem l1Has_eq {k : Nat} {l : List Int} (x : Int) (hl : l.length ≤ 1048576) (hk : l.length < k) : spec_l1Has.f k l x = some (decide (x ∈ l)) := by
  unfold spec_l1Has.f
  exact l1Has_l0 x l hl l.length k 0 (by omega) hk

-- block idx
/-- Where x is first, counted from i; -1 where it is not. -/
def idxI (x : Int) : List Int → Nat → Int
  | [], _ => -1
  | y :: ys, i => if y = x then (i : Int) else idxI x ys (i + 1)
theorem idxI_spec (x : Int) (l : List Int) : ∀ i : Nat, (x ∉ l ∧ idxI x l i = -1) ∨ (∃ n : Nat, n < l.length ∧ idxI x l i = (i : Int) + n ∧ rd l n = x ∧ ∀ m : Nat, m < n → rd l m ≠ x) := by
  induction l with
  | nil => intro i; exact .inl ⟨by simp, rfl⟩
  | cons y ys ih =>
    intro i
    unfold idxI
    by_cases h : y = x
    · subst h
      exact .inr ⟨0, by simp, by simp, by simp [rd], fun m hm => by omega⟩
    · rw [if_neg h]
      rcases ih (i + 1) with ⟨h1, h2⟩ | ⟨n, h1, h2, h3, h4⟩
      · exact .inl ⟨by simp [h1]; exact fun e => h e.symm, h2⟩
      · refine .inr ⟨n + 1, by simp; omega, by rw [h2]; omega, ?_, ?_⟩
        · simpa [rd] using h3
        · intro m hm
          cases m with
          | zero => simpa [rd] using h
          | succ m => have := h4 m (by omega); simpa [rd] using this
theorem idxI_mem (x : Int) (l : List Int) : decide (idxI x l 0 ≥ 0) = decide (x ∈ l) := by
  rw [decide_eq_decide]
  rcases idxI_spec x l 0 with ⟨h1, h2⟩ | ⟨n, h1, h2, h3, h4⟩
  · rw [h2]; constructor
    · intro h; omega
    · intro h; exact absurd h h1
  · rw [h2]; constructor
    · intro _
      have e : rd l n = l[n] := by simp [rd, List.getD_eq_getElem?_getD, List.getElem?_eq_getElem h1]
      rw [← h3, e]; exact List.getElem_mem h1
    · intro _; omega

-- block contains
theorem Index_l0 (x : Int) (l : List Int) (hl : l.length ≤ 1048576) (d : Nat) : ∀ (k i : Nat), i + d = l.length → d < k → slices_Index_int_int.l0 k l x l.length i = some (idxI x (l.drop i) i) := by
  induction d with
  | zero =>
    intro k i hd hk
    obtain ⟨k, rfl⟩ : ∃ m, k = m + 1 := ⟨k - 1, by omega⟩
    simp only [slices_Index_int_int.l0]; rw [if_neg (by omega), List.drop_eq_nil_of_le (by omega)]; rfl
  | succ d ih =>
    intro k i hd hk
    obtain ⟨k, rfl⟩ : ∃ m, k = m + 1 := ⟨k - 1, by omega⟩
    simp only [slices_Index_int_int.l0]
    have h : i < l.length := by omega
    have e : rd l i = l[i] := by simp [rd, List.getD_eq_getElem?_getD, List.getElem?_eq_getElem h]
    rw [if_pos (by omega), if_pos (by omega), if_pos (by omega), e, List.drop_eq_getElem_cons h, idxI]
    by_cases g : l[i] = x
    · rw [if_pos g, if_pos g.symm]
    · rw [if_neg g, if_neg (fun z => g z.symm), w64 (by omega)]
      exact ih k (i + 1) (by omega) (by omega)
theorem Index_eq {k : Nat} {l : List Int} (x : Int) (hl : l.length ≤ 1048576) (hk : l.length < k) : slices_Index_int_int.f k l x = some (idxI x l 0) := by
  unfold slices_Index_int_int.f
  exact Index_l0 x l hl l.length k 0 (by omega) hk

-- block contains2
theorem Contains_eq {k : Nat} {l : List Int} (x : Int) (hl : l.length ≤ 1048576) (hk : l.length < k) : slices_Contains_int_int.f k l x = some (decide (x ∈ l)) := by
  unfold slices_Contains_int_int.f
  rw [Index_eq x hl hk, Option.bind_some, idxI_mem]

-- block filt
/-- The numbers from i on, d of them, of which p holds. -/
def filt (p : Nat → Bool) (i d : Nat) : List Int := ((List.range' i d).filter p).map fun j : Nat => (j : Int)
theorem filt_succ (p : Nat → Bool) (i d : Nat) : filt p i (d + 1) = if p i = true then (i : Int) :: filt p (i + 1) d else filt p (i + 1) d := by
  unfold filt
  rw [List.range'_succ, List.filter_cons]
  by_cases h : p i = true
  · rw [if_pos h, if_pos h]; rfl
  · rw [if_neg h, if_neg h]
theorem filt_zero (p : Nat → Bool) (i : Nat) : filt p i 0 = [] := by simp [filt]
theorem filt_skip (p : Nat → Bool) (m : Nat) : ∀ (i d : Nat), (∀ j, i ≤ j → j < i + m → p j ≠ true) → filt p i d = filt p (i + m) (d - m) := by
  induction m with
  | zero => intro i d _; rfl
  | succ m ih =>
    intro i d h
    cases d with
    | zero => simp [filt]
    | succ d =>
      rw [filt_succ, if_neg (h i (Nat.le_refl _) (by omega)), ih (i + 1) d (fun j h1 h2 => h j (by omega) (by omega))]
      congr 1 <;> omega
theorem filt_length (p : Nat → Bool) (i d : Nat) : (filt p i d).length ≤ d := by
  unfold filt; rw [List.length_map]; exact Nat.le_trans (List.length_filter_le _ _) (by simp)
theorem thoseW_l0 (q : Int → Option Bool) (p : Nat → Bool) (N : Nat) (hN : N ≤ 1000) (hq : ∀ j : Nat, 1 ≤ j → j ≤ N → q j = some (p j)) (d : Nat) : ∀ (k i : Nat) (acc : List Int), i + d = N + 1 → d < k → acc.length ≤ i → 1 ≤ i → thoseW q k N i acc = some (acc ++ filt p i d) := by
  induction d with
  | zero =>
    intro k i acc hd hk ha hi
    obtain ⟨k, rfl⟩ : ∃ m, k = m + 1 := ⟨k - 1, by omega⟩
    simp only [thoseW]
    rw [if_neg (by omega), filt_zero, List.append_nil]
  | succ d ih =>
    intro k i acc hd hk ha hi
    obtain ⟨k, rfl⟩ : ∃ m, k = m + 1 := ⟨k - 1, by omega⟩
    simp only [thoseW]
    rw [if_pos (by omega), hq i hi (by omega), Option.bind_some, filt_succ, w64 (by omega), show (i : Int) + 1 = ((i + 1 : Nat) : Int) from rfl]
    by_cases h : p i = true
    · rw [if_pos h, if_pos h, if_pos (by omega), ih k (i + 1) _ (by omega) (by omega) (by simp; omega) (by omega)]; simp
    · rw [if_neg h, if_neg h, ih k (i + 1) _ (by omega) (by omega) (by omega) (by omega)]
theorem thoseW_eq {k : Nat} (q : Int → Option Bool) (p : Nat → Bool) (N : Nat) (hN : N ≤ 1000) (hk : 1001 < k) (hq : ∀ j : Nat, 1 ≤ j → j ≤ N → q j = some (p j)) : thoseW q k N 1 [] = some (filt p 1 N) :=
  thoseW_l0 q p N hN hq N k 1 [] (by omega) (by omega) (by simp) (by omega)
theorem multiple_gap {R x y : Nat} (h1 : x % R = 0) (h2 : y % R = 0) (h3 : x < y) (h4 : y < x + R) : False := by
  obtain ⟨a, rfl⟩ := Nat.dvd_of_mod_eq_zero h1
  obtain ⟨b, rfl⟩ := Nat.dvd_of_mod_eq_zero h2
  have a2 : R * b < R * (a + 1) := by rw [Nat.mul_add]; omega
  have b1 := Nat.lt_of_mul_lt_mul_left h3
  have b2 := Nat.lt_of_mul_lt_mul_left a2
  omega

-- block dpbase
def Ris (l : List Int) : Prop := ∀ j : Nat, j < l.length → (1 ≤ rd l (j : Int) ∧ rd l (j : Int) ≤ 9) ∧ (0 < j → rd l ((j - 1 : Nat) : Int) < rd l (j : Int))
theorem rd_set_eq (x : List Int) (a : Nat) (v : Int) (h : a < x.length) : rd (x.set a v) (a : Int) = v := by
  simp [rd, List.getD_eq_getElem?_getD, h]
theorem rd_set_ne (x : List Int) (a j : Nat) (v : Int) (h : j ≠ a) : rd (x.set a v) (j : Int) = rd x (j : Int) := by
  simp [rd, List.getD_eq_getElem?_getD, List.getElem?_set_ne (Ne.symm h)]
theorem rb_set_eq (x : List Bool) (a : Nat) (v : Bool) (h : a < x.length) : rdOf false (x.set a v) (a : Int) = v := by
  simp [rdOf, List.getD_eq_getElem?_getD, h]
theorem rb_set_ne (x : List Bool) (a j : Nat) (v : Bool) (h : j ≠ a) : rdOf false (x.set a v) (j : Int) = rdOf false x (j : Int) := by
  simp [rdOf, List.getD_eq_getElem?_getD, List.getElem?_set_ne (Ne.symm h)]
theorem isBroken_eq {k : Nat} (n : Int) (l b : List Int) (s : Int) (hb : b.length ≤ 1048576) (hk : 1048576 < k) : impl_Stairs_isBroken.f k n l b s = some (decide (s ∈ b)) := by
  unfold impl_Stairs_isBroken.f; rw [Contains_eq s hb (by omega), Option.bind_some]
theorem clStands_eq {k : Nat} (n : Int) (l b : List Int) (s : Int) (h : 0 ≤ s ∧ s ≤ n) (hb : b.length ≤ 1048576) (hk : 1048576 < k) : spec_clStands.f k n l b s = some (!decide (s ∈ b)) := by
  unfold spec_clStands.f; rw [l1In_eq, Option.bind_some, if_pos (decide_eq_true h), l1Has_eq s hb (by omega), Option.bind_some]
def pw (n : Nat) : Nat := 2 ^ n
theorem pw_le {n : Nat} (h : n ≤ 60) : pw n ≤ 1152921504606846976 := by
  unfold pw
  exact Nat.le_trans (Nat.pow_le_pow_right (by decide) h) (by decide)
theorem two_pow_step {a b c : Nat} (h : b < c) (h2 : c ≤ a) : 2 * pw (a - c) ≤ pw (a - b) := by
  unfold pw
  have : 2 * 2 ^ (a - c) = 2 ^ (a - c + 1) := by rw [Nat.pow_succ, Nat.mul_comm]
  rw [this]; exact Nat.pow_le_pow_right (by omega) (by omega)
theorem down_step (k : Nat) (x : List Int) (cur N : Nat) (l b : List Int) (i s : Nat) (hi : i < l.length) (hl : l.length ≤ 5) (es : rd l (i : Int) = (s : Int)) (hs9 : s ≤ 9) (hN : N ≤ 60) (hc : cur ≤ N) (hb : b.length ≤ 1048576) (hk : 1048576 < k) (hx : x.length = N + 1) :
    impl_Stairs_down.l1 (k + 1) x cur l l.length i N l b = if s ≤ cur ∧ ¬ (cur : Int) ∈ b then impl_Stairs_down.l1 k (x.set cur (wrap64 (rd x (cur : Int) + rd x ((cur - s : Nat) : Int)))) cur l l.length ((i + 1 : Nat) : Int) N l b else impl_Stairs_down.l1 k x cur l l.length ((i + 1 : Nat) : Int) N l b := by
  have e1 : wrap64 ((i : Int) + 1) = ((i + 1 : Nat) : Int) := by rw [w64 (by omega)]; rfl
  rw [impl_Stairs_down.l1, if_pos (show (i : Int) < (l.length : Int) by omega), if_pos (show (0 : Int) ≤ (i : Int) by omega), if_pos (show (i : Int) < (l.length : Int) by omega), es, e1]
  by_cases h : s ≤ cur
  · rw [if_pos (show (s : Int) ≤ (cur : Int) by omega), isBroken_eq N l b cur hb hk, Option.bind_some]
    by_cases g : (cur : Int) ∈ b
    · rw [if_pos (decide_eq_true g), if_neg (fun z => z.2 g)]
    · have e2 : wrap64 ((cur : Int) - (s : Int)) = ((cur - s : Nat) : Int) := by rw [w64 (by omega)]; omega
      rw [if_neg (by rw [decide_eq_false g]; simp), if_pos (show (0 : Int) ≤ (cur : Int) by omega), if_pos (show (cur : Int) < (x.length : Int) by omega), e2, if_pos (show (0 : Int) ≤ ((cur - s : Nat) : Int) by omega), if_pos (show ((cur - s : Nat) : Int) < (x.length : Int) by omega), if_pos ⟨h, g⟩, Int.toNat_natCast]
  · rw [if_neg (show ¬ (s : Int) ≤ (cur : Int) by omega), if_neg (fun z => h z.1)]
theorem rd_rep (n i : Nat) : rd (List.replicate n (0 : Int)) (i : Int) = 0 := by
  simp [rd, List.getD_eq_getElem?_getD, List.getElem?_replicate]; split <;> rfl
theorem rb_rep (n i : Nat) : rdOf false (List.replicate n false) (i : Int) = false := by
  simp [rdOf, List.getD_eq_getElem?_getD, List.getElem?_replicate]; split <;> rfl
theorem stairsB_true {n : Int} {l b : List Int} (h : stairsB n l b = true) : (1 ≤ n ∧ n ≤ 60) ∧ l.length ≤ 5 ∧ Ris l := by
  unfold stairsB at h
  by_cases c : (1 ≤ n ∧ n ≤ 60) ∧ (1 ≤ l.length ∧ l.length ≤ 5)
  · rw [if_pos c, Bool.and_eq_true] at h
    exact ⟨c.1, c.2.2, fun j hj => riseB_true l 1 9 l.length 0 h.1 j (by omega) (by omega)⟩
  · rw [if_neg c] at h; exact absurd h (by simp)

-- block adj
/-- The sum of f over 0 .. n-1. -/
def sm (f : Nat → Int) : Nat → Int
  | 0 => 0
  | n + 1 => sm f n + f n
/-- The sum of f over a list of whole numbers. -/
def ls (l : List Int) (f : Nat → Int) : Int := match l with
  | [] => 0
  | s :: l => f s.toNat + ls l f
theorem sm_congr {f g : Nat → Int} (n : Nat) (h : ∀ i, i < n → f i = g i) : sm f n = sm g n := by
  induction n with
  | zero => rfl
  | succ n ih => rw [sm, sm, ih (fun i hi => h i (by omega)), h n (by omega)]
theorem sm_add (f g : Nat → Int) (n : Nat) : sm (fun i => f i + g i) n = sm f n + sm g n := by
  induction n with
  | zero => rfl
  | succ n ih => rw [sm, sm, sm, ih]; omega
theorem sm_sub (f g : Nat → Int) (n : Nat) : sm (fun i => f i - g i) n = sm f n - sm g n := by
  induction n with
  | zero => rfl
  | succ n ih => rw [sm, sm, sm, ih]; omega
theorem sm_zero (n : Nat) : sm (fun _ => 0) n = 0 := by
  induction n with
  | zero => rfl
  | succ n ih => rw [sm, ih]; rfl
theorem sm_spike (f : Nat → Int) (k : Nat) (n : Nat) (h : ∀ i, i < n → i ≠ k → f i = 0) : sm f n = if k < n then f k else 0 := by
  induction n with
  | zero => rfl
  | succ n ih =>
    rw [sm, ih (fun i a b => h i (by omega) b)]
    by_cases c : k < n
    · rw [if_pos c, if_pos (by omega), h n (by omega) (by omega)]; omega
    · by_cases e : n = k
      · subst e; rw [if_neg c, if_pos (by omega)]; omega
      · rw [if_neg c, if_neg (by omega), h n (by omega) e]; rfl
theorem ls_congr (l : List Int) {f g : Nat → Int} (h : ∀ s ∈ l, f s.toNat = g s.toNat) : ls l f = ls l g := by
  induction l with
  | nil => rfl
  | cons s l ih => rw [ls, ls, h s (by simp), ih (fun x hx => h x (List.mem_cons_of_mem _ hx))]
theorem ls_mul (l : List Int) (f : Nat → Int) (a : Int) : ls l (fun s => a * f s) = a * ls l f := by
  induction l with
  | nil => simp [ls]
  | cons s l ih => rw [ls, ls, ih, Int.mul_add]
theorem ls_zero (l : List Int) {f : Nat → Int} (h : ∀ s ∈ l, f s.toNat = 0) : ls l f = 0 := by
  induction l with
  | nil => rfl
  | cons s l ih => rw [ls, h s (by simp), ih (fun x hx => h x (List.mem_cons_of_mem _ hx))]; rfl
theorem ls_sub (l : List Int) (f g : Nat → Int) : ls l (fun s => f s - g s) = ls l f - ls l g := by
  induction l with
  | nil => rfl
  | cons s l ih => rw [ls, ls, ls, ih]; omega
theorem sm_ls (l : List Int) (f : Nat → Nat → Int) (n : Nat) : sm (fun i => ls l (f i)) n = ls l (fun s => sm (fun i => f i s) n) := by
  induction l with
  | nil => simp only [ls]; exact sm_zero n
  | cons s l ih => simp only [ls]; rw [sm_add, ih]
theorem sm_shift (g : Nat → Nat → Int) (s n : Nat) : sm (fun j => if s ≤ j then g (j - s) j else 0) n = sm (fun i => if i + s < n then g i (i + s) else 0) n := by
  induction n with
  | zero => rfl
  | succ n ih =>
    have e : sm (fun i => if i + s < n + 1 then g i (i + s) else 0) n = sm (fun i => if i + s < n then g i (i + s) else 0) n + sm (fun i => if i + s = n then g i (i + s) else 0) n := by
      rw [← sm_add]
      refine sm_congr n (fun i hi => ?_)
      by_cases a : i + s < n
      · rw [if_pos a, if_pos (by omega), if_neg (by omega)]; omega
      · by_cases b : i + s = n
        · rw [if_neg a, if_pos b, if_pos (by omega)]; omega
        · rw [if_neg a, if_neg b, if_neg (by omega)]; rfl
    rw [sm, sm, ih, e, sm_spike (fun i => if i + s = n then g i (i + s) else 0) (n - s) n (fun i _ hk => if_neg (by omega))]
    by_cases a : s ≤ n
    · by_cases b : n - s < n
      · rw [if_pos a, if_pos b]
        rw [if_pos (show n - s + s = n from by omega), if_neg (show ¬ n + s < n + 1 from by omega), show n - s + s = n from by omega]; omega
      · have z : s = 0 := by omega
        subst z
        rw [if_pos (by omega), if_neg b, if_pos (by omega)]
        simp only [Nat.sub_zero, Nat.add_zero]; omega
    · rw [if_neg a, if_neg (show ¬ n + s < n + 1 from by omega)]
      by_cases b : n - s < n
      · rw [if_pos b, if_neg (by omega)]; omega
      · rw [if_neg b]; omega
/-- Ways forth (D) and any values V which are nothing where one can't stand. -/
theorem adjoint (N : Nat) (l : List Int) (hl : ∀ s ∈ l, 1 ≤ s) (D V : Nat → Int) (st : Nat → Bool) (hD0 : D 0 = 1)
    (hD : ∀ j, 1 ≤ j → j ≤ N → D j = if st j = true then ls l (fun s => if s ≤ j then D (j - s) else 0) else 0)
    (hV : ∀ j, 1 ≤ j → j ≤ N → st j ≠ true → V j = 0) :
    sm (fun i => D i * (V i - ls l (fun s => if i + s ≤ N then V (i + s) else 0))) (N + 1) = V 0 := by
  have e1 : sm (fun i => D i * V i) (N + 1) = V 0 + sm (fun j => ls l (fun s => if s ≤ j then D (j - s) * V j else 0)) (N + 1) := by
    have e : ∀ j, j < N + 1 → D j * V j = (if j = 0 then V 0 else 0) + ls l (fun s => if s ≤ j then D (j - s) * V j else 0) := by
      intro j hj
      by_cases z : j = 0
      · subst z
        rw [if_pos rfl, hD0, Int.one_mul, ls_zero l (fun s hs => if_neg (by have := hl s hs; omega))]; omega
      · rw [if_neg z]
        by_cases q : st j = true
        · rw [hD j (by omega) (by omega), if_pos q, Int.zero_add, Int.mul_comm, ← ls_mul]
          refine ls_congr l (fun s _ => ?_)
          by_cases c : s.toNat ≤ j
          · rw [if_pos c, if_pos c, Int.mul_comm]
          · rw [if_neg c, if_neg c, Int.mul_zero]
        · rw [hV j (by omega) (by omega) q, Int.mul_zero, ls_zero l (fun s _ => by split <;> simp)]; rfl
    rw [sm_congr (N + 1) e, sm_add, sm_spike (fun j => if j = 0 then V 0 else 0) 0 (N + 1) (fun i _ h => if_neg h), if_pos (by omega), if_pos rfl]
  have e2 : sm (fun j => ls l (fun s => if s ≤ j then D (j - s) * V j else 0)) (N + 1) = sm (fun i => D i * ls l (fun s => if i + s ≤ N then V (i + s) else 0)) (N + 1) := by
    rw [sm_ls l (fun j s => if s ≤ j then D (j - s) * V j else 0)]
    have h : ∀ i, i < N + 1 → D i * ls l (fun s => if i + s ≤ N then V (i + s) else 0) = ls l (fun s => if i + s < N + 1 then D i * V (i + s) else 0) := by
      intro i _
      rw [← ls_mul]
      refine ls_congr l (fun s _ => ?_)
      by_cases c : i + s.toNat ≤ N
      · rw [if_pos c, if_pos (by omega)]
      · rw [if_neg c, if_neg (by omega), Int.mul_zero]
    rw [sm_congr (N + 1) h, sm_ls l (fun i s => if i + s < N + 1 then D i * V (i + s) else 0)]
    exact ls_congr l (fun s _ => sm_shift (fun a j => D a * V j) s.toNat (N + 1))
  have e3 : sm (fun i => D i * (V i - ls l (fun s => if i + s ≤ N then V (i + s) else 0))) (N + 1) = sm (fun i => D i * V i) (N + 1) - sm (fun i => D i * ls l (fun s => if i + s ≤ N then V (i + s) else 0)) (N + 1) := by
    rw [← sm_sub]; exact sm_congr _ (fun i _ => Int.mul_sub _ _ _)
  rw [e3, e1, e2]; omega
theorem adjoint_at (N k : Nat) (l : List Int) (hl : ∀ s ∈ l, 1 ≤ s) (D V : Nat → Int) (st : Nat → Bool) (hD0 : D 0 = 1) (hk : k ≤ N)
    (hD : ∀ j, 1 ≤ j → j ≤ N → D j = if st j = true then ls l (fun s => if s ≤ j then D (j - s) else 0) else 0)
    (hV : ∀ j, 1 ≤ j → j ≤ N → st j ≠ true → V j = 0)
    (h : ∀ i, i ≤ N → i ≠ k → D i * (V i - ls l (fun s => if i + s ≤ N then V (i + s) else 0)) = 0) :
    D k * (V k - ls l (fun s => if k + s ≤ N then V (k + s) else 0)) = V 0 := by
  have e := adjoint N l hl D V st hD0 hD hV
  rw [sm_spike _ k (N + 1) (fun i a b => h i (by omega) b), if_pos (by omega)] at e
  exact e
/-- With step k broken as many ways are lost as lead through it. -/
theorem lost (N k : Nat) (l : List Int) (hl : ∀ s ∈ l, 1 ≤ s) (D U U' : Nat → Int) (st : Nat → Bool) (hD0 : D 0 = 1) (hk : k < N) (hk0 : 1 ≤ k)
    (hD : ∀ j, 1 ≤ j → j ≤ N → D j = if st j = true then ls l (fun s => if s ≤ j then D (j - s) else 0) else 0)
    (hUN : U N = 1) (hUN' : U' N = 1)
    (hU : ∀ i, i < N → U i = if st i = true then ls l (fun s => if i + s ≤ N then U (i + s) else 0) else 0)
    (hU' : ∀ i, i < N → U' i = if st i = true ∧ i ≠ k then ls l (fun s => if i + s ≤ N then U' (i + s) else 0) else 0)
    (hst : st N = true) (hst0 : st 0 = true) :
    D k * U k = U 0 - U' 0 := by
  have hz : ∀ d i, i + d = N → k < i → U' i = U i := by
    intro d
    induction d using Nat.strongRecOn with
    | ind d ih =>
      intro i hd hi
      by_cases z : i = N
      · subst z; rw [hUN, hUN']
      · rw [hU i (by omega), hU' i (by omega)]
        by_cases q : st i = true
        · rw [if_pos q, if_pos ⟨q, by omega⟩]
          refine ls_congr l (fun s hs => ?_)
          have := hl s hs
          by_cases c : i + s.toNat ≤ N
          · rw [if_pos c, if_pos c]; exact ih (N - (i + s.toNat)) (by omega) _ (by omega) (by omega)
          · rw [if_neg c, if_neg c]
        · rw [if_neg q, if_neg (fun x => q x.1)]
  have hdef : ∀ i, ls l (fun s => if i + s ≤ N then U (i + s) - U' (i + s) else 0) = ls l (fun s => if i + s ≤ N then U (i + s) else 0) - ls l (fun s => if i + s ≤ N then U' (i + s) else 0) := by
    intro i
    rw [← ls_sub]
    exact ls_congr l (fun s _ => by split <;> simp)
  have e := adjoint_at N k l hl D (fun i => U i - U' i) st hD0 (by omega) hD (by
    intro j h1 h2 h3
    have : j ≠ N := fun z => h3 (z ▸ hst)
    show U j - U' j = 0
    rw [hU j (by omega), hU' j (by omega), if_neg h3, if_neg (fun x => h3 x.1)]; rfl) (by
    intro i hi hik
    show D i * (U i - U' i - ls l (fun s => if i + s ≤ N then U (i + s) - U' (i + s) else 0)) = 0
    by_cases z : i = N
    · subst z
      rw [hUN, hUN', ls_zero l (fun s hs => if_neg (by have := hl s hs; omega))]; simp
    · by_cases q : st i = true
      · rw [hdef, hU i (by omega), hU' i (by omega), if_pos q, if_pos ⟨q, hik⟩, Int.sub_self, Int.mul_zero]
      · have : D i = 0 := by
          by_cases y : i = 0
          · subst y; exact absurd hst0 q
          · rw [hD i (by omega) (by omega), if_neg q]
        rw [this, Int.zero_mul])
  have e : D k * (U k - U' k - ls l (fun s => if k + s ≤ N then U (k + s) - U' (k + s) else 0)) = U 0 - U' 0 := e
  rw [ls_zero l (fun s hs => by
    have := hl s hs
    by_cases c : k + s.toNat ≤ N
    · rw [if_pos c, hz (N - (k + s.toNat)) _ (by omega) (by omega), Int.sub_self]
    · rw [if_neg c]), hU' k hk, if_neg (fun x => x.2 rfl)] at e
  simpa using e
/-- As many ways lead down from the top as up to it. -/
theorem ways_both (N : Nat) (l : List Int) (hl : ∀ s ∈ l, 1 ≤ s) (D U : Nat → Int) (st : Nat → Bool) (hD0 : D 0 = 1)
    (hD : ∀ j, 1 ≤ j → j ≤ N → D j = if st j = true then ls l (fun s => if s ≤ j then D (j - s) else 0) else 0)
    (hUN : U N = 1)
    (hU : ∀ i, i < N → U i = if st i = true then ls l (fun s => if i + s ≤ N then U (i + s) else 0) else 0)
    (hst : st N = true) (hst0 : st 0 = true) : D N = U 0 := by
  have e := adjoint_at N N l hl D U st hD0 (Nat.le_refl _) hD (by
    intro j h1 h2 h3
    have : j ≠ N := fun z => h3 (z ▸ hst)
    rw [hU j (by omega), if_neg h3]) (by
    intro i hi hik
    by_cases q : st i = true
    · rw [hU i (by omega), if_pos q, Int.sub_self, Int.mul_zero]
    · have : D i = 0 := by
        by_cases y : i = 0
        · subst y; exact absurd hst0 q
        · rw [hD i (by omega) (by omega), if_neg q]
      rw [this, Int.zero_mul])
  rw [ls_zero l (fun s hs => if_neg (by have := hl s hs; omega)), hUN] at e
  simpa using e

-- block ways
/-- What the strides bring to a step from the steps above it. -/
def Gu (x : List Int) (N cur : Nat) (s : Nat) : Int := if cur + s ≤ N then rd x ((cur + s : Nat) : Int) else 0
theorem ls_le (l : List Int) {f g : Nat → Int} (h : ∀ s ∈ l, f s.toNat ≤ g s.toNat) : ls l f ≤ ls l g := by
  induction l with
  | nil => exact Int.le_refl _
  | cons s l ih =>
    have a := h s (by simp)
    have b := ih (fun x hx => h x (List.mem_cons_of_mem _ hx))
    rw [ls, ls]; omega
theorem ls_nonneg (l : List Int) {f : Nat → Int} (h : ∀ s ∈ l, 0 ≤ f s.toNat) : 0 ≤ ls l f := by
  have := ls_le l (f := fun _ => 0) (g := f) h
  rw [ls_zero l (fun _ _ => rfl)] at this; exact this
theorem rd_get {l : List Int} {i : Nat} (h : i < l.length) : rd l (i : Int) = l[i] := by
  simp [rd, List.getD_eq_getElem?_getD, List.getElem?_eq_getElem h]
theorem drop_rd {l : List Int} {i : Nat} (h : i < l.length) : l.drop i = rd l (i : Int) :: l.drop (i + 1) := by
  rw [rd_get h]; exact List.drop_eq_getElem_cons h
theorem mem_drop_rd {l : List Int} {i : Nat} {s : Int} (h : s ∈ l.drop i) : ∃ j : Nat, j < l.length ∧ rd l (j : Int) = s := by
  obtain ⟨j, hj, e⟩ := List.mem_iff_getElem.1 (List.mem_of_mem_drop h)
  exact ⟨j, hj, by rw [rd_get hj]; exact e⟩
theorem Ris_mem {l : List Int} (hl : Ris l) {i : Nat} {s : Int} (h : s ∈ l.drop i) : 1 ≤ s ∧ s ≤ 9 := by
  obtain ⟨j, hj, rfl⟩ := mem_drop_rd h
  exact (hl j hj).1
theorem geo (l : List Int) (hl : Ris l) (M : Nat) (d : Nat) : ∀ i, i + d = l.length → ls (l.drop i) (fun s => if s ≤ M then ((pw (M - s) : Nat) : Int) else 0) ≤ if i < l.length ∧ (rd l (i : Int)).toNat ≤ M then 2 * ((pw (M - (rd l (i : Int)).toNat) : Nat) : Int) else 0 := by
  induction d with
  | zero =>
    intro i hd
    rw [List.drop_eq_nil_of_le (by omega), ls]
    split <;> omega
  | succ d ih =>
    intro i hd
    have hi : i < l.length := by omega
    have n := ih (i + 1) (by omega)
    rw [drop_rd hi, ls]
    have a := (hl i hi).1
    by_cases c : (rd l (i : Int)).toNat ≤ M
    · rw [if_pos c, if_pos ⟨hi, c⟩]
      by_cases g : i + 1 < l.length ∧ (rd l ((i + 1 : Nat) : Int)).toNat ≤ M
      · rw [if_pos g] at n
        have u := (hl (i + 1) g.1).2 (by omega)
        rw [show i + 1 - 1 = i from by omega] at u
        have t := two_pow_step (a := M) (b := (rd l (i : Int)).toNat) (c := (rd l ((i + 1 : Nat) : Int)).toNat) (by omega) g.2
        omega
      · rw [if_neg g] at n; omega
    · rw [if_neg c, if_neg (fun z => c z.2)]
      by_cases g : i + 1 < l.length ∧ (rd l ((i + 1 : Nat) : Int)).toNat ≤ M
      · have u := (hl (i + 1) g.1).2 (by omega)
        rw [show i + 1 - 1 = i from by omega] at u
        omega
      · rw [if_neg g] at n; omega
theorem geo0 (l : List Int) (hl : Ris l) (M : Nat) : ls l (fun s => if s ≤ M then ((pw (M - s) : Nat) : Int) else 0) ≤ ((pw M : Nat) : Int) := by
  have n := geo l hl M l.length 0 (by omega)
  rw [List.drop_zero] at n
  by_cases g : 0 < l.length ∧ (rd l ((0 : Nat) : Int)).toNat ≤ M
  · rw [if_pos g] at n
    have u := (hl 0 g.1).1
    have t := two_pow_step (a := M) (b := 0) (c := (rd l ((0 : Nat) : Int)).toNat) (by omega) g.2
    rw [Nat.sub_zero] at t
    omega
  · rw [if_neg g] at n; omega
/-- The ways to the top. -/
structure UpOk (N : Nat) (l b : List Int) (x : List Int) : Prop where
  len : x.length = N + 1
  top : rd x (N : Int) = 1
  eqn : ∀ i : Nat, i < N → rd x (i : Int) = if (i : Int) ∈ b then 0 else ls l (Gu x N i)
  pos : ∀ i : Nat, i ≤ N → 0 ≤ rd x (i : Int)
  low : ∀ i : Nat, i ≤ N → rd x (i : Int) ≤ ((pw (N - i) : Nat) : Int)
theorem up_l1 (N : Nat) (l b : List Int) (hN : N ≤ 60) (hl : Ris l) (hl5 : l.length ≤ 5) (hb : b.length ≤ 1048576) (cur : Nat) (hc : cur < N) (d : Nat) : ∀ (k i : Nat) (x : List Int), i + d = l.length → 1100000 + d < k → x.length = N + 1 →
    (∀ j : Nat, j ≤ N → 0 ≤ rd x (j : Int)) → rd x (cur : Int) + ls (l.drop i) (Gu x N cur) ≤ 1152921504606846976 →
    ∃ x' m, k ≤ m + d + 1 ∧ impl_Stairs_up.l1 k x cur l l.length i N l b = impl_Stairs_up.l0 m x' ((cur : Int) - 1) N l b ∧ x'.length = N + 1 ∧ (∀ j : Nat, j ≠ cur → rd x' (j : Int) = rd x (j : Int)) ∧ rd x' (cur : Int) = rd x (cur : Int) + if (cur : Int) ∈ b then 0 else ls (l.drop i) (Gu x N cur) := by
  induction d with
  | zero =>
    intro k i x hd hk hx hp hbd
    obtain ⟨k, rfl⟩ : ∃ m, k = m + 1 := ⟨k - 1, by omega⟩
    refine ⟨x, k, by omega, ?_, hx, fun _ _ => rfl, ?_⟩
    · simp only [impl_Stairs_up.l1]; rw [if_neg (by omega), w64 (by omega)]
    · rw [List.drop_eq_nil_of_le (by omega), ls]; split <;> omega
  | succ d ih =>
    intro k i x hd hk hx hp hbd
    obtain ⟨k, rfl⟩ : ∃ m, k = m + 1 := ⟨k - 1, by omega⟩
    have hi : i < l.length := by omega
    have hs := (hl i hi).1
    have e1 : wrap64 ((i : Int) + 1) = ((i + 1 : Nat) : Int) := by rw [w64 (by omega)]; rfl
    have nn : ∀ (y : List Int), (∀ j : Nat, j ≤ N → 0 ≤ rd y (j : Int)) → ∀ i, 0 ≤ ls (l.drop i) (Gu y N cur) := fun y hy i => ls_nonneg _ (fun s _ => by unfold Gu; split; exact hy _ (by assumption); exact Int.le_refl _)
    rw [drop_rd hi, ls] at hbd ⊢
    have n1 := nn x hp (i + 1)
    obtain ⟨s, es⟩ := Int.eq_ofNat_of_zero_le (show 0 ≤ rd l (i : Int) by omega)
    rw [es, Int.toNat_natCast] at hbd ⊢
    rw [es] at hs
    rw [impl_Stairs_up.l1, if_pos (show (i : Int) < (l.length : Int) by omega), if_pos (show (0 : Int) ≤ (i : Int) by omega), if_pos (show (i : Int) < (l.length : Int) by omega), es, e1, w64 (x := (cur : Int) + (s : Int)) (by omega)]
    by_cases h : cur + s ≤ N
    · have eg : Gu x N cur s = rd x ((cur + s : Nat) : Int) := by unfold Gu; rw [if_pos h]
      have p1 := hp (cur + s) h
      have p2 := hp cur (by omega)
      rw [if_pos (show (cur : Int) + (s : Int) ≤ (N : Int) by omega), isBroken_eq N l b cur hb (by omega), Option.bind_some]
      by_cases g : (cur : Int) ∈ b
      · rw [if_pos (decide_eq_true g), if_pos g]
        obtain ⟨x', m, g1, g2, g3, g4, g5⟩ := ih k (i + 1) x (by omega) (by omega) hx hp (by omega)
        rw [if_pos g] at g5
        exact ⟨x', m, by omega, g2, g3, g4, g5⟩
      · rw [if_neg (by rw [decide_eq_false g]; simp), if_pos (show (0 : Int) ≤ (cur : Int) by omega), if_pos (show (cur : Int) < (x.length : Int) by omega), if_pos (show (0 : Int) ≤ (cur : Int) + (s : Int) by omega), if_pos (show (cur : Int) + (s : Int) < (x.length : Int) by omega), show (cur : Int) + (s : Int) = ((cur + s : Nat) : Int) from rfl, Int.toNat_natCast, if_neg g]
        rw [eg] at hbd ⊢
        rw [w64 (x := rd x (cur : Int) + rd x ((cur + s : Nat) : Int)) (by omega)]
        generalize hv : rd x (cur : Int) + rd x ((cur + s : Nat) : Int) = v at *
        have q1 : rd (x.set cur v) (cur : Int) = v := rd_set_eq x cur v (by omega)
        have q2 : ∀ j : Nat, j ≠ cur → rd (x.set cur v) (j : Int) = rd x (j : Int) := fun j e => rd_set_ne _ _ _ _ e
        have q3 : ls (l.drop (i + 1)) (Gu (x.set cur v) N cur) = ls (l.drop (i + 1)) (Gu x N cur) := ls_congr _ (fun t ht => by
          have := Ris_mem hl ht
          unfold Gu
          by_cases z : cur + t.toNat ≤ N
          · rw [if_pos z, if_pos z, q2 _ (by omega)]
          · rw [if_neg z, if_neg z])
        obtain ⟨x', m, g1, g2, g3, g4, g5⟩ := ih k (i + 1) (x.set cur v) (by omega) (by omega) (by rw [List.length_set]; exact hx) (fun j hj => by
          by_cases e : j = cur
          · subst e; rw [q1]; omega
          · rw [q2 j e]; exact hp j hj) (by rw [q1, q3]; omega)
        rw [if_neg g, q1, q3] at g5
        exact ⟨x', m, by omega, g2, g3, fun j e => (g4 j e).trans (q2 j e), by rw [g5]; omega⟩
    · have eg : Gu x N cur s = 0 := by unfold Gu; rw [if_neg h]
      rw [eg] at hbd ⊢
      rw [if_neg (show ¬ (cur : Int) + (s : Int) ≤ (N : Int) by omega), Int.zero_add]
      obtain ⟨x', m, g1, g2, g3, g4, g5⟩ := ih k (i + 1) x (by omega) (by omega) hx hp (by omega)
      exact ⟨x', m, by omega, g2, g3, g4, g5⟩
/-- So far: all steps from cur on are done. -/
structure UpTo (N : Nat) (l b : List Int) (x : List Int) (cur : Nat) : Prop where
  len : x.length = N + 1
  top : rd x (N : Int) = 1
  eqn : ∀ i : Nat, cur ≤ i → i < N → rd x (i : Int) = if (i : Int) ∈ b then 0 else ls l (Gu x N i)
  pos : ∀ i : Nat, i ≤ N → 0 ≤ rd x (i : Int)
  low : ∀ i : Nat, i ≤ N → rd x (i : Int) ≤ ((pw (N - i) : Nat) : Int)
  nil : ∀ i : Nat, i < cur → i < N → rd x (i : Int) = 0
theorem Gu_bound (N : Nat) (l x : List Int) (hl : Ris l) (cur : Nat) (hc : cur < N) (low : ∀ i : Nat, i ≤ N → rd x (i : Int) ≤ ((pw (N - i) : Nat) : Int)) : ls l (Gu x N cur) ≤ ((pw (N - cur) : Nat) : Int) := by
  refine Int.le_trans (ls_le l (g := fun s => if s ≤ N - cur then ((pw (N - cur - s) : Nat) : Int) else 0) (fun s _ => ?_)) (geo0 l hl (N - cur))
  unfold Gu
  by_cases z : cur + s.toNat ≤ N
  · rw [if_pos z, if_pos (show s.toNat ≤ N - cur by omega), show N - cur - s.toNat = N - (cur + s.toNat) from by omega]; exact low _ z
  · rw [if_neg z, if_neg (by omega)]; exact Int.le_refl _
theorem up_l0 (N : Nat) (l b : List Int) (hN : N ≤ 60) (hl : Ris l) (hl5 : l.length ≤ 5) (hb : b.length ≤ 1048576) (cur : Nat) : ∀ (k : Nat) (x : List Int), cur ≤ N → 1100100 + 10 * cur < k → UpTo N l b x cur →
    ∃ x', impl_Stairs_up.l0 k x ((cur : Int) - 1) N l b = some x' ∧ UpOk N l b x' := by
  induction cur with
  | zero =>
    intro k x hc hk D
    obtain ⟨k, rfl⟩ : ∃ m, k = m + 1 := ⟨k - 1, by omega⟩
    refine ⟨x, by rw [impl_Stairs_up.l0, if_neg (by omega)], ⟨D.len, D.top, fun i hi => D.eqn i (by omega) hi, D.pos, D.low⟩⟩
  | succ cur ih =>
    intro k x hc hk D
    obtain ⟨k, rfl⟩ : ∃ m, k = m + 1 := ⟨k - 1, by omega⟩
    have hp : pw (N - cur) ≤ 1152921504606846976 := pw_le (by omega)
    have gb := Gu_bound N l x hl cur (by omega) D.low
    have z := D.nil cur (by omega) (by omega)
    rw [impl_Stairs_up.l0, show ((cur + 1 : Nat) : Int) - 1 = (cur : Int) from by omega, if_pos (by omega)]
    obtain ⟨x', m, g1, g2, g3, g4, g5⟩ := up_l1 N l b hN hl hl5 hb cur (by omega) l.length k 0 x (by omega) (by omega) D.len D.pos (by rw [z, List.drop_zero]; omega)
    rw [show ((0 : Nat) : Int) = 0 from rfl] at g2
    rw [g2]
    rw [z, List.drop_zero, Int.zero_add] at g5
    have gp : 0 ≤ ls l (Gu x N cur) := ls_nonneg _ (fun s _ => by unfold Gu; split; exact D.pos _ (by assumption); exact Int.le_refl _)
    have eG : ∀ i : Nat, cur ≤ i → ls l (Gu x' N i) = ls l (Gu x N i) := fun i hi => ls_congr _ (fun t ht => by
      have := Ris_mem hl (i := 0) (by rw [List.drop_zero]; exact ht)
      unfold Gu
      by_cases z : i + t.toNat ≤ N
      · rw [if_pos z, if_pos z, g4 _ (by omega)]
      · rw [if_neg z, if_neg z])
    refine ih m x' (by omega) (by omega) ⟨g3, by rw [g4 N (by omega)]; exact D.top, fun i h1 h2 => ?_, fun i hi => ?_, fun i hi => ?_, fun i h1 h2 => by rw [g4 i (by omega)]; exact D.nil i (by omega) h2⟩
    · rw [eG i h1]
      by_cases e : i = cur
      · subst e; exact g5
      · rw [g4 i e]; exact D.eqn i (by omega) h2
    · by_cases e : i = cur
      · subst e; rw [g5]; split <;> omega
      · rw [g4 i e]; exact D.pos i hi
    · by_cases e : i = cur
      · subst e; rw [g5]; split <;> omega
      · rw [g4 i e]; exact D.low i hi
theorem up_eq {k : Nat} (N : Nat) (l b : List Int) (hN : N ≤ 60) (hl : Ris l) (hl5 : l.length ≤ 5) (hb : b.length ≤ 1048576) (hk : 1200000 < k) : ∃ x, impl_Stairs_up.f k N l b = some x ∧ UpOk N l b x := by
  have e : wrap64 ((N : Int) + 1) = ((N + 1 : Nat) : Int) := by rw [w64 (by omega)]; rfl
  have q1 : rd ((List.replicate (N + 1) (0 : Int)).set N 1) (N : Int) = 1 := rd_set_eq _ N 1 (by simp)
  obtain ⟨x, h1, h2⟩ := up_l0 N l b hN hl hl5 hb N k ((List.replicate (N + 1) (0 : Int)).set N 1) (Nat.le_refl _) (by omega) ⟨by simp, q1, fun i h1 h2 => by omega, fun i hi => by
      by_cases c : i = N
      · subst c; omega
      · rw [rd_set_ne _ _ _ _ c, rd_rep]; omega, fun i hi => by
      by_cases c : i = N
      · subst c; rw [q1, Nat.sub_self]; unfold pw; decide
      · rw [rd_set_ne _ _ _ _ c, rd_rep]; omega, fun i h1 _ => by rw [rd_set_ne _ _ _ _ (by omega), rd_rep]⟩
  refine ⟨x, ?_, h2⟩
  unfold impl_Stairs_up.f
  rw [e, if_pos (by omega), if_pos (by omega), Option.bind_some, if_pos (by omega), if_pos (by simp; omega), Int.toNat_natCast, Int.toNat_natCast, w64 (x := (N : Int) - 1) (by omega)]
  exact h1
/-- The capped ways are none just where the ways are none. -/
def Zs (N : Nat) (x y : List Int) (from_ : Nat) : Prop := ∀ i : Nat, from_ ≤ i → i ≤ N → (0 ≤ rd y (i : Int) ∧ rd y (i : Int) ≤ 1000000000000001) ∧ (rd y (i : Int) = 0 ↔ rd x (i : Int) = 0)
theorem ways_l1 (N : Nat) (l b x : List Int) (hN : N ≤ 60) (hl : Ris l) (hl5 : l.length ≤ 5) (U : UpOk N l b x) (cur : Nat) (hc : cur < N) (d : Nat) : ∀ (k i : Nat) (y : List Int), i + d = l.length → d < k → y.length = N + 1 → Zs N x y (cur + 1) → 0 ≤ rd y (cur : Int) → rd y (cur : Int) ≤ 1000000000000001 →
    ∃ y' m, k ≤ m + d + 1 ∧ spec_clWays.l1 k y cur l l.length i N l b = spec_clWays.l0 m y' ((cur : Int) - 1) N l b ∧ y'.length = N + 1 ∧ (∀ j : Nat, j ≠ cur → rd y' (j : Int) = rd y (j : Int)) ∧ (0 ≤ rd y' (cur : Int) ∧ rd y' (cur : Int) ≤ 1000000000000001) ∧ (rd y' (cur : Int) = 0 ↔ rd y (cur : Int) = 0 ∧ ls (l.drop i) (Gu x N cur) = 0) := by
  induction d with
  | zero =>
    intro k i y hd hk hy Z h0 h1
    obtain ⟨k, rfl⟩ : ∃ m, k = m + 1 := ⟨k - 1, by omega⟩
    refine ⟨y, k, by omega, ?_, hy, fun _ _ => rfl, ⟨h0, h1⟩, ?_⟩
    · simp only [spec_clWays.l1]; rw [if_neg (by omega), w64 (by omega)]
    · rw [List.drop_eq_nil_of_le (by omega), ls]; simp
  | succ d ih =>
    intro k i y hd hk hy Z h0 h1
    obtain ⟨k, rfl⟩ : ∃ m, k = m + 1 := ⟨k - 1, by omega⟩
    have hi : i < l.length := by omega
    have hs := (hl i hi).1
    have e1 : wrap64 ((i : Int) + 1) = ((i + 1 : Nat) : Int) := by rw [w64 (by omega)]; rfl
    have n1 : 0 ≤ ls (l.drop (i + 1)) (Gu x N cur) := ls_nonneg _ (fun s _ => by unfold Gu; split; exact U.pos _ (by assumption); exact Int.le_refl _)
    rw [drop_rd hi, ls]
    obtain ⟨s, es⟩ := Int.eq_ofNat_of_zero_le (show 0 ≤ rd l (i : Int) by omega)
    rw [es, Int.toNat_natCast]
    rw [es] at hs
    rw [spec_clWays.l1, if_pos (show (i : Int) < (l.length : Int) by omega), if_pos (show (0 : Int) ≤ (i : Int) by omega), if_pos (show (i : Int) < (l.length : Int) by omega), es, e1, w64 (x := (cur : Int) + (s : Int)) (by omega)]
    by_cases h : cur + s ≤ N
    · have eg : Gu x N cur s = rd x ((cur + s : Nat) : Int) := by unfold Gu; rw [if_pos h]
      have p1 := U.pos (cur + s) h
      obtain ⟨⟨z1, z2⟩, z3⟩ := Z (cur + s) (by omega) h
      rw [if_pos (show (cur : Int) + (s : Int) ≤ (N : Int) by omega), if_pos (show (0 : Int) ≤ (cur : Int) by omega), if_pos (show (cur : Int) < (y.length : Int) by omega), if_pos (show (0 : Int) ≤ (cur : Int) + (s : Int) by omega), if_pos (show (cur : Int) + (s : Int) < (y.length : Int) by omega), show (cur : Int) + (s : Int) = ((cur + s : Nat) : Int) from rfl, Int.toNat_natCast, eg]
      rw [w64 (x := rd y (cur : Int) + rd y ((cur + s : Nat) : Int)) (by omega)]
      obtain ⟨v, ev, v1, v2, v3⟩ : ∃ v, spec_l1Least.f (rd y (cur : Int) + rd y ((cur + s : Nat) : Int)) 1000000000000001 = some v ∧ 0 ≤ v ∧ v ≤ 1000000000000001 ∧ (v = 0 ↔ rd y (cur : Int) = 0 ∧ rd y ((cur + s : Nat) : Int) = 0) := by
        unfold spec_l1Least.f
        by_cases q : rd y (cur : Int) + rd y ((cur + s : Nat) : Int) < 1000000000000001
        · rw [if_pos q]; exact ⟨_, rfl, by omega, by omega, by omega⟩
        · rw [if_neg q]; exact ⟨_, rfl, by omega, by omega, by omega⟩
      rw [ev, Option.bind_some]
      have q1 : rd (y.set cur v) (cur : Int) = v := rd_set_eq y cur v (by omega)
      have q2 : ∀ j : Nat, j ≠ cur → rd (y.set cur v) (j : Int) = rd y (j : Int) := fun j e => rd_set_ne _ _ _ _ e
      obtain ⟨y', m, g1, g2, g3, g4, g5, g6⟩ := ih k (i + 1) (y.set cur v) (by omega) (by omega) (by rw [List.length_set]; exact hy) (fun j a c => by rw [q2 j (by omega)]; exact Z j a c) (by rw [q1]; exact v1) (by rw [q1]; exact v2)
      rw [q1] at g6
      refine ⟨y', m, by omega, g2, g3, fun j e => (g4 j e).trans (q2 j e), g5, ?_⟩
      rw [g6, v3, z3]; omega
    · have eg : Gu x N cur s = 0 := by unfold Gu; rw [if_neg h]
      rw [eg, if_neg (show ¬ (cur : Int) + (s : Int) ≤ (N : Int) by omega), Int.zero_add]
      obtain ⟨y', m, g1, g2, g3, g4, g5, g6⟩ := ih k (i + 1) y (by omega) (by omega) hy Z h0 h1
      exact ⟨y', m, by omega, g2, g3, g4, g5, g6⟩
theorem ways_l0 (N : Nat) (l b x : List Int) (hN : N ≤ 60) (hl : Ris l) (hl5 : l.length ≤ 5) (hb : b.length ≤ 1048576) (U : UpOk N l b x) (cur : Nat) : ∀ (k : Nat) (y : List Int), cur ≤ N → 1100100 + 10 * cur < k → y.length = N + 1 → Zs N x y cur → (∀ i : Nat, i < cur → rd y (i : Int) = 0) →
    ∃ y', spec_clWays.l0 k y ((cur : Int) - 1) N l b = some y' ∧ y'.length = N + 1 ∧ Zs N x y' 0 := by
  induction cur with
  | zero =>
    intro k y hc hk hy Z _
    obtain ⟨k, rfl⟩ : ∃ m, k = m + 1 := ⟨k - 1, by omega⟩
    exact ⟨y, by rw [spec_clWays.l0, if_neg (by omega)], hy, Z⟩
  | succ cur ih =>
    intro k y hc hk hy Z h0
    obtain ⟨k, rfl⟩ : ∃ m, k = m + 1 := ⟨k - 1, by omega⟩
    have z := h0 cur (by omega)
    have ex := U.eqn cur (by omega)
    rw [spec_clWays.l0, show ((cur + 1 : Nat) : Int) - 1 = (cur : Int) from by omega, if_pos (by omega), clStands_eq N l b cur (by omega) hb (by omega), Option.bind_some]
    by_cases g : (cur : Int) ∈ b
    · rw [if_neg (by rw [decide_eq_true g]; simp), w64 (x := (cur : Int) - 1) (by omega)]
      rw [if_pos g] at ex
      refine ih k y (by omega) (by omega) hy (fun i a c => ?_) (fun i a => h0 i (by omega))
      by_cases e : i = cur
      · subst e; rw [z, ex]; exact ⟨by omega, by simp⟩
      · exact Z i (by omega) c
    · rw [if_pos (by rw [decide_eq_false g]; rfl)]
      rw [if_neg g] at ex
      obtain ⟨y', m, g1, g2, g3, g4, g5, g6⟩ := ways_l1 N l b x hN hl hl5 U cur (by omega) l.length k 0 y (by omega) (by omega) hy Z (by omega) (by omega)
      rw [show ((0 : Nat) : Int) = 0 from rfl] at g2
      rw [g2]
      rw [List.drop_zero, ← ex] at g6
      refine ih m y' (by omega) (by omega) g3 (fun i a c => ?_) (fun i a => by rw [g4 i (by omega)]; exact h0 i (by omega))
      by_cases e : i = cur
      · subst e; exact ⟨g5, by rw [g6]; omega⟩
      · rw [g4 i e]; exact Z i (by omega) c
theorem ways_eq {k : Nat} (N : Nat) (l b x : List Int) (hN : N ≤ 60) (hl : Ris l) (hl5 : l.length ≤ 5) (hb : b.length ≤ 1048576) (U : UpOk N l b x) (hk : 1200000 < k) : ∃ y, spec_clWays.f k N l b = some y ∧ y.length = N + 1 ∧ Zs N x y 0 := by
  have e : wrap64 ((N : Int) + 1) = ((N + 1 : Nat) : Int) := by rw [w64 (by omega)]; rfl
  have q1 : rd ((List.replicate (N + 1) (0 : Int)).set N 1) (N : Int) = 1 := rd_set_eq _ N 1 (by simp)
  obtain ⟨y, h1, h2, h3⟩ := ways_l0 N l b x hN hl hl5 hb U N k ((List.replicate (N + 1) (0 : Int)).set N 1) (Nat.le_refl _) (by omega) (by simp) (fun i a c => by
      have : i = N := by omega
      subst this
      rw [q1, U.top]; exact ⟨by omega, by simp⟩) (fun i a => by rw [rd_set_ne _ _ _ _ (by omega), rd_rep])
  refine ⟨y, ?_, h2, h3⟩
  unfold spec_clWays.f
  rw [e, if_pos (by omega), if_pos (by omega), Option.bind_some, if_pos (by omega), if_pos (by simp; omega), Int.toNat_natCast, Int.toNat_natCast, w64 (x := (N : Int) - 1) (by omega)]
  exact h1

-- block downs
/-- What the strides bring to a step from the steps below it. -/
def Gd (x : List Int) (cur : Nat) (s : Nat) : Int := if s ≤ cur then rd x ((cur - s : Nat) : Int) else 0
structure DownTo (N : Nat) (l b : List Int) (x : List Int) (cur : Nat) : Prop where
  len : x.length = N + 1
  bot : rd x 0 = 1
  eqn : ∀ i : Nat, 1 ≤ i → i < cur → i ≤ N → rd x (i : Int) = if (i : Int) ∈ b then 0 else ls l (Gd x i)
  pos : ∀ i : Nat, i ≤ N → 0 ≤ rd x (i : Int)
  low : ∀ i : Nat, i ≤ N → rd x (i : Int) ≤ ((pw i : Nat) : Int)
  nil : ∀ i : Nat, cur ≤ i → i ≤ N → rd x (i : Int) = 0
theorem down_l1 (N : Nat) (l b : List Int) (hN : N ≤ 60) (hl : Ris l) (hl5 : l.length ≤ 5) (hb : b.length ≤ 1048576) (cur : Nat) (hc0 : 1 ≤ cur) (hc : cur ≤ N) (d : Nat) : ∀ (k i : Nat) (x : List Int), i + d = l.length → 1100000 + d < k → x.length = N + 1 →
    (∀ j : Nat, j ≤ N → 0 ≤ rd x (j : Int)) → rd x (cur : Int) + ls (l.drop i) (Gd x cur) ≤ 1152921504606846976 →
    ∃ x' m, k ≤ m + d + 1 ∧ impl_Stairs_down.l1 k x cur l l.length i N l b = impl_Stairs_down.l0 m x' ((cur + 1 : Nat) : Int) N l b ∧ x'.length = N + 1 ∧ (∀ j : Nat, j ≠ cur → rd x' (j : Int) = rd x (j : Int)) ∧ rd x' (cur : Int) = rd x (cur : Int) + if (cur : Int) ∈ b then 0 else ls (l.drop i) (Gd x cur) := by
  induction d with
  | zero =>
    intro k i x hd hk hx hp hbd
    obtain ⟨k, rfl⟩ : ∃ m, k = m + 1 := ⟨k - 1, by omega⟩
    refine ⟨x, k, by omega, ?_, hx, fun _ _ => rfl, ?_⟩
    · simp only [impl_Stairs_down.l1]; rw [if_neg (by omega), w64 (by omega)]; rfl
    · rw [List.drop_eq_nil_of_le (by omega), ls]; split <;> omega
  | succ d ih =>
    intro k i x hd hk hx hp hbd
    obtain ⟨k, rfl⟩ : ∃ m, k = m + 1 := ⟨k - 1, by omega⟩
    have hi : i < l.length := by omega
    have hs := (hl i hi).1
    have n1 : 0 ≤ ls (l.drop (i + 1)) (Gd x cur) := ls_nonneg _ (fun s _ => by unfold Gd; split; exact hp _ (by omega); exact Int.le_refl _)
    rw [drop_rd hi, ls] at hbd ⊢
    obtain ⟨s, es⟩ := Int.eq_ofNat_of_zero_le (show 0 ≤ rd l (i : Int) by omega)
    rw [down_step k x cur N l b i s hi hl5 es (by omega) hN hc hb (by omega) hx]
    rw [es, Int.toNat_natCast] at hbd ⊢
    rw [es] at hs
    by_cases g : (cur : Int) ∈ b
    · rw [if_neg (fun z => z.2 g), if_pos g]
      have n2 : 0 ≤ Gd x cur s := by unfold Gd; split; exact hp _ (by omega); exact Int.le_refl _
      obtain ⟨x', m, g1, g2, g3, g4, g5⟩ := ih k (i + 1) x (by omega) (by omega) hx hp (by omega)
      rw [if_pos g] at g5
      exact ⟨x', m, by omega, g2, g3, g4, g5⟩
    · rw [if_neg g]
      by_cases h : s ≤ cur
      · have eg : Gd x cur s = rd x ((cur - s : Nat) : Int) := by unfold Gd; rw [if_pos h]
        have p1 := hp (cur - s) (by omega)
        have p2 := hp cur (by omega)
        rw [if_pos ⟨h, g⟩]
        rw [eg] at hbd ⊢
        rw [w64 (x := rd x (cur : Int) + rd x ((cur - s : Nat) : Int)) (by omega)]
        generalize hv : rd x (cur : Int) + rd x ((cur - s : Nat) : Int) = v at *
        have q1 : rd (x.set cur v) (cur : Int) = v := rd_set_eq x cur v (by omega)
        have q2 : ∀ j : Nat, j ≠ cur → rd (x.set cur v) (j : Int) = rd x (j : Int) := fun j e => rd_set_ne _ _ _ _ e
        have q3 : ls (l.drop (i + 1)) (Gd (x.set cur v) cur) = ls (l.drop (i + 1)) (Gd x cur) := ls_congr _ (fun t ht => by
          have := Ris_mem hl ht
          unfold Gd
          by_cases z : t.toNat ≤ cur
          · rw [if_pos z, if_pos z, q2 _ (by omega)]
          · rw [if_neg z, if_neg z])
        obtain ⟨x', m, g1, g2, g3, g4, g5⟩ := ih k (i + 1) (x.set cur v) (by omega) (by omega) (by rw [List.length_set]; exact hx) (fun j hj => by
          by_cases e : j = cur
          · subst e; rw [q1]; omega
          · rw [q2 j e]; exact hp j hj) (by rw [q1, q3]; omega)
        rw [if_neg g, q1, q3] at g5
        exact ⟨x', m, by omega, g2, g3, fun j e => (g4 j e).trans (q2 j e), by rw [g5]; omega⟩
      · have eg : Gd x cur s = 0 := by unfold Gd; rw [if_neg h]
        rw [eg] at hbd ⊢
        rw [if_neg (fun z => h z.1), Int.zero_add]
        obtain ⟨x', m, g1, g2, g3, g4, g5⟩ := ih k (i + 1) x (by omega) (by omega) hx hp (by omega)
        rw [if_neg g] at g5
        exact ⟨x', m, by omega, g2, g3, g4, g5⟩
theorem down_l0 (N : Nat) (l b : List Int) (hN : N ≤ 60) (hl : Ris l) (hl5 : l.length ≤ 5) (hb : b.length ≤ 1048576) (d : Nat) : ∀ (k cur : Nat) (x : List Int), cur + d = N + 1 → 1 ≤ cur → 1100100 + 10 * d < k → DownTo N l b x cur →
    ∃ x', impl_Stairs_down.l0 k x cur N l b = some x' ∧ DownTo N l b x' (N + 1) := by
  induction d with
  | zero =>
    intro k cur x hd hc hk D
    obtain ⟨k, rfl⟩ : ∃ m, k = m + 1 := ⟨k - 1, by omega⟩
    have e : cur = N + 1 := by omega
    subst e
    exact ⟨x, by rw [impl_Stairs_down.l0, if_neg (by omega)], D⟩
  | succ d ih =>
    intro k cur x hd hc hk D
    obtain ⟨k, rfl⟩ : ∃ m, k = m + 1 := ⟨k - 1, by omega⟩
    have hp : pw cur ≤ 1152921504606846976 := pw_le (by omega)
    have z := D.nil cur (Nat.le_refl _) (by omega)
    have gb : ls l (Gd x cur) ≤ ((pw cur : Nat) : Int) := by
      refine Int.le_trans (ls_le l (g := fun s => if s ≤ cur then ((pw (cur - s) : Nat) : Int) else 0) (fun s _ => ?_)) (geo0 l hl cur)
      unfold Gd
      by_cases z : s.toNat ≤ cur
      · rw [if_pos z, if_pos z]; exact D.low _ (by omega)
      · rw [if_neg z, if_neg z]; exact Int.le_refl _
    have gp : 0 ≤ ls l (Gd x cur) := ls_nonneg _ (fun s _ => by unfold Gd; split; exact D.pos _ (by omega); exact Int.le_refl _)
    rw [impl_Stairs_down.l0, if_pos (by omega)]
    obtain ⟨x', m, g1, g2, g3, g4, g5⟩ := down_l1 N l b hN hl hl5 hb cur hc (by omega) l.length k 0 x (by omega) (by omega) D.len D.pos (by rw [z, List.drop_zero]; omega)
    rw [show ((0 : Nat) : Int) = 0 from rfl] at g2
    rw [g2]
    rw [z, List.drop_zero, Int.zero_add] at g5
    have eG : ∀ i : Nat, i ≤ cur → ls l (Gd x' i) = ls l (Gd x i) := fun i hi => ls_congr _ (fun t ht => by
      have := Ris_mem hl (i := 0) (by rw [List.drop_zero]; exact ht)
      unfold Gd
      by_cases z : t.toNat ≤ i
      · by_cases y : i = 0
        · subst y; omega
        · rw [if_pos z, if_pos z, g4 _ (by omega)]
      · rw [if_neg z, if_neg z])
    refine ih m (cur + 1) x' (by omega) (by omega) (by omega) ⟨g3, by rw [show (0 : Int) = ((0 : Nat) : Int) from rfl, g4 0 (by omega)]; exact D.bot, fun i h0 h1 h2 => ?_, fun i hi => ?_, fun i hi => ?_, fun i h1 h2 => by rw [g4 i (by omega)]; exact D.nil i (by omega) h2⟩
    · rw [eG i (by omega)]
      by_cases e : i = cur
      · subst e; exact g5
      · rw [g4 i e]; exact D.eqn i h0 (by omega) h2
    · by_cases e : i = cur
      · subst e; rw [g5]; split <;> omega
      · rw [g4 i e]; exact D.pos i hi
    · by_cases e : i = cur
      · subst e; rw [g5]; split <;> omega
      · rw [g4 i e]; exact D.low i hi
theorem down_eq {k : Nat} (N : Nat) (l b : List Int) (hN : N ≤ 60) (hl : Ris l) (hl5 : l.length ≤ 5) (hb : b.length ≤ 1048576) (hk : 1200000 < k) : ∃ x, impl_Stairs_down.f k N l b = some x ∧ DownTo N l b x (N + 1) := by
  have e : wrap64 ((N : Int) + 1) = ((N + 1 : Nat) : Int) := by rw [w64 (by omega)]; rfl
  have q1 : rd ((List.replicate (N + 1) (0 : Int)).set 0 1) ((0 : Nat) : Int) = 1 := rd_set_eq _ 0 1 (by simp)
  obtain ⟨x, h1, h2⟩ := down_l0 N l b hN hl hl5 hb N k 1 ((List.replicate (N + 1) (0 : Int)).set 0 1) (by omega) (by omega) (by omega) ⟨by simp, q1, fun i h0 h1 h2 => by omega, fun i hi => by
      by_cases c : i = 0
      · subst c; omega
      · rw [rd_set_ne _ _ _ _ c, rd_rep]; omega, fun i hi => by
      by_cases c : i = 0
      · subst c; rw [q1]; unfold pw; decide
      · rw [rd_set_ne _ _ _ _ c, rd_rep]; omega, fun i h1 _ => by rw [rd_set_ne _ _ _ _ (by omega), rd_rep]⟩
  refine ⟨x, ?_, h2⟩
  unfold impl_Stairs_down.f
  rw [e, if_pos (by omega), if_pos (by omega), Option.bind_some, if_pos (by simp), Int.toNat_natCast]
  exact h1
/-! ### a broken step more -/
theorem l1Put_l0 (l : List Int) (a : Int) (hl : l.length ≤ 1000000) (d : Nat) : ∀ (k i : Nat), i + d = l.length → d < k → ∃ r, spec_l1Put.l0 k l a i = some r ∧ (∀ z, z ∈ r ↔ z ∈ l ∨ z = a) ∧ r.length ≤ l.length + 1 := by
  induction d with
  | zero =>
    intro k i hd hk
    obtain ⟨k, rfl⟩ : ∃ m, k = m + 1 := ⟨k - 1, by omega⟩
    have e : i = l.length := by omega
    rw [spec_l1Put.l0, if_neg (by omega)]
    simp only [Option.bind_some]
    rw [if_pos (by omega), if_pos (by omega), if_pos (by simp; omega), if_pos (by simp; omega), if_pos (by simp; omega)]
    refine ⟨_, rfl, fun z => ?_, by simp; omega⟩
    rw [e]; simp
  | succ d ih =>
    intro k i hd hk
    obtain ⟨k, rfl⟩ : ∃ m, k = m + 1 := ⟨k - 1, by omega⟩
    have hi : i < l.length := by omega
    rw [spec_l1Put.l0, if_pos (by omega), if_pos (by omega)]
    by_cases h : rd l (i : Int) < a
    · rw [if_pos h, w64 (by omega)]; exact ih k (i + 1) (by omega) (by omega)
    · rw [if_neg h]
      by_cases g : rd l (i : Int) = a
      · rw [if_pos g]
        refine ⟨l, rfl, fun z => ⟨.inl, ?_⟩, by omega⟩
        rintro (y | y)
        · exact y
        · rw [y, ← g, rd_get hi]; exact List.getElem_mem hi
      · rw [if_neg g]
        simp only [Option.bind_some]
        rw [if_pos (by omega), if_pos (by simp; omega), if_pos (by simp; omega), if_pos (by simp; omega)]
        refine ⟨_, rfl, fun z => ?_, by simp; omega⟩
        have t : z ∈ l ↔ z ∈ l.take i ∨ z ∈ l.drop i := by rw [← List.mem_append, List.take_append_drop]
        rw [Int.toNat_natCast, t]
        simp
        by_cases h1 : z ∈ l.take i <;> by_cases h2 : z = a <;> by_cases h3 : z ∈ l.drop i <;> simp [h1, h2, h3]
theorem clBreak_eq {k : Nat} (n a : Int) (l b : List Int) (hl : l.length ≤ 1000000) (hb : b.length ≤ 1000000) (hk : 1000001 < k) : ∃ b', spec_clBreak.f k n l b a = some (n, l, b') ∧ (∀ z, z ∈ b' ↔ z ∈ b ∨ z = a) ∧ b'.length ≤ b.length + 1 := by
  obtain ⟨b', h1, h2, h3⟩ := l1Put_l0 b a hb b.length k 0 (by omega) (by omega)
  refine ⟨b', ?_, h2, h3⟩
  have e : spec_l1Own.f l = some l := by
    unfold spec_l1Own.f
    simp; omega
  unfold spec_clBreak.f spec_l1Put.f
  rw [show ((0 : Nat) : Int) = 0 from rfl] at h1
  rw [e, Option.bind_some, h1, Option.bind_some]
theorem stairsB_broken {n : Int} {l b : List Int} (h : stairsB n l b = true) : (∀ z, z ∈ b → 1 ≤ z ∧ z ≤ n - 1) ∧ b.length ≤ 60 := by
  unfold stairsB at h
  by_cases c : (1 ≤ n ∧ n ≤ 60) ∧ (1 ≤ l.length ∧ l.length ≤ 5)
  · rw [if_pos c, Bool.and_eq_true] at h
    have r := fun (j : Nat) (hj : j < b.length) => riseB_true b 1 (n - 1) b.length 0 h.2 j (by omega) (by omega)
    have s : ∀ j : Nat, j < b.length → (j : Int) + 1 ≤ rd b (j : Int) := by
      intro j
      induction j with
      | zero => intro hj; have := (r 0 (by omega)).1; omega
      | succ j ih =>
        intro hj
        have a := ih (by omega)
        have t := (r (j + 1) (by omega)).2 (by omega)
        rw [show j + 1 - 1 = j from by omega] at t
        omega
    refine ⟨fun z hz => ?_, ?_⟩
    · obtain ⟨j, hj, e⟩ := List.mem_iff_getElem.1 hz
      have := (r j (by omega)).1
      rw [rd_get hj, e] at this; exact this
    · by_cases e : b.length = 0
      · omega
      · have a := s (b.length - 1) (by omega)
        have t := (r (b.length - 1) (by omega)).1
        omega
  · rw [if_neg c] at h; exact absurd h (by simp)

-- block toIntS
theorem toIntS_l0 (l : List Int) (hl : l.length ≤ 1048576) (d : Nat) : ∀ (k i : Nat) (m : List Int), i + d = l.length → d < k → m.length = d → laws_toIntS.l0 k l (l.take i ++ m) i = some l := by
  induction d with
  | zero =>
    intro k i m hd hk hm
    obtain ⟨k, rfl⟩ : ∃ n, k = n + 1 := ⟨k - 1, by omega⟩
    obtain rfl := List.eq_nil_of_length_eq_zero hm
    simp only [laws_toIntS.l0]; rw [if_neg (by omega), List.take_of_length_le (by omega), List.append_nil]
  | succ d ih =>
    intro k i m hd hk hm
    obtain ⟨k, rfl⟩ : ∃ n, k = n + 1 := ⟨k - 1, by omega⟩
    obtain ⟨x, m, rfl⟩ : ∃ x p, m = x :: p := by
      cases m with
      | nil => simp at hm
      | cons x p => exact ⟨x, p, rfl⟩
    simp only [laws_toIntS.l0]
    have hi : i < l.length := by omega
    have hlen : (l.take i ++ x :: m).length = l.length := by simp at hm ⊢; omega
    have e : (l.take i ++ x :: m).set (i : Int).toNat (rd l i) = l.take (i + 1) ++ m := by
      have ht : (l.take i).length = i := by simp; omega
      rw [Int.toNat_natCast, List.set_append_right _ _ (by omega), ht, Nat.sub_self, List.set_cons_zero, List.take_succ_eq_append_getElem hi, List.append_assoc]
      simp [rd, List.getD_eq_getElem?_getD, List.getElem?_eq_getElem hi]
    rw [if_pos (by omega), if_pos (by omega), if_pos (by omega), e, w64 (by omega)]
    exact ih k (i + 1) m (by omega) (by omega) (by simpa using hm)
theorem toIntS_eq {k : Nat} {l : List Int} (hl : l.length ≤ 1048576) (hk : 1048576 < k) : laws_toIntS.f k l = some l := by
  unfold laws_toIntS.f
  rw [if_pos (by omega), if_pos (by omega)]
  have := toIntS_l0 l hl l.length k 0 (List.replicate l.length 0) (by omega) (by omega) (by simp)
  simpa using this

-- block toStairs
theorem toStairs_eq {k : Nat} (n : Int) {l b : List Int} (hl : l.length ≤ 1048576) (hb : b.length ≤ 1048576) (hk : 1048576 < k) : laws_toStairs.f k n l b = some (n, l, b) := by
  unfold laws_toStairs.f
  rw [toIntS_eq (by omega) (by omega), Option.bind_some, toIntS_eq (by omega) (by omega), Option.bind_some]
theorem szStairs_eq (n : Int) (l b : List Int) (hl : l.length ≤ maxLen) (hb : b.length ≤ maxLen) : ∃ v, laws_szStairs.f n l b 1048576 = some v ∧ (¬ v < 0 → l.length ≤ 1048576 ∧ b.length ≤ 1048576) := by
  unfold laws_szStairs.f laws_szIntS.f
  have m : maxLen ≤ 9223372036854775807 := by decide
  rw [w64 (x := 1048576 - (l.length : Int)) (by omega)]
  by_cases h : 1048576 - (l.length : Int) < 0
  · rw [if_pos h, Option.bind_some, if_pos (by omega)]; exact ⟨_, rfl, fun z => absurd (by omega) z⟩
  · rw [if_neg h, Option.bind_some, if_neg h, w64 (by omega)]
    by_cases g : 1048576 - (l.length : Int) - (b.length : Int) < 0
    · rw [if_pos g, Option.bind_some, if_pos (by omega)]; exact ⟨_, rfl, fun z => absurd (by omega) z⟩
    · rw [if_neg g, Option.bind_some, if_neg g]; exact ⟨_, rfl, fun _ => ⟨by omega, by omega⟩⟩

-- block eqIntS
theorem eqIntS_l0 (l : List Int) (hl : l.length ≤ 1000000000) (d : Nat) : ∀ (k i : Nat), i + d = l.length → d < k → laws_eqIntS.l0 k l l i = some true := by
  induction d with
  | zero =>
    intro k i hd hk
    obtain ⟨k, rfl⟩ : ∃ m, k = m + 1 := ⟨k - 1, by omega⟩
    simp only [laws_eqIntS.l0]; rw [if_neg (by omega)]
  | succ d ih =>
    intro k i hd hk
    obtain ⟨k, rfl⟩ : ∃ m, k = m + 1 := ⟨k - 1, by omega⟩
    simp only [laws_eqIntS.l0]
    rw [if_pos (by omega), if_pos (by omega), if_pos (by omega), if_pos trivial, w64 (by omega)]
    exact ih k (i + 1) (by omega) (by omega)
theorem eqIntS_self {k : Nat} {l : List Int} (hl : l.length ≤ 1000000000) (hk : l.length < k) : laws_eqIntS.f k l l = some true := by
  unfold laws_eqIntS.f
  rw [if_pos rfl, show (0 : Int) = ((0 : Nat) : Int) from rfl, eqIntS_l0 l hl l.length k 0 (by omega) hk]

-- block marks
def ups (a : Int) (n : Nat) : List Int := (List.range n).map fun i : Nat => a + (i : Int)
theorem ups_length (a : Int) (n : Nat) : (ups a n).length = n := by simp [ups]
theorem ups_succ (a : Int) (n : Nat) : ups a (n + 1) = ups a n ++ [a + n] := by simp [ups, List.range_succ]
theorem rd_ups (a : Int) (n i : Nat) (h : i < n) : rd (ups a n) i = a + i := by
  unfold rd ups
  rw [List.getD_eq_getElem?_getD, Int.toNat_natCast, List.getElem?_map, List.getElem?_range h]; rfl
theorem markIntS_l0 (a : Int) (ha : 0 ≤ a) (d : Nat) : ∀ (k i : Nat) (post : List Int), post.length = d → a + i + d ≤ 4000000000000 → d < k →
    laws_markIntS.l0 k (ups a i ++ post) (a + i) i = some (a + i + d, ups a (i + d)) := by
  induction d with
  | zero =>
    intro k i post hp hb hk
    obtain ⟨k, rfl⟩ : ∃ m, k = m + 1 := ⟨k - 1, by omega⟩
    obtain rfl := List.eq_nil_of_length_eq_zero hp
    simp only [laws_markIntS.l0]
    rw [if_neg (by simp [ups_length])]
    simp
  | succ d ih =>
    intro k i post hp hb hk
    obtain ⟨k, rfl⟩ : ∃ m, k = m + 1 := ⟨k - 1, by omega⟩
    obtain ⟨x, post, rfl⟩ : ∃ x p, post = x :: p := by
      cases post with
      | nil => simp at hp
      | cons x p => exact ⟨x, p, rfl⟩
    simp only [laws_markIntS.l0]
    rw [if_pos (by simp [ups_length]; omega), if_pos (by omega), w64 (by omega), w64 (by omega)]
    have e : (ups a i ++ x :: post).set (i : Int).toNat (a + i) = ups a (i + 1) ++ post := by
      rw [Int.toNat_natCast, List.set_append_right _ _ (by simp [ups_length]), ups_length, Nat.sub_self, List.set_cons_zero, ups_succ, List.append_assoc]; rfl
    rw [e, show a + (i : Int) + 1 = a + ((i + 1 : Nat) : Int) from by omega, show (i : Int) + 1 = ((i + 1 : Nat) : Int) from rfl]
    rw [ih k (i + 1) post (by simpa using hp) (by omega) (by omega)]
    rw [show i + 1 + d = i + (d + 1) from by omega]
    congr 2; omega
theorem markIntS_eq {k : Nat} {l : List Int} {a : Int} (ha : 0 ≤ a) (hb : a + l.length ≤ 4000000000000) (hk : l.length < k) : laws_markIntS.f k l a = some (a + l.length, ups a l.length) := by
  unfold laws_markIntS.f
  have := markIntS_l0 a ha l.length k 0 l rfl (by omega) hk
  simpa [ups] using this
theorem heldIntS_l0 (a : Int) (ha : 0 ≤ a) (n : Nat) (hb : a + n ≤ 4000000000000) (d : Nat) : ∀ (k i : Nat), i + d = n → d < k → laws_heldIntS.l0 k (ups a n) (a + i) i = some (a + n) := by
  induction d with
  | zero =>
    intro k i hd hk
    obtain ⟨k, rfl⟩ : ∃ m, k = m + 1 := ⟨k - 1, by omega⟩
    simp only [laws_heldIntS.l0]
    rw [if_neg (by rw [ups_length]; omega)]
    congr 1; omega
  | succ d ih =>
    intro k i hd hk
    obtain ⟨k, rfl⟩ : ∃ m, k = m + 1 := ⟨k - 1, by omega⟩
    simp only [laws_heldIntS.l0]
    rw [if_pos (by rw [ups_length]; omega), if_pos (by omega), rd_ups _ _ _ (by omega), if_pos rfl, w64 (by omega), w64 (by omega)]
    rw [show a + (i : Int) + 1 = a + ((i + 1 : Nat) : Int) from by omega, show (i : Int) + 1 = ((i + 1 : Nat) : Int) from rfl]
    exact ih k (i + 1) (by omega) (by omega)
theorem heldIntS_eq {k n : Nat} {a : Int} (ha : 0 ≤ a) (hb : a + n ≤ 4000000000000) (hk : n < k) : laws_heldIntS.f k (ups a n) a = some (a + n) := by
  unfold laws_heldIntS.f
  have := heldIntS_l0 a ha n hb n k 0 (by omega) hk
  simpa using this

def needP (dn up : List Int) (i : Nat) : Bool := wrap64 (rd dn (i : Int) * rd up (i : Int)) == rd up 0
theorem filt_snoc (p : Nat → Bool) (d : Nat) : ∀ i, filt p i (d + 1) = filt p i d ++ if p (i + d) = true then [((i + d : Nat) : Int)] else [] := by
  induction d with
  | zero => intro i; rw [filt_succ, filt_zero, filt_zero]; simp
  | succ d ih =>
    intro i
    rw [filt_succ, ih (i + 1), filt_succ p i d, show i + 1 + d = i + (d + 1) from by omega]
    by_cases h : p i = true
    · rw [if_pos h, if_pos h, List.cons_append]
    · rw [if_neg h, if_neg h]
theorem need_at (N : Nat) (l b b' dn u u' : List Int) (j : Nat) (hN : N ≤ 60) (hl : Ris l) (hb : ∀ z, z ∈ b → 1 ≤ z ∧ z ≤ (N : Int) - 1) (h1 : 1 ≤ j) (h2 : j < N) (hj : ¬ (j : Int) ∈ b) (hb' : ∀ z, z ∈ b' ↔ z ∈ b ∨ z = (j : Int)) (D : DownTo N l b dn (N + 1)) (U : UpOk N l b u) (U' : UpOk N l b' u') :
    needP dn u j = decide (rd u' 0 = 0) := by
  have e := lost N j l (fun s hs => (Ris_mem hl (i := 0) (by rw [List.drop_zero]; exact hs)).1) (fun i : Nat => rd dn (i : Int)) (fun i : Nat => rd u (i : Int)) (fun i : Nat => rd u' (i : Int)) (fun i : Nat => !decide ((i : Int) ∈ b)) D.bot h2 h1
    (fun i h3 h4 => by
      show rd dn (i : Int) = _
      rw [D.eqn i h3 (by omega) h4]
      by_cases g : (i : Int) ∈ b
      · rw [if_pos g, if_neg (by simp [g])]
      · rw [if_neg g, if_pos (by simp [g])]; rfl) U.top U'.top
    (fun i h3 => by
      show rd u (i : Int) = _
      rw [U.eqn i h3]
      by_cases g : (i : Int) ∈ b
      · rw [if_pos g, if_neg (by simp [g])]
      · rw [if_neg g, if_pos (by simp [g])]; rfl)
    (fun i h3 => by
      show rd u' (i : Int) = _
      rw [U'.eqn i h3]
      by_cases g : (i : Int) ∈ b'
      · rw [if_pos g, if_neg]
        rintro ⟨y1, y2⟩
        rcases (hb' _).1 g with y | y
        · simp [y] at y1
        · exact y2 (by omega)
      · rw [if_neg g, if_pos ⟨by
          have : ¬ (i : Int) ∈ b := fun y => g ((hb' _).2 (.inl y))
          simp [this], fun y => g ((hb' _).2 (.inr (by omega)))⟩]; rfl)
    (by
      have : ¬ (N : Int) ∈ b := fun y => by have := hb _ y; omega
      simp [this])
    (by
      have : ¬ ((0 : Nat) : Int) ∈ b := fun y => by have := hb _ y; omega
      simpa using this)
  have e : rd dn (j : Int) * rd u (j : Int) = rd u 0 - rd u' 0 := e
  have p := U'.pos 0 (by omega)
  have q := U.pos 0 (by omega)
  have r := U.low 0 (by omega)
  have t : pw (N - 0) ≤ 1152921504606846976 := pw_le (by omega)
  have p : 0 ≤ rd u' 0 := p
  have q : 0 ≤ rd u 0 := q
  have r : rd u 0 ≤ ((pw (N - 0) : Nat) : Int) := r
  have s : 0 ≤ rd dn (j : Int) * rd u (j : Int) := Int.mul_nonneg (D.pos j (by omega)) (U.pos j (by omega))
  unfold needP
  rw [e] at s ⊢
  rw [w64 (by omega), Bool.eq_iff_iff, beq_iff_eq, decide_eq_true_eq]
  omega
theorem spec_need_l0 (N : Nat) (l b dn u : List Int) (hN : N ≤ 60) (hl : Ris l) (hl5 : l.length ≤ 5) (hb : ∀ z, z ∈ b → 1 ≤ z ∧ z ≤ (N : Int) - 1) (hb60 : b.length ≤ 60) (D : DownTo N l b dn (N + 1)) (U : UpOk N l b u) (hu0 : rd u 0 ≠ 0) (d : Nat) : ∀ (k i : Nat) (acc : List Int), i + d = N → 1 ≤ i → 1300000 + d < k → acc.length ≤ i →
    spec_NeededSteps.l0 k acc i N l b = some (acc ++ filt (needP dn u) i d ++ [(N : Int)], true) := by
  induction d with
  | zero =>
    intro k i acc hd hi hk ha
    obtain ⟨k, rfl⟩ : ∃ m, k = m + 1 := ⟨k - 1, by omega⟩
    rw [spec_NeededSteps.l0, if_neg (by omega), if_pos (by omega), filt_zero, List.append_nil]
  | succ d ih =>
    intro k i acc hd hi hk ha
    obtain ⟨k, rfl⟩ : ∃ m, k = m + 1 := ⟨k - 1, by omega⟩
    have e1 : wrap64 ((i : Int) + 1) = ((i + 1 : Nat) : Int) := by rw [w64 (by omega)]; rfl
    rw [spec_NeededSteps.l0, if_pos (by omega), clStands_eq N l b i (by omega) (by omega) (by omega), Option.bind_some, e1, filt_succ]
    by_cases g : (i : Int) ∈ b
    · have z : needP dn u i = false := by
        unfold needP
        rw [D.eqn i hi (by omega) (by omega), if_pos g, Int.zero_mul, w64 (by omega)]
        exact beq_eq_false_iff_ne.2 (fun y => hu0 y.symm)
      rw [if_neg (by rw [decide_eq_true g]; simp), if_neg (by rw [z]; simp), ih k (i + 1) _ (by omega) (by omega) (by omega) (by omega)]
    · rw [if_pos (by rw [decide_eq_false g]; rfl)]
      obtain ⟨b', hb1, hb2, hb3⟩ := clBreak_eq (k := k) N i l b (by omega) (by omega) (by omega)
      obtain ⟨u', h3, U'⟩ := up_eq (k := k) N l b' hN hl hl5 (by omega) (by omega)
      obtain ⟨v, h4, lv, Z⟩ := ways_eq (k := k) N l b' u' hN hl hl5 (by omega) U' (by omega)
      have z := need_at N l b b' dn u u' i hN hl hb hi (by omega) g hb2 D U U'
      have zv : rd v 0 = 0 ↔ rd u' 0 = 0 := (Z 0 (by omega) (by omega)).2
      rw [hb1, Option.bind_some]
      show ((spec_clWays.f k (N : Int) l b').bind _) = _
      rw [h4, Option.bind_some, if_pos (by omega)]
      by_cases f : rd v 0 = 0
      · rw [if_pos f, if_pos (by omega), if_pos (by rw [z, decide_eq_true (zv.1 f)]), ih k (i + 1) _ (by omega) (by omega) (by omega) (by simp; omega)]; simp
      · rw [if_neg f, if_neg (by rw [z, decide_eq_false (fun y => f (zv.2 y))]; simp), ih k (i + 1) _ (by omega) (by omega) (by omega) (by omega)]
theorem NeededSteps_eq {k : Nat} (hk : 1500000 < k) (n : Int) (l b : List Int) (hl : l.length ≤ 1048576) (hb : b.length ≤ 1048576) : ∃ r, spec_NeededSteps.f k n l b = some r ∧ impl_NeededSteps.f k n l b = some r ∧ r.1.length ≤ 100 := by
  obtain ⟨k, rfl⟩ : ∃ m, k = m + 1 := ⟨k - 1, by omega⟩
  unfold spec_NeededSteps.f impl_NeededSteps.f
  rw [clGood_eq n hl hb (by omega), AreStairs_eq n hl hb (by omega), Option.bind_some, Option.bind_some]
  by_cases h : stairsB n l b = true
  · have g := stairsB_true h
    obtain ⟨N, rfl⟩ := Int.eq_ofNat_of_zero_le (show 0 ≤ n by omega)
    have hbr := stairsB_broken h
    obtain ⟨x, h1, D⟩ := down_eq (k := k + 1) N l b (by omega) g.2.2 g.2.1 hb (by omega)
    obtain ⟨u, h3, U⟩ := up_eq (k := k + 1) N l b (by omega) g.2.2 g.2.1 hb (by omega)
    obtain ⟨v, h4, lv, Z⟩ := ways_eq (k := k + 1) N l b u (by omega) g.2.2 g.2.1 hb U (by omega)
    have lx := D.len
    have lu := U.len
    have zv : rd v 0 = 0 ↔ rd u 0 = 0 := (Z 0 (by omega) (by omega)).2
    rw [if_pos h, if_pos h, h1, h3, h4, Option.bind_some, Option.bind_some, Option.bind_some, if_pos (by omega), if_pos (by omega)]
    by_cases z : rd u 0 = 0
    · rw [if_pos z, spec_NeededSteps.j0, if_pos (by rw [zv.2 z]; rfl)]
      exact ⟨_, rfl, rfl, by simp⟩
    · rw [if_neg z, spec_NeededSteps.j0, if_neg (by simpa using fun y => z (zv.1 y))]
      have e := spec_need_l0 N l b x u (by omega) g.2.2 g.2.1 hbr.1 hbr.2 D U z (N - 1) k 1 [] (by omega) (by omega) (by omega) (by simp)
      rw [show ((1 : Nat) : Int) = 1 from rfl, List.nil_append] at e
      have both := ways_both N l (fun s hs => (Ris_mem g.2.2 (i := 0) (by rw [List.drop_zero]; exact hs)).1) (fun i : Nat => rd x (i : Int)) (fun i : Nat => rd u (i : Int)) (fun i : Nat => !decide ((i : Int) ∈ b)) D.bot
        (fun i y3 y4 => by
          show rd x (i : Int) = _
          rw [D.eqn i y3 (by omega) y4]
          by_cases y : (i : Int) ∈ b
          · rw [if_pos y, if_neg (by simp [y])]
          · rw [if_neg y, if_pos (by simp [y])]; rfl) U.top
        (fun i y3 => by
          show rd u (i : Int) = _
          rw [U.eqn i y3]
          by_cases y : (i : Int) ∈ b
          · rw [if_pos y, if_neg (by simp [y])]
          · rw [if_neg y, if_pos (by simp [y])]; rfl)
        (by
          have : ¬ (N : Int) ∈ b := fun y => by have := hbr.1 _ y; omega
          simp [this])
        (by
          have : ¬ ((0 : Nat) : Int) ∈ b := fun y => by have := hbr.1 _ y; omega
          simpa using this)
      have both : rd x (N : Int) = rd u 0 := both
      have top := U.top
      have r : rd u 0 ≤ ((pw (N - 0) : Nat) : Int) := U.low 0 (by omega)
      have q : 0 ≤ rd u 0 := U.pos 0 (by omega)
      have t : pw (N - 0) ≤ 1152921504606846976 := pw_le (by omega)
      have pN : needP x u N = true := by
        unfold needP; rw [top, Int.mul_one, both, w64 (by omega)]; exact beq_self_eq_true _
      rw [e, thoseW_eq _ (needP x u) N (by omega) (by omega) (fun j j1 j2 => by
        unfold impl_NeededSteps.q needP
        rw [if_pos (by omega)]), Option.bind_some]
      obtain ⟨M, rfl⟩ : ∃ M, N = M + 1 := ⟨N - 1, by omega⟩
      rw [show M + 1 - 1 = M from by omega, filt_snoc, show 1 + M = M + 1 from by omega, if_pos pN]
      have : (filt (needP x u) 1 M).length ≤ M := filt_length _ _ _
      exact ⟨_, rfl, rfl, by simp; omega⟩
  · rw [if_neg h, if_neg h, spec_NeededSteps.j0, if_pos rfl]; exact ⟨_, rfl, rfl, by simp⟩
theorem FnExactNeededSteps : laws_FnExactNeededSteps.Pure := by
  intro n l b _ hl0 _ hb0 _
  obtain ⟨k, hk⟩ : ∃ k, 2000000 < k := ⟨2000001, by omega⟩
  refine ⟨k + 3, ?_⟩
  obtain ⟨v, ev, hv⟩ := szStairs_eq n l b hl0 hb0
  unfold laws_FnExactNeededSteps.f
  rw [ev, Option.bind_some]
  by_cases hs : v < 0
  · rw [if_pos hs]
  · obtain ⟨hl, hb⟩ := hv hs
    obtain ⟨r, h1, h2, hr⟩ := NeededSteps_eq (k := k + 3) (by omega) n l b hl hb
    obtain ⟨r', h1', h2', -⟩ := NeededSteps_eq (k := k + 1) (by omega) n l b hl hb
    have e : r' = r := by
      have m := impl_NeededSteps.mono n l b (k + 1 + 1) _ (impl_NeededSteps.mono n l b (k + 1) _ h2')
      rw [h2] at m; exact (Option.some.inj m).symm
    subst e
    rw [if_neg hs, toStairs_eq n hl hb (by omega), Option.bind_some, h1, Option.bind_some, Option.bind_some, h2, Option.bind_some, eqIntS_self (by omega) (by omega), Option.bind_some, if_pos rfl, laws_FnExactNeededSteps.j0, if_neg (by simp), toStairs_eq n hl hb (by omega), Option.bind_some]
    unfold laws_eqStairs.f laws_markStairs.f
    dsimp only
    rw [if_pos rfl, eqIntS_self (by omega) (by omega), Option.bind_some, if_pos rfl, eqIntS_self (by omega) (by omega), Option.bind_some, if_pos rfl, Option.bind_some, if_pos rfl, markIntS_eq (by omega) (by omega) (by omega), Option.bind_some, markIntS_eq (by omega) (by omega) (by omega), Option.bind_some, Option.bind_some]
    rw [if_neg (by omega), eqIntS_self (by omega) (by omega), Option.bind_some, if_pos rfl, laws_FnExactNeededSteps.j1, if_neg (by simp), markIntS_eq (by omega) (by omega) (by omega), Option.bind_some, heldIntS_eq (by omega) (by omega) (by omega), Option.bind_some, if_neg (by omega), if_pos rfl, toStairs_eq n hl hb (by omega), Option.bind_some, h2', Option.bind_some, eqIntS_self (by omega) (by omega), Option.bind_some, if_pos rfl, laws_FnExactNeededSteps.j2, if_neg (by simp), heldIntS_eq (by omega) (by omega) (by omega), Option.bind_some, if_neg (by omega), if_pos rfl]

end Go.Proofs.Ytlajnkdokmbpeaa.Pure
