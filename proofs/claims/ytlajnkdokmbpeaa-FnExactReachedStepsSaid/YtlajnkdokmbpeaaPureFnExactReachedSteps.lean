/- The program's ReachedSteps returns what the reference's returns, for all arguments. No condition. -/
import Derived.Test.YtlajnkdokmbpeaaPFnExactReachedStepsx5
namespace Go.Proofs.Ytlajnkdokmbpeaa.Pure
open Go.RowKit Go.Proofs.Ytlajnkdokmbpeaa.PFnExactReachedSteps Go.Proofs.YtlajnkdokmbpeaaW.PrintWords Go.Proofs.YtlajnkdokmbpeaaW.PrintLast Go.Proofs.YtlajnkdokmbpeaaW.PrintMore
set_option linter.unusedVariables false
set_option linter.unusedSimpArgs false

-- block within
theorem within_eq (a b c : Int) : impl_within.f a b c = some (decide (b ≤ a ∧ a ≤ c)) := by
  unfold impl_within.f
  by_cases h : b ≤ a
  · rw [if_pos h]; simp [h]
  · rw [if_neg h]; simp [h]

-- block l1In
theorem l1In_eq (a b c : Int) : spec_l1In.f a b c = some (decide (b ≤ a ∧ a ≤ c)) := by
  unfold spec_l1In.f
  by_cases h : a ≥ b
  · rw [if_pos h]; simp [show b ≤ a from h]
  · rw [if_neg h]; simp [show ¬ b ≤ a from h]

-- block w64
theorem w64 {x : Int} (h : -9223372036854775808 ≤ x ∧ x ≤ 9223372036854775807) : wrap64 x = x := by
  unfold wrap64; omega

-- block rise
/-- From place i on, d of them: between lo and hi, each above the one ahead. -/
def riseB (l : List Int) (lo hi : Int) : Nat → Nat → Bool
  | 0, _ => true
  | d + 1, i => if lo ≤ rd l (i : Int) ∧ rd l (i : Int) ≤ hi then (if 0 < i ∧ rd l (i : Int) ≤ rd l ((i - 1 : Nat) : Int) then false else riseB l lo hi d (i + 1)) else false
theorem rise_l0 (l : List Int) (lo hi : Int) (hl : l.length ≤ 1048576) (d : Nat) : ∀ (k i : Nat), i + d = l.length → d < k → impl_rise.l0 k l lo hi l l.length i = some (riseB l lo hi d i) ∧ spec_l1Rising.l0 k l lo hi l l.length i = some (riseB l lo hi d i) := by
  induction d with
  | zero =>
    intro k i hd hk
    obtain ⟨k, rfl⟩ : ∃ m, k = m + 1 := ⟨k - 1, by omega⟩
    simp only [impl_rise.l0, spec_l1Rising.l0, riseB]
    exact ⟨by rw [if_neg (by omega)], by rw [if_neg (by omega)]⟩
  | succ d ih =>
    intro k i hd hk
    obtain ⟨k, rfl⟩ : ∃ m, k = m + 1 := ⟨k - 1, by omega⟩
    simp only [impl_rise.l0, spec_l1Rising.l0, riseB]
    have nx := ih k (i + 1) (by omega) (by omega)
    simp only [if_pos (show (i : Int) < (l.length : Int) by omega), if_pos (show (0 : Int) ≤ (i : Int) by omega)]
    rw [within_eq, l1In_eq, Option.bind_some, Option.bind_some]
    by_cases h : lo ≤ rd l (i : Int) ∧ rd l (i : Int) ≤ hi
    · simp only [if_pos h, decide_eq_true h, if_true]
      by_cases g : 0 < i
      · have e : wrap64 ((i : Int) - 1) = ((i - 1 : Nat) : Int) := by rw [w64 (by omega)]; omega
        have e2 : wrap64 ((i : Int) + 1) = ((i + 1 : Nat) : Int) := by rw [w64 (by omega)]; omega
        simp only [if_pos (show (i : Int) > 0 by omega), e, e2, if_pos (show (0 : Int) ≤ ((i - 1 : Nat) : Int) by omega), if_pos (show ((i - 1 : Nat) : Int) < (l.length : Int) by omega)]
        by_cases f : rd l (i : Int) ≤ rd l ((i - 1 : Nat) : Int)
        · rw [if_pos f, if_pos (show rd l ((i - 1 : Nat) : Int) ≥ rd l (i : Int) from f), if_pos ⟨g, f⟩]; exact ⟨rfl, rfl⟩
        · rw [if_neg f, if_neg (show ¬ rd l ((i - 1 : Nat) : Int) ≥ rd l (i : Int) from f), if_neg (fun z => f z.2)]; exact nx
      · have e2 : wrap64 ((i : Int) + 1) = ((i + 1 : Nat) : Int) := by rw [w64 (by omega)]; omega
        simp only [if_neg (show ¬ (i : Int) > 0 by omega), e2, if_neg (show ¬ (0 < i ∧ rd l (i : Int) ≤ rd l ((i - 1 : Nat) : Int)) from fun z => g z.1)]
        exact nx
    · simp [if_neg h, decide_eq_false h]
theorem rise_eq {k : Nat} {l : List Int} (lo hi : Int) (hl : l.length ≤ 1048576) (hk : l.length < k) : impl_rise.f k l lo hi = some (riseB l lo hi l.length 0) := by
  unfold impl_rise.f; exact (rise_l0 l lo hi hl l.length k 0 (by omega) hk).1
theorem l1Rising_eq {k : Nat} {l : List Int} (lo hi : Int) (hl : l.length ≤ 1048576) (hk : l.length < k) : spec_l1Rising.f k l lo hi = some (riseB l lo hi l.length 0) := by
  unfold spec_l1Rising.f; exact (rise_l0 l lo hi hl l.length k 0 (by omega) hk).2
theorem riseB_true (l : List Int) (lo hi : Int) (d : Nat) : ∀ i, riseB l lo hi d i = true → ∀ j, i ≤ j → j < i + d → (lo ≤ rd l (j : Int) ∧ rd l (j : Int) ≤ hi) ∧ (0 < j → rd l ((j - 1 : Nat) : Int) < rd l (j : Int)) := by
  induction d with
  | zero => intro i _ j h1 h2; omega
  | succ d ih =>
    intro i h j h1 h2
    unfold riseB at h
    by_cases c : lo ≤ rd l (i : Int) ∧ rd l (i : Int) ≤ hi
    · rw [if_pos c] at h
      by_cases g : 0 < i ∧ rd l (i : Int) ≤ rd l ((i - 1 : Nat) : Int)
      · rw [if_pos g] at h; exact absurd h (by simp)
      · rw [if_neg g] at h
        by_cases e : j = i
        · subst e; exact ⟨c, fun z => by
            apply Int.not_le.mp; intro y; exact g ⟨z, y⟩⟩
        · exact ih (i + 1) h j (by omega) (by omega)
    · rw [if_neg c] at h; exact absurd h (by simp)

-- block stairs
def stairsB (n : Int) (l b : List Int) : Bool := if (1 ≤ n ∧ n ≤ 60) ∧ (1 ≤ l.length ∧ l.length ≤ 5) then riseB l 1 9 l.length 0 && riseB b 1 (n - 1) b.length 0 else false
theorem clGood_eq {k : Nat} (n : Int) {l b : List Int} (hl : l.length ≤ 1048576) (hb : b.length ≤ 1048576) (hk : 1048576 < k) : spec_clGood.f k n l b = some (stairsB n l b) := by
  unfold spec_clGood.f stairsB
  rw [l1In_eq, Option.bind_some, l1In_eq, Option.bind_some, l1Rising_eq 1 9 hl (by omega), Option.bind_some]
  by_cases h : 1 ≤ n ∧ n ≤ 60
  · rw [if_pos (decide_eq_true h)]
    by_cases g : 1 ≤ l.length ∧ l.length ≤ 5
    · rw [if_pos (by simp; omega), if_pos (show (1 ≤ n ∧ n ≤ 60) ∧ (1 ≤ l.length ∧ l.length ≤ 5) from ⟨h, g⟩), l1Rising_eq _ _ hb (by omega), w64 (by omega)]
      cases riseB l 1 9 l.length 0 <;> simp
    · rw [if_neg (by simp; omega), if_neg (show ¬ ((1 ≤ n ∧ n ≤ 60) ∧ (1 ≤ l.length ∧ l.length ≤ 5)) from fun z => g z.2)]
  · rw [if_neg (by simpa using h), if_neg (show ¬ ((1 ≤ n ∧ n ≤ 60) ∧ (1 ≤ l.length ∧ l.length ≤ 5)) from fun z => h z.1)]
theorem AreStairs_eq {k : Nat} (n : Int) {l b : List Int} (hl : l.length ≤ 1048576) (hb : b.length ≤ 1048576) (hk : 1048576 < k) : impl_AreStairs.f k n l b = some (stairsB n l b) := by
  unfold impl_AreStairs.f stairsB
  rw [within_eq, Option.bind_some, within_eq, Option.bind_some, rise_eq 1 9 hl (by omega), Option.bind_some]
  by_cases h : 1 ≤ n ∧ n ≤ 60
  · rw [if_pos (decide_eq_true h)]
    by_cases g : 1 ≤ l.length ∧ l.length ≤ 5
    · rw [if_pos (by simp; omega), if_pos (show (1 ≤ n ∧ n ≤ 60) ∧ (1 ≤ l.length ∧ l.length ≤ 5) from ⟨h, g⟩), rise_eq _ _ hb (by omega), w64 (by omega)]
      cases riseB l 1 9 l.length 0 <;> simp
    · rw [if_neg (by simp; omega), if_neg (show ¬ ((1 ≤ n ∧ n ≤ 60) ∧ (1 ≤ l.length ∧ l.length ≤ 5)) from fun z => g z.2)]
  · rw [if_neg (by simpa using h), if_neg (show ¬ ((1 ≤ n ∧ n ≤ 60) ∧ (1 ≤ l.length ∧ l.length ≤ 5)) from fun z => h z.1)]

-- block l1Has
theorem l1Has_l0 (x : Int) (l : List Int) (hl : l.length ≤ 1048576) (d : Nat) : ∀ (k i : Nat), i + d = l.length → d < k → spec_l1Has.l0 k x l l.length i = some (decide (x ∈ l.drop i)) := by
  induction d with
  | zero =>
    intro k i hd hk
    obtain ⟨k, rfl⟩ : ∃ m, k = m + 1 := ⟨k - 1, by omega⟩
    simp only [spec_l1Has.l0]; rw [if_neg (by omega), List.drop_eq_nil_of_le (by omega)]; simp
  | succ d ih =>
    intro k i hd hk
    obtain ⟨k, rfl⟩ : ∃ m, k = m + 1 := ⟨k - 1, by omega⟩
    simp only [spec_l1Has.l0]
    have h : i < l.length := by omega
    have e : rd l i = l[i] := by simp [rd, List.getD_eq_getElem?_getD, List.getElem?_eq_getElem h]
    rw [if_pos (by omega), if_pos (by omega), if_pos (by omega), e, List.drop_eq_getElem_cons h]
    by_cases g : l[i] = x
    · rw [if_pos g]; congr 1; rw [eq_comm, decide_eq_true_eq, g]; simp
    · rw [if_neg g, w64 (by omega), show (i : Int) + 1 = ((i + 1 : Nat) : Int) from rfl, ih k (i + 1) (by omega) (by omega)]
      congr 1; rw [decide_eq_decide, List.mem_cons]
      exact ⟨fun z => .inr z, fun z => z.resolve_left (fun y => g y.symm)⟩
theorem l1Has_eq {k : Nat} {l : List Int} (x : Int) (hl : l.length ≤ 1048576) (hk : l.length < k) : spec_l1Has.f k l x = some (decide (x ∈ l)) := by
  unfold spec_l1Has.f
  exact l1Has_l0 x l hl l.length k 0 (by omega) hk

-- block idx
/-- Where x is first, counted from i; -1 where it is not. -/
def idxI (x : Int) : List Int → Nat → Int
  | [], _ => -1
  | y :: ys, i => if y = x then (i : Int) else idxI x ys (i + 1)
theorem idxI_spec (x : Int) (l : List Int) : ∀ i : Nat, (x ∉ l ∧ idxI x l i = -1) ∨ (∃ n : Nat, n < l.length ∧ idxI x l i = (i : Int) + n ∧ rd l n = x ∧ ∀ m : Nat, m < n → rd l m ≠ x) := by
  induction l with
  | nil => intro i; exact .inl ⟨by simp, rfl⟩
  | cons y ys ih =>
    intro i
    unfold idxI
    by_cases h : y = x
    · subst h
      exact .inr ⟨0, by simp, by simp, by simp [rd], fun m hm => by omega⟩
    · rw [if_neg h]
      rcases ih (i + 1) with ⟨h1, h2⟩ | ⟨n, h1, h2, h3, h4⟩
      · exact .inl ⟨by simp [h1]; exact fun e => h e.symm, h2⟩
      · refine .inr ⟨n + 1, by simp; omega, by rw [h2]; omega, ?_, ?_⟩
        · simpa [rd] using h3
        · intro m hm
          cases m with
          | zero => simpa [rd] using h
          | succ m => have := h4 m (by omega); simpa [rd] using this
theorem idxI_mem (x : Int) (l : List Int) : decide (idxI x l 0 ≥ 0) = decide (x ∈ l) := by
  rw [decide_eq_decide]
  rcases idxI_spec x l 0 with ⟨h1, h2⟩ | ⟨n, h1, h2, h3, h4⟩
  · rw [h2]; constructor
    · intro h; omega
    · intro h; exact absurd h h1
  · rw [h2]; constructor
    · intro _
      have e : rd l n = l[n] := by simp [rd, List.getD_eq_getElem?_getD, List.getElem?_eq_getElem h1]
      rw [← h3, e]; exact List.getElem_mem h1
    · intro _; omega

-- block contains
theorem Index_l0 (x : Int) (l : List Int) (hl : l.length ≤ 1048576) (d : Nat) : ∀ (k i : Nat), i + d = l.length → d < k → slices_Index_int_int.l0 k l x l.length i = some (idxI x (l.drop i) i) := by
  induction d with
  | zero =>
    intro k i hd hk
    obtain ⟨k, rfl⟩ : ∃ m, k = m + 1 := ⟨k - 1, by omega⟩
    simp only [slices_Index_int_int.l0]; rw [if_neg (by omega), List.drop_eq_nil_of_le (by omega)]; rfl
  | succ d ih =>
    intro k i hd hk
    obtain ⟨k, rfl⟩ : ∃ m, k = m + 1 := ⟨k - 1, by omega⟩
    simp only [slices_Index_int_int.l0]
    have h : i < l.length := by omega
    have e : rd l i = l[i] := by simp [rd, List.getD_eq_getElem?_getD, List.getElem?_eq_getElem h]
    rw [if_pos (by omega), if_pos (by omega), if_pos (by omega), e, List.drop_eq_getElem_cons h, idxI]
    by_cases g : l[i] = x
    · rw [if_pos g, if_pos g.symm]
    · rw [if_neg g, if_neg (fun z => g z.symm), w64 (by omega)]
      exact ih k (i + 1) (by omega) (by omega)
theorem Index_eq {k : Nat} {l : List Int} (x : Int) (hl : l.length ≤ 1048576) (hk : l.length < k) : slices_Index_int_int.f k l x = some (idxI x l 0) := by
  unfold slices_Index_int_int.f
  exact Index_l0 x l hl l.length k 0 (by omega) hk

-- block contains2
theorem Contains_eq {k : Nat} {l : List Int} (x : Int) (hl : l.length ≤ 1048576) (hk : l.length < k) : slices_Contains_int_int.f k l x = some (decide (x ∈ l)) := by
  unfold slices_Contains_int_int.f
  rw [Index_eq x hl hk, Option.bind_some, idxI_mem]

-- block filt
/-- The numbers from i on, d of them, of which p holds. -/
def filt (p : Nat → Bool) (i d : Nat) : List Int := ((List.range' i d).filter p).map fun j : Nat => (j : Int)
theorem filt_succ (p : Nat → Bool) (i d : Nat) : filt p i (d + 1) = if p i = true then (i : Int) :: filt p (i + 1) d else filt p (i + 1) d := by
  unfold filt
  rw [List.range'_succ, List.filter_cons]
  by_cases h : p i = true
  · rw [if_pos h, if_pos h]; rfl
  · rw [if_neg h, if_neg h]
theorem filt_zero (p : Nat → Bool) (i : Nat) : filt p i 0 = [] := by simp [filt]
theorem filt_skip (p : Nat → Bool) (m : Nat) : ∀ (i d : Nat), (∀ j, i ≤ j → j < i + m → p j ≠ true) → filt p i d = filt p (i + m) (d - m) := by
  induction m with
  | zero => intro i d _; rfl
  | succ m ih =>
    intro i d h
    cases d with
    | zero => simp [filt]
    | succ d =>
      rw [filt_succ, if_neg (h i (Nat.le_refl _) (by omega)), ih (i + 1) d (fun j h1 h2 => h j (by omega) (by omega))]
      congr 1 <;> omega
theorem filt_length (p : Nat → Bool) (i d : Nat) : (filt p i d).length ≤ d := by
  unfold filt; rw [List.length_map]; exact Nat.le_trans (List.length_filter_le _ _) (by simp)
theorem thoseW_l0 (q : Int → Option Bool) (p : Nat → Bool) (N : Nat) (hN : N ≤ 1000) (hq : ∀ j : Nat, 1 ≤ j → j ≤ N → q j = some (p j)) (d : Nat) : ∀ (k i : Nat) (acc : List Int), i + d = N + 1 → d < k → acc.length ≤ i → 1 ≤ i → thoseW q k N i acc = some (acc ++ filt p i d) := by
  induction d with
  | zero =>
    intro k i acc hd hk ha hi
    obtain ⟨k, rfl⟩ : ∃ m, k = m + 1 := ⟨k - 1, by omega⟩
    simp only [thoseW]
    rw [if_neg (by omega), filt_zero, List.append_nil]
  | succ d ih =>
    intro k i acc hd hk ha hi
    obtain ⟨k, rfl⟩ : ∃ m, k = m + 1 := ⟨k - 1, by omega⟩
    simp only [thoseW]
    rw [if_pos (by omega), hq i hi (by omega), Option.bind_some, filt_succ, w64 (by omega), show (i : Int) + 1 = ((i + 1 : Nat) : Int) from rfl]
    by_cases h : p i = true
    · rw [if_pos h, if_pos h, if_pos (by omega), ih k (i + 1) _ (by omega) (by omega) (by simp; omega) (by omega)]; simp
    · rw [if_neg h, if_neg h, ih k (i + 1) _ (by omega) (by omega) (by omega) (by omega)]
theorem thoseW_eq {k : Nat} (q : Int → Option Bool) (p : Nat → Bool) (N : Nat) (hN : N ≤ 1000) (hk : 1001 < k) (hq : ∀ j : Nat, 1 ≤ j → j ≤ N → q j = some (p j)) : thoseW q k N 1 [] = some (filt p 1 N) :=
  thoseW_l0 q p N hN hq N k 1 [] (by omega) (by omega) (by simp) (by omega)
theorem multiple_gap {R x y : Nat} (h1 : x % R = 0) (h2 : y % R = 0) (h3 : x < y) (h4 : y < x + R) : False := by
  obtain ⟨a, rfl⟩ := Nat.dvd_of_mod_eq_zero h1
  obtain ⟨b, rfl⟩ := Nat.dvd_of_mod_eq_zero h2
  have a2 : R * b < R * (a + 1) := by rw [Nat.mul_add]; omega
  have b1 := Nat.lt_of_mul_lt_mul_left h3
  have b2 := Nat.lt_of_mul_lt_mul_left a2
  omega

-- block reach
theorem rd_set_eq (x : List Int) (a : Nat) (v : Int) (h : a < x.length) : rd (x.set a v) (a : Int) = v := by
  simp [rd, List.getD_eq_getElem?_getD, h]
theorem rd_set_ne (x : List Int) (a j : Nat) (v : Int) (h : j ≠ a) : rd (x.set a v) (j : Int) = rd x (j : Int) := by
  simp [rd, List.getD_eq_getElem?_getD, List.getElem?_set_ne (Ne.symm h)]
theorem rb_set_eq (x : List Bool) (a : Nat) (v : Bool) (h : a < x.length) : rdOf false (x.set a v) (a : Int) = v := by
  simp [rdOf, List.getD_eq_getElem?_getD, h]
theorem rb_set_ne (x : List Bool) (a j : Nat) (v : Bool) (h : j ≠ a) : rdOf false (x.set a v) (j : Int) = rdOf false x (j : Int) := by
  simp [rdOf, List.getD_eq_getElem?_getD, List.getElem?_set_ne (Ne.symm h)]
theorem isBroken_eq {k : Nat} (n : Int) (l b : List Int) (s : Int) (hb : b.length ≤ 1048576) (hk : 1048576 < k) : impl_Stairs_isBroken.f k n l b s = some (decide (s ∈ b)) := by
  unfold impl_Stairs_isBroken.f; rw [Contains_eq s hb (by omega), Option.bind_some]
theorem clStands_eq {k : Nat} (n : Int) (l b : List Int) (s : Int) (h : 0 ≤ s ∧ s ≤ n) (hb : b.length ≤ 1048576) (hk : 1048576 < k) : spec_clStands.f k n l b s = some (!decide (s ∈ b)) := by
  unfold spec_clStands.f; rw [l1In_eq, Option.bind_some, if_pos (decide_eq_true h), l1Has_eq s hb (by omega), Option.bind_some]
def pw (n : Nat) : Nat := 2 ^ n
theorem pw_le {n : Nat} (h : n ≤ 60) : pw n ≤ 1152921504606846976 := by
  unfold pw
  exact Nat.le_trans (Nat.pow_le_pow_right (by decide) h) (by decide)
/-- The ways down (numbers) and what is reached (yes or no) agree; so far no number is above its power of two. -/
structure Dp (N : Nat) (x : List Int) (y : List Bool) (cur : Nat) : Prop where
  lx : x.length = N + 1
  ly : y.length = N + 1
  pos : ∀ i : Nat, i ≤ N → 0 ≤ rd x (i : Int)
  iff : ∀ i : Nat, i ≤ N → (rd x (i : Int) > 0 ↔ rdOf false y (i : Int) = true)
  low : ∀ i : Nat, i < cur → i ≤ N → rd x (i : Int) ≤ ((pw i : Nat) : Int)
  hig : ∀ i : Nat, cur < i → i ≤ N → rd x (i : Int) = 0
/-- What the strides from place i on may still add. -/
def Room (l : List Int) (cur i : Nat) (v : Int) : Prop := v ≤ ((pw cur : Nat) : Int) ∧ (i < l.length → (rd l (i : Int)).toNat ≤ cur → v + 2 * ((pw (cur - (rd l (i : Int)).toNat) : Nat) : Int) ≤ ((pw cur : Nat) : Int))
def Ris (l : List Int) : Prop := ∀ j : Nat, j < l.length → (1 ≤ rd l (j : Int) ∧ rd l (j : Int) ≤ 9) ∧ (0 < j → rd l ((j - 1 : Nat) : Int) < rd l (j : Int))
theorem two_pow_step {a b c : Nat} (h : b < c) (h2 : c ≤ a) : 2 * pw (a - c) ≤ pw (a - b) := by
  unfold pw
  have : 2 * 2 ^ (a - c) = 2 ^ (a - c + 1) := by rw [Nat.pow_succ, Nat.mul_comm]
  rw [this]; exact Nat.pow_le_pow_right (by omega) (by omega)
theorem Room_next {l : List Int} (hl : Ris l) {cur i : Nat} {v v' : Int} (hi : i < l.length) (h : Room l cur i v) (h1 : v' ≤ ((pw cur : Nat) : Int)) (h2 : (rd l (i : Int)).toNat ≤ cur → v' + ((pw (cur - (rd l (i : Int)).toNat) : Nat) : Int) ≤ ((pw cur : Nat) : Int)) : Room l cur (i + 1) v' := by
  refine ⟨h1, fun hj hc => ?_⟩
  have a := (hl (i + 1) hj).2 (by omega)
  rw [show i + 1 - 1 = i from by omega] at a
  have b := (hl i hi).1
  have c := h2 (by omega)
  have d := two_pow_step (a := cur) (b := (rd l (i : Int)).toNat) (c := (rd l ((i + 1 : Nat) : Int)).toNat) (by omega) hc
  omega
theorem down_step (k : Nat) (x : List Int) (cur N : Nat) (l b : List Int) (i s : Nat) (hi : i < l.length) (hl : l.length ≤ 5) (es : rd l (i : Int) = (s : Int)) (hs9 : s ≤ 9) (hN : N ≤ 60) (hc : cur ≤ N) (hb : b.length ≤ 1048576) (hk : 1048576 < k) (hx : x.length = N + 1) :
    impl_Stairs_down.l1 (k + 1) x cur l l.length i N l b = if s ≤ cur ∧ ¬ (cur : Int) ∈ b then impl_Stairs_down.l1 k (x.set cur (wrap64 (rd x (cur : Int) + rd x ((cur - s : Nat) : Int)))) cur l l.length ((i + 1 : Nat) : Int) N l b else impl_Stairs_down.l1 k x cur l l.length ((i + 1 : Nat) : Int) N l b := by
  have e1 : wrap64 ((i : Int) + 1) = ((i + 1 : Nat) : Int) := by rw [w64 (by omega)]; rfl
  rw [impl_Stairs_down.l1, if_pos (show (i : Int) < (l.length : Int) by omega), if_pos (show (0 : Int) ≤ (i : Int) by omega), if_pos (show (i : Int) < (l.length : Int) by omega), es, e1]
  by_cases h : s ≤ cur
  · rw [if_pos (show (s : Int) ≤ (cur : Int) by omega), isBroken_eq N l b cur hb hk, Option.bind_some]
    by_cases g : (cur : Int) ∈ b
    · rw [if_pos (decide_eq_true g), if_neg (fun z => z.2 g)]
    · have e2 : wrap64 ((cur : Int) - (s : Int)) = ((cur - s : Nat) : Int) := by rw [w64 (by omega)]; omega
      rw [if_neg (by rw [decide_eq_false g]; simp), if_pos (show (0 : Int) ≤ (cur : Int) by omega), if_pos (show (cur : Int) < (x.length : Int) by omega), e2, if_pos (show (0 : Int) ≤ ((cur - s : Nat) : Int) by omega), if_pos (show ((cur - s : Nat) : Int) < (x.length : Int) by omega), if_pos ⟨h, g⟩, Int.toNat_natCast]
  · rw [if_neg (show ¬ (s : Int) ≤ (cur : Int) by omega), if_neg (fun z => h z.1)]
theorem reached_step (k : Nat) (y : List Bool) (cur N : Nat) (l b : List Int) (i s : Nat) (hi : i < l.length) (hl : l.length ≤ 5) (es : rd l (i : Int) = (s : Int)) (hs9 : s ≤ 9) (hN : N ≤ 60) (hc : cur ≤ N) (hb : b.length ≤ 1048576) (hk : 1048576 < k) (hy : y.length = N + 1) :
    spec_clReached.l1 (k + 1) y cur l l.length i N l b = if (s ≤ cur ∧ ¬ (cur : Int) ∈ b) ∧ rdOf false y ((cur - s : Nat) : Int) = true then spec_clReached.l1 k (y.set cur true) cur l l.length ((i + 1 : Nat) : Int) N l b else spec_clReached.l1 k y cur l l.length ((i + 1 : Nat) : Int) N l b := by
  have e1 : wrap64 ((i : Int) + 1) = ((i + 1 : Nat) : Int) := by rw [w64 (by omega)]; rfl
  rw [spec_clReached.l1, if_pos (show (i : Int) < (l.length : Int) by omega), if_pos (show (0 : Int) ≤ (i : Int) by omega), if_pos (show (i : Int) < (l.length : Int) by omega), es, e1]
  by_cases h : s ≤ cur
  · have e2 : wrap64 ((cur : Int) - (s : Int)) = ((cur - s : Nat) : Int) := by rw [w64 (by omega)]; omega
    rw [if_pos (show (s : Int) ≤ (cur : Int) by omega), e2, if_pos (show (0 : Int) ≤ ((cur - s : Nat) : Int) by omega), if_pos (show ((cur - s : Nat) : Int) < (y.length : Int) by omega)]
    by_cases f : rdOf false y ((cur - s : Nat) : Int) = true
    · rw [if_pos f, clStands_eq N l b cur (by omega) hb hk, Option.bind_some]
      by_cases g : (cur : Int) ∈ b
      · rw [if_neg (by rw [decide_eq_true g]; simp), if_neg (fun z => z.1.2 g)]
      · rw [if_pos (by rw [decide_eq_false g]; rfl), if_pos (show (0 : Int) ≤ (cur : Int) by omega), if_pos (show (cur : Int) < (y.length : Int) by omega), if_pos ⟨⟨h, g⟩, f⟩, Int.toNat_natCast]
    · rw [if_neg f, if_neg (fun z => f z.2)]
  · rw [if_neg (show ¬ (s : Int) ≤ (cur : Int) by omega), if_neg (fun z => h z.1.1)]
set_option maxHeartbeats 4000000 in
theorem dp_l1 (N : Nat) (l b : List Int) (hN : N ≤ 60) (hl : Ris l) (hl5 : l.length ≤ 5) (hb : b.length ≤ 1048576) (cur : Nat) (hc0 : 0 < cur) (hc : cur ≤ N) (d : Nat) : ∀ (k i : Nat) (x : List Int) (y : List Bool), i + d = l.length → 1100000 + d < k → Dp N x y cur → Room l cur i (rd x (cur : Int)) →
    ∃ x' y' m, k ≤ m + d + 1 ∧ impl_Stairs_down.l1 k x cur l l.length i N l b = impl_Stairs_down.l0 m x' ((cur + 1 : Nat) : Int) N l b ∧ spec_clReached.l1 k y cur l l.length i N l b = spec_clReached.l0 m y' ((cur + 1 : Nat) : Int) N l b ∧ Dp N x' y' (cur + 1) ∧ (∀ j : Nat, cur < j → j ≤ N → rd x' (j : Int) = 0) := by
  have hp : pw cur ≤ 1152921504606846976 := pw_le (by omega)
  induction d with
  | zero =>
    intro k i x y hd hk D R
    obtain ⟨k, rfl⟩ : ∃ m, k = m + 1 := ⟨k - 1, by omega⟩
    refine ⟨x, y, k, by omega, ?_, ?_, ⟨D.lx, D.ly, D.pos, D.iff, fun j h1 h2 => ?_, fun j h1 h2 => D.hig j (by omega) h2⟩, D.hig⟩
    · simp only [impl_Stairs_down.l1]; rw [if_neg (by omega), w64 (by omega)]; rfl
    · simp only [spec_clReached.l1]; rw [if_neg (by omega), w64 (by omega)]; rfl
    · by_cases e : j = cur
      · subst e; exact R.1
      · exact D.low j (by omega) h2
  | succ d ih =>
    intro k i x y hd hk D R
    obtain ⟨k, rfl⟩ : ∃ m, k = m + 1 := ⟨k - 1, by omega⟩
    have hi : i < l.length := by omega
    have hs := (hl i hi).1
    obtain ⟨s, es⟩ := Int.eq_ofNat_of_zero_le (show 0 ≤ rd l (i : Int) by omega)
    have e1 : wrap64 ((i : Int) + 1) = ((i + 1 : Nat) : Int) := by rw [w64 (by omega)]; rfl
    have hlx := D.lx
    have hly := D.ly
    rw [es] at hs
    have da := down_step k x cur N l b i s hi hl5 es (by omega) hN hc hb (by omega) hlx
    have ra := reached_step k y cur N l b i s hi hl5 es (by omega) hN hc hb (by omega) hly
    rw [da, ra]
    clear da ra
    by_cases hsc : s ≤ cur
    · have r2 := R.2 hi (by rw [es]; omega)
      rw [es, Int.toNat_natCast] at r2
      have low := D.low (cur - s) (by omega) (by omega)
      have p1 := D.pos (cur - s) (by omega)
      have p2 := D.pos cur hc
      by_cases hbr : (cur : Int) ∈ b
      · rw [if_neg (fun z => z.2 hbr), if_neg (fun z => z.1.2 hbr)]
        obtain ⟨x', y', m, g1, g2, g3, g4⟩ := ih k (i + 1) x y (by omega) (by omega) D (Room_next hl hi R R.1 (by rw [es, Int.toNat_natCast]; intro _; omega))
        exact ⟨x', y', m, by omega, g2, g3, g4⟩
      · rw [if_pos ⟨hsc, hbr⟩]
        have ew : wrap64 (rd x (cur : Int) + rd x ((cur - s : Nat) : Int)) = rd x (cur : Int) + rd x ((cur - s : Nat) : Int) := w64 (by omega)
        rw [ew]
        generalize hv : rd x (cur : Int) + rd x ((cur - s : Nat) : Int) = v at *
        have q1 : rd (x.set cur v) (cur : Int) = v := rd_set_eq x cur v (by omega)
        have rm : Room l cur (i + 1) (rd (x.set cur v) (cur : Int)) := by
          rw [q1]; exact Room_next hl hi R (by omega) (by rw [es, Int.toNat_natCast]; intro _; omega)
        have mk : ∀ y' : List Bool, y'.length = N + 1 → (∀ j : Nat, j ≠ cur → rdOf false y' (j : Int) = rdOf false y (j : Int)) → (v > 0 ↔ rdOf false y' (cur : Int) = true) → Dp N (x.set cur v) y' cur := by
          intro y' h1 h2 h3
          refine ⟨by rw [List.length_set]; exact hlx, h1, fun j hj => ?_, fun j hj => ?_, fun j h5 h6 => ?_, fun j h5 h6 => ?_⟩
          · by_cases e : j = cur
            · subst e; rw [q1]; omega
            · rw [rd_set_ne _ _ _ _ e]; exact D.pos j hj
          · by_cases e : j = cur
            · subst e; rw [q1]; exact h3
            · rw [rd_set_ne _ _ _ _ e, h2 j e]; exact D.iff j hj
          · rw [rd_set_ne _ _ _ _ (by omega)]; exact D.low j h5 h6
          · rw [rd_set_ne _ _ _ _ (by omega)]; exact D.hig j h5 h6
        by_cases hy : rdOf false y ((cur - s : Nat) : Int) = true
        · have ps := (D.iff (cur - s) (by omega)).2 hy
          rw [if_pos ⟨⟨hsc, hbr⟩, hy⟩]
          have dp := mk (y.set cur true) (by rw [List.length_set]; exact hly) (fun j e => rb_set_ne _ _ _ _ e) (by rw [rb_set_eq _ _ _ (by omega)]; exact ⟨fun _ => rfl, fun _ => by omega⟩)
          obtain ⟨x', y', m, g1, g2, g3, g4⟩ := ih k (i + 1) _ _ (by omega) (by omega) dp rm
          exact ⟨x', y', m, by omega, g2, g3, g4⟩
        · have ps : ¬ rd x ((cur - s : Nat) : Int) > 0 := fun z => hy ((D.iff (cur - s) (by omega)).1 z)
          rw [if_neg (fun z => hy z.2)]
          have dp := mk y hly (fun j _ => rfl) (by rw [← D.iff cur hc]; omega)
          obtain ⟨x', y', m, g1, g2, g3, g4⟩ := ih k (i + 1) _ _ (by omega) (by omega) dp rm
          exact ⟨x', y', m, by omega, g2, g3, g4⟩
    · rw [if_neg (fun z => hsc z.1), if_neg (fun z => hsc z.1.1)]
      obtain ⟨x', y', m, g1, g2, g3, g4⟩ := ih k (i + 1) x y (by omega) (by omega) D (Room_next hl hi R R.1 (by rw [es, Int.toNat_natCast]; intro z; omega))
      exact ⟨x', y', m, by omega, g2, g3, g4⟩
theorem dp_l0 (N : Nat) (l b : List Int) (hN : N ≤ 60) (hl : Ris l) (hl5 : l.length ≤ 5) (hb : b.length ≤ 1048576) (d : Nat) : ∀ (k cur : Nat) (x : List Int) (y : List Bool), cur + d = N + 1 → 1100100 + 10 * d < k → 0 < cur → Dp N x y cur → (∀ j : Nat, cur ≤ j → j ≤ N → rd x (j : Int) = 0) →
    ∃ x' y', impl_Stairs_down.l0 k x cur N l b = some x' ∧ spec_clReached.l0 k y cur N l b = some y' ∧ Dp N x' y' (N + 1) := by
  induction d with
  | zero =>
    intro k cur x y hd hk hc D Z
    obtain ⟨k, rfl⟩ : ∃ m, k = m + 1 := ⟨k - 1, by omega⟩
    have e : cur = N + 1 := by omega
    subst e
    refine ⟨x, y, ?_, ?_, D⟩
    · rw [impl_Stairs_down.l0, if_neg (by omega)]
    · rw [spec_clReached.l0, if_neg (by omega)]
  | succ d ih =>
    intro k cur x y hd hk hc D Z
    obtain ⟨k, rfl⟩ : ∃ m, k = m + 1 := ⟨k - 1, by omega⟩
    have z := Z cur (Nat.le_refl _) (by omega)
    have R : Room l cur 0 (rd x (cur : Int)) := by
      rw [z]
      refine ⟨by omega, fun h1 h2 => ?_⟩
      have a := (hl 0 h1).1
      have b := two_pow_step (a := cur) (b := 0) (c := (rd l ((0 : Nat) : Int)).toNat) (by omega) h2
      rw [Nat.sub_zero] at b
      omega
    obtain ⟨x', y', m, g1, g2, g3, g4, g5⟩ := dp_l1 N l b hN hl hl5 hb cur hc (by omega) l.length k 0 x y (by omega) (by omega) D R
    obtain ⟨x2, y2, h1, h2, h3⟩ := ih m (cur + 1) x' y' (by omega) (by omega) (by omega) g4 (fun j a b => g5 j (by omega) b)
    refine ⟨x2, y2, ?_, ?_, h3⟩
    · rw [impl_Stairs_down.l0, if_pos (by omega)]; exact g2.trans h1
    · rw [spec_clReached.l0, if_pos (by omega)]; exact g3.trans h2
theorem rd_rep (n i : Nat) : rd (List.replicate n (0 : Int)) (i : Int) = 0 := by
  simp [rd, List.getD_eq_getElem?_getD, List.getElem?_replicate]; split <;> rfl
theorem rb_rep (n i : Nat) : rdOf false (List.replicate n false) (i : Int) = false := by
  simp [rdOf, List.getD_eq_getElem?_getD, List.getElem?_replicate]; split <;> rfl
theorem stairsB_true {n : Int} {l b : List Int} (h : stairsB n l b = true) : (1 ≤ n ∧ n ≤ 60) ∧ l.length ≤ 5 ∧ Ris l := by
  unfold stairsB at h
  by_cases c : (1 ≤ n ∧ n ≤ 60) ∧ (1 ≤ l.length ∧ l.length ≤ 5)
  · rw [if_pos c, Bool.and_eq_true] at h
    exact ⟨c.1, c.2.2, fun j hj => riseB_true l 1 9 l.length 0 h.1 j (by omega) (by omega)⟩
  · rw [if_neg c] at h; exact absurd h (by simp)
theorem dp_eq {k : Nat} (N : Nat) (l b : List Int) (hN : N ≤ 60) (hl : Ris l) (hl5 : l.length ≤ 5) (hb : b.length ≤ 1048576) (hk : 1200000 < k) : ∃ x y, impl_Stairs_down.f k N l b = some x ∧ spec_clReached.f k N l b = some y ∧ Dp N x y (N + 1) := by
  have e : wrap64 ((N : Int) + 1) = ((N + 1 : Nat) : Int) := by rw [w64 (by omega)]; rfl
  have D : Dp N ((List.replicate (N + 1) (0 : Int)).set 0 1) ((List.replicate (N + 1) false).set 0 true) 1 := by
    have q1 : rd ((List.replicate (N + 1) (0 : Int)).set 0 1) ((0 : Nat) : Int) = 1 := rd_set_eq _ 0 1 (by simp)
    have q2 : rdOf false ((List.replicate (N + 1) false).set 0 true) ((0 : Nat) : Int) = true := rb_set_eq _ 0 true (by simp)
    refine ⟨by simp, by simp, fun i _ => ?_, fun i _ => ?_, fun i h1 _ => ?_, fun i h1 _ => ?_⟩
    · by_cases c : i = 0
      · subst c; omega
      · rw [rd_set_ne _ _ _ _ c, rd_rep]; omega
    · by_cases c : i = 0
      · subst c; rw [q1, q2]; simp
      · rw [rd_set_ne _ _ _ _ c, rd_rep, rb_set_ne _ _ _ _ c, rb_rep]; simp
    · have c : i = 0 := by omega
      subst c; rw [q1]; unfold pw; decide
    · rw [rd_set_ne _ _ _ _ (by omega), rd_rep]
  obtain ⟨x, y, h1, h2, h3⟩ := dp_l0 N l b hN hl hl5 hb N k 1 _ _ (by omega) (by omega) (by omega) D (fun j a _ => by rw [rd_set_ne _ _ _ _ (by omega), rd_rep])
  refine ⟨x, y, ?_, ?_, h3⟩
  · unfold impl_Stairs_down.f
    rw [e, if_pos (by omega), if_pos (by omega), Option.bind_some, if_pos (by simp), Int.toNat_natCast]
    exact h1
  · unfold spec_clReached.f
    rw [e, if_pos (by omega), if_pos (by omega), Option.bind_some, if_pos (by simp), Int.toNat_natCast]
    exact h2

-- block eqIntS
theorem eqIntS_l0 (l : List Int) (hl : l.length ≤ 1000000000) (d : Nat) : ∀ (k i : Nat), i + d = l.length → d < k → laws_eqIntS.l0 k l l i = some true := by
  induction d with
  | zero =>
    intro k i hd hk
    obtain ⟨k, rfl⟩ : ∃ m, k = m + 1 := ⟨k - 1, by omega⟩
    simp only [laws_eqIntS.l0]; rw [if_neg (by omega)]
  | succ d ih =>
    intro k i hd hk
    obtain ⟨k, rfl⟩ : ∃ m, k = m + 1 := ⟨k - 1, by omega⟩
    simp only [laws_eqIntS.l0]
    rw [if_pos (by omega), if_pos (by omega), if_pos (by omega), if_pos trivial, w64 (by omega)]
    exact ih k (i + 1) (by omega) (by omega)
theorem eqIntS_self {k : Nat} {l : List Int} (hl : l.length ≤ 1000000000) (hk : l.length < k) : laws_eqIntS.f k l l = some true := by
  unfold laws_eqIntS.f
  rw [if_pos rfl, show (0 : Int) = ((0 : Nat) : Int) from rfl, eqIntS_l0 l hl l.length k 0 (by omega) hk]

-- block marks
def ups (a : Int) (n : Nat) : List Int := (List.range n).map fun i : Nat => a + (i : Int)
theorem ups_length (a : Int) (n : Nat) : (ups a n).length = n := by simp [ups]
theorem ups_succ (a : Int) (n : Nat) : ups a (n + 1) = ups a n ++ [a + n] := by simp [ups, List.range_succ]
theorem rd_ups (a : Int) (n i : Nat) (h : i < n) : rd (ups a n) i = a + i := by
  unfold rd ups
  rw [List.getD_eq_getElem?_getD, Int.toNat_natCast, List.getElem?_map, List.getElem?_range h]; rfl
theorem markIntS_l0 (a : Int) (ha : 0 ≤ a) (d : Nat) : ∀ (k i : Nat) (post : List Int), post.length = d → a + i + d ≤ 4000000000000 → d < k →
    laws_markIntS.l0 k (ups a i ++ post) (a + i) i = some (a + i + d, ups a (i + d)) := by
  induction d with
  | zero =>
    intro k i post hp hb hk
    obtain ⟨k, rfl⟩ : ∃ m, k = m + 1 := ⟨k - 1, by omega⟩
    obtain rfl := List.eq_nil_of_length_eq_zero hp
    simp only [laws_markIntS.l0]
    rw [if_neg (by simp [ups_length])]
    simp
  | succ d ih =>
    intro k i post hp hb hk
    obtain ⟨k, rfl⟩ : ∃ m, k = m + 1 := ⟨k - 1, by omega⟩
    obtain ⟨x, post, rfl⟩ : ∃ x p, post = x :: p := by
      cases post with
      | nil => simp at hp
      | cons x p => exact ⟨x, p, rfl⟩
    simp only [laws_markIntS.l0]
    rw [if_pos (by simp [ups_length]; omega), if_pos (by omega), w64 (by omega), w64 (by omega)]
    have e : (ups a i ++ x :: post).set (i : Int).toNat (a + i) = ups a (i + 1) ++ post := by
      rw [Int.toNat_natCast, List.set_append_right _ _ (by simp [ups_length]), ups_length, Nat.sub_self, List.set_cons_zero, ups_succ, List.append_assoc]; rfl
    rw [e, show a + (i : Int) + 1 = a + ((i + 1 : Nat) : Int) from by omega, show (i : Int) + 1 = ((i + 1 : Nat) : Int) from rfl]
    rw [ih k (i + 1) post (by simpa using hp) (by omega) (by omega)]
    rw [show i + 1 + d = i + (d + 1) from by omega]
    congr 2; omega
theorem markIntS_eq {k : Nat} {l : List Int} {a : Int} (ha : 0 ≤ a) (hb : a + l.length ≤ 4000000000000) (hk : l.length < k) : laws_markIntS.f k l a = some (a + l.length, ups a l.length) := by
  unfold laws_markIntS.f
  have := markIntS_l0 a ha l.length k 0 l rfl (by omega) hk
  simpa [ups] using this
theorem heldIntS_l0 (a : Int) (ha : 0 ≤ a) (n : Nat) (hb : a + n ≤ 4000000000000) (d : Nat) : ∀ (k i : Nat), i + d = n → d < k → laws_heldIntS.l0 k (ups a n) (a + i) i = some (a + n) := by
  induction d with
  | zero =>
    intro k i hd hk
    obtain ⟨k, rfl⟩ : ∃ m, k = m + 1 := ⟨k - 1, by omega⟩
    simp only [laws_heldIntS.l0]
    rw [if_neg (by rw [ups_length]; omega)]
    congr 1; omega
  | succ d ih =>
    intro k i hd hk
    obtain ⟨k, rfl⟩ : ∃ m, k = m + 1 := ⟨k - 1, by omega⟩
    simp only [laws_heldIntS.l0]
    rw [if_pos (by rw [ups_length]; omega), if_pos (by omega), rd_ups _ _ _ (by omega), if_pos rfl, w64 (by omega), w64 (by omega)]
    rw [show a + (i : Int) + 1 = a + ((i + 1 : Nat) : Int) from by omega, show (i : Int) + 1 = ((i + 1 : Nat) : Int) from rfl]
    exact ih k (i + 1) (by omega) (by omega)
theorem heldIntS_eq {k n : Nat} {a : Int} (ha : 0 ≤ a) (hb : a + n ≤ 4000000000000) (hk : n < k) : laws_heldIntS.f k (ups a n) a = some (a + n) := by
  unfold laws_heldIntS.f
  have := heldIntS_l0 a ha n hb n k 0 (by omega) hk
  simpa using this

-- block toIntS
theorem toIntS_l0 (l : List Int) (hl : l.length ≤ 1048576) (d : Nat) : ∀ (k i : Nat) (m : List Int), i + d = l.length → d < k → m.length = d → laws_toIntS.l0 k l (l.take i ++ m) i = some l := by
  induction d with
  | zero =>
    intro k i m hd hk hm
    obtain ⟨k, rfl⟩ : ∃ n, k = n + 1 := ⟨k - 1, by omega⟩
    obtain rfl := List.eq_nil_of_length_eq_zero hm
    simp only [laws_toIntS.l0]; rw [if_neg (by omega), List.take_of_length_le (by omega), List.append_nil]
  | succ d ih =>
    intro k i m hd hk hm
    obtain ⟨k, rfl⟩ : ∃ n, k = n + 1 := ⟨k - 1, by omega⟩
    obtain ⟨x, m, rfl⟩ : ∃ x p, m = x :: p := by
      cases m with
      | nil => simp at hm
      | cons x p => exact ⟨x, p, rfl⟩
    simp only [laws_toIntS.l0]
    have hi : i < l.length := by omega
    have hlen : (l.take i ++ x :: m).length = l.length := by simp at hm ⊢; omega
    have e : (l.take i ++ x :: m).set (i : Int).toNat (rd l i) = l.take (i + 1) ++ m := by
      have ht : (l.take i).length = i := by simp; omega
      rw [Int.toNat_natCast, List.set_append_right _ _ (by omega), ht, Nat.sub_self, List.set_cons_zero, List.take_succ_eq_append_getElem hi, List.append_assoc]
      simp [rd, List.getD_eq_getElem?_getD, List.getElem?_eq_getElem hi]
    rw [if_pos (by omega), if_pos (by omega), if_pos (by omega), e, w64 (by omega)]
    exact ih k (i + 1) m (by omega) (by omega) (by simpa using hm)
theorem toIntS_eq {k : Nat} {l : List Int} (hl : l.length ≤ 1048576) (hk : 1048576 < k) : laws_toIntS.f k l = some l := by
  unfold laws_toIntS.f
  rw [if_pos (by omega), if_pos (by omega)]
  have := toIntS_l0 l hl l.length k 0 (List.replicate l.length 0) (by omega) (by omega) (by simp)
  simpa using this

def reachP (y : List Bool) (i : Nat) : Bool := decide (0 < i) && rdOf false y (i : Int)
theorem spec_reached_l0 (y : List Bool) (hy : y.length ≤ 1000) (d : Nat) : ∀ (k i : Nat) (acc : List Int), i + d = y.length → d < k → acc.length ≤ i → spec_ReachedSteps.l0 k acc y y.length i = some (acc ++ filt (reachP y) i d, true) := by
  induction d with
  | zero =>
    intro k i acc hd hk ha
    obtain ⟨k, rfl⟩ : ∃ m, k = m + 1 := ⟨k - 1, by omega⟩
    rw [spec_ReachedSteps.l0, if_neg (by omega), filt_zero, List.append_nil]
  | succ d ih =>
    intro k i acc hd hk ha
    obtain ⟨k, rfl⟩ : ∃ m, k = m + 1 := ⟨k - 1, by omega⟩
    have e1 : wrap64 ((i : Int) + 1) = ((i + 1 : Nat) : Int) := by rw [w64 (by omega)]; rfl
    rw [spec_ReachedSteps.l0, if_pos (show (i : Int) < (y.length : Int) by omega), if_pos (show (0 : Int) ≤ (i : Int) by omega), if_pos (show (i : Int) < (y.length : Int) by omega), e1, filt_succ]
    unfold reachP
    by_cases g : rdOf false y (i : Int) = true
    · rw [if_pos g]
      by_cases h : 0 < i
      · rw [if_pos (show (i : Int) > 0 by omega), if_pos (by omega), if_pos (by rw [decide_eq_true h, g]; rfl), ih k (i + 1) _ (by omega) (by omega) (by simp; omega)]; unfold reachP; simp
      · rw [if_neg (show ¬ (i : Int) > 0 by omega), if_neg (by rw [decide_eq_false h]; simp), ih k (i + 1) _ (by omega) (by omega) (by omega)]; rfl
    · rw [if_neg g, if_neg (by rw [Bool.eq_false_iff.mpr g]; simp), ih k (i + 1) _ (by omega) (by omega) (by omega)]; rfl
theorem ReachedSteps_eq {k : Nat} (hk : 1300000 < k) (n : Int) (l b : List Int) (hl : l.length ≤ 1048576) (hb : b.length ≤ 1048576) : ∃ r, spec_ReachedSteps.f k n l b = some r ∧ impl_ReachedSteps.f k n l b = some r ∧ r.1.length ≤ 100 := by
  unfold spec_ReachedSteps.f impl_ReachedSteps.f
  rw [clGood_eq n hl hb (by omega), AreStairs_eq n hl hb (by omega), Option.bind_some, Option.bind_some]
  by_cases h : stairsB n l b = true
  · have g := stairsB_true h
    obtain ⟨N, rfl⟩ := Int.eq_ofNat_of_zero_le (show 0 ≤ n by omega)
    obtain ⟨x, y, h1, h2, D⟩ := dp_eq (k := k) N l b (by omega) g.2.2 g.2.1 hb (by omega)
    have ly := D.ly
    have lx := D.lx
    rw [if_pos h, if_pos h, h1, h2, Option.bind_some, Option.bind_some]
    have e := spec_reached_l0 y (by omega) (N + 1) k 0 [] (by omega) (by omega) (by simp)
    rw [show ((0 : Nat) : Int) = 0 from rfl] at e
    rw [e, thoseW_eq _ (reachP y) N (by omega) (by omega) (fun j j1 j2 => by
      unfold impl_ReachedSteps.q reachP
      rw [if_pos (by omega), if_pos (by omega), decide_eq_true (show 0 < j by omega), Bool.true_and]
      congr 1
      rw [Bool.eq_iff_iff, decide_eq_true_eq]
      exact D.iff j j2), Option.bind_some, filt_succ, if_neg (by unfold reachP; simp)]
    have : (filt (reachP y) 1 N).length ≤ N := filt_length _ _ _
    exact ⟨_, rfl, by simp, by simp; omega⟩
  · rw [if_neg h, if_neg h]; exact ⟨_, rfl, rfl, by simp⟩
theorem toStairs_eq {k : Nat} (n : Int) {l b : List Int} (hl : l.length ≤ 1048576) (hb : b.length ≤ 1048576) (hk : 1048576 < k) : laws_toStairs.f k n l b = some (n, l, b) := by
  unfold laws_toStairs.f
  rw [toIntS_eq (by omega) (by omega), Option.bind_some, toIntS_eq (by omega) (by omega), Option.bind_some]
theorem szStairs_eq (n : Int) (l b : List Int) (hl : l.length ≤ maxLen) (hb : b.length ≤ maxLen) : ∃ v, laws_szStairs.f n l b 1048576 = some v ∧ (¬ v < 0 → l.length ≤ 1048576 ∧ b.length ≤ 1048576) := by
  unfold laws_szStairs.f laws_szIntS.f
  have m : maxLen ≤ 9223372036854775807 := by decide
  rw [w64 (x := 1048576 - (l.length : Int)) (by omega)]
  by_cases h : 1048576 - (l.length : Int) < 0
  · rw [if_pos h, Option.bind_some, if_pos (by omega)]; exact ⟨_, rfl, fun z => absurd (by omega) z⟩
  · rw [if_neg h, Option.bind_some, if_neg h, w64 (by omega)]
    by_cases g : 1048576 - (l.length : Int) - (b.length : Int) < 0
    · rw [if_pos g, Option.bind_some, if_pos (by omega)]; exact ⟨_, rfl, fun z => absurd (by omega) z⟩
    · rw [if_neg g, Option.bind_some, if_neg g]; exact ⟨_, rfl, fun _ => ⟨by omega, by omega⟩⟩
theorem FnExactReachedSteps : laws_FnExactReachedSteps.Pure := by
  intro n l b _ hl0 _ hb0 _
  obtain ⟨k, hk⟩ : ∃ k, 2000000 < k := ⟨2000001, by omega⟩
  refine ⟨k + 3, ?_⟩
  obtain ⟨v, ev, hv⟩ := szStairs_eq n l b hl0 hb0
  unfold laws_FnExactReachedSteps.f
  rw [ev, Option.bind_some]
  by_cases hs : v < 0
  · rw [if_pos hs]
  · obtain ⟨hl, hb⟩ := hv hs
    obtain ⟨r, h1, h2, hr⟩ := ReachedSteps_eq (k := k + 3) (by omega) n l b hl hb
    obtain ⟨r', h1', h2', -⟩ := ReachedSteps_eq (k := k + 1) (by omega) n l b hl hb
    have e : r' = r := by
      have m := impl_ReachedSteps.mono n l b (k + 1 + 1) _ (impl_ReachedSteps.mono n l b (k + 1) _ h2')
      rw [h2] at m; exact (Option.some.inj m).symm
    subst e
    rw [if_neg hs, toStairs_eq n hl hb (by omega), Option.bind_some, h1, Option.bind_some, Option.bind_some, h2, Option.bind_some, eqIntS_self (by omega) (by omega), Option.bind_some, if_pos rfl, laws_FnExactReachedSteps.j0, if_neg (by simp), toStairs_eq n hl hb (by omega), Option.bind_some]
    unfold laws_eqStairs.f laws_markStairs.f
    dsimp only
    rw [if_pos rfl, eqIntS_self (by omega) (by omega), Option.bind_some, if_pos rfl, eqIntS_self (by omega) (by omega), Option.bind_some, if_pos rfl, Option.bind_some, if_pos rfl, markIntS_eq (by omega) (by omega) (by omega), Option.bind_some, markIntS_eq (by omega) (by omega) (by omega), Option.bind_some, Option.bind_some]
    rw [if_neg (by omega), eqIntS_self (by omega) (by omega), Option.bind_some, if_pos rfl, laws_FnExactReachedSteps.j1, if_neg (by simp), markIntS_eq (by omega) (by omega) (by omega), Option.bind_some, heldIntS_eq (by omega) (by omega) (by omega), Option.bind_some, if_neg (by omega), if_pos rfl, toStairs_eq n hl hb (by omega), Option.bind_some, h2', Option.bind_some, eqIntS_self (by omega) (by omega), Option.bind_some, if_pos rfl, laws_FnExactReachedSteps.j2, if_neg (by simp), heldIntS_eq (by omega) (by omega) (by omega), Option.bind_some, if_neg (by omega), if_pos rfl]

end Go.Proofs.Ytlajnkdokmbpeaa.Pure
