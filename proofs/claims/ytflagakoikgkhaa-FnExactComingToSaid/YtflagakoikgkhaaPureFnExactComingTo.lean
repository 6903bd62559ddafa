/- The program's ComingTo returns what the reference's returns, for all arguments. No condition. -/
import Derived.Test.YtflagakoikgkhaaPFnExactComingTox3
namespace Go.Proofs.Ytflagakoikgkhaa.Pure
open Go.RowKit Go.Proofs.Ytflagakoikgkhaa.PFnExactComingTo Go.Proofs.YtflagakoikgkhaaW.PrintWords Go.Proofs.YtflagakoikgkhaaW.PrintLast Go.Proofs.YtflagakoikgkhaaW.PrintMore
set_option linter.unusedVariables false
set_option linter.unusedSimpArgs false

-- block l1In
theorem l1In_eq (a b c : Int) : spec_l1In.f a b c = some (decide (b ≤ a ∧ a ≤ c)) := by
  unfold spec_l1In.f
  by_cases h : a ≥ b
  · rw [if_pos h]; simp [show b ≤ a from h]
  · rw [if_neg h]; simp [show ¬ b ≤ a from h]

-- block w64
theorem w64 {x : Int} (h : -9223372036854775808 ≤ x ∧ x ≤ 9223372036854775807) : wrap64 x = x := by
  unfold wrap64; omega

-- block l1All
theorem l1All_l0 (lo hi : Int) (l : List Int) (hl : l.length ≤ 1000000000) (d : Nat) : ∀ (k i : Nat), i + d = l.length → d < k → spec_l1All.l0 k lo hi l l.length i = some ((l.drop i).all fun n => decide (lo ≤ n ∧ n ≤ hi)) := by
  induction d with
  | zero =>
    intro k i hd hk
    obtain ⟨k, rfl⟩ : ∃ m, k = m + 1 := ⟨k - 1, by omega⟩
    simp only [spec_l1All.l0]; rw [if_neg (by omega), List.drop_eq_nil_of_le (by omega)]; rfl
  | succ d ih =>
    intro k i hd hk
    obtain ⟨k, rfl⟩ : ∃ m, k = m + 1 := ⟨k - 1, by omega⟩
    simp only [spec_l1All.l0]
    have h : i < l.length := by omega
    have e : rd l i = l[i] := by simp [rd, List.getD_eq_getElem?_getD, List.getElem?_eq_getElem h]
    rw [if_pos (by omega), if_pos (by omega), if_pos (by omega), l1In_eq, Option.bind_some, List.drop_eq_getElem_cons h, e, List.all_cons]
    by_cases g : lo ≤ l[i] ∧ l[i] ≤ hi
    · rw [if_pos (decide_eq_true g), w64 (by omega), decide_eq_true g, Bool.true_and]
      exact ih k (i + 1) (by omega) (by omega)
    · rw [if_neg (by simpa using g), decide_eq_false g, Bool.false_and]
theorem l1All_eq {k : Nat} {l : List Int} (lo hi : Int) (hl : l.length ≤ 1000000000) (hk : l.length < k) : spec_l1All.f k l lo hi = some (l.all fun n => decide (lo ≤ n ∧ n ≤ hi)) := by
  unfold spec_l1All.f
  exact l1All_l0 lo hi l hl l.length k 0 (by omega) (by omega)

-- block within
theorem within_eq (a b c : Int) : impl_within.f a b c = some (decide (b ≤ a ∧ a ≤ c)) := by
  unfold impl_within.f
  by_cases h : b ≤ a
  · rw [if_pos h]; simp [h]
  · rw [if_neg h]; simp [h]

-- block hofAny
theorem hofAny_eq (q : Int → Option Bool) (p : Int → Bool) (h : ∀ n, q n = some (p n)) (l : List Int) : hofAny q l = some (l.any p) := by
  induction l with
  | nil => rfl
  | cons x xs ih =>
    unfold hofAny
    rw [h x, Option.bind_some, ih]
    cases hp : p x
    · rw [if_neg (by decide)]; simp [hp]
    · rw [if_pos rfl]; simp [hp]

-- block jumps
def jumpsB (l : List Int) : Bool := decide (1 ≤ l.length ∧ l.length ≤ 30) && l.all fun n => decide (-30 ≤ n ∧ n ≤ 30)
theorem AreJumps_eq (l : List Int) : impl_AreJumps.f l = some (jumpsB l) := by
  unfold impl_AreJumps.f jumpsB
  have hc : ∀ n, impl_AreJumps_1.f n = some (!decide (-30 ≤ n ∧ n ≤ 30)) := fun n => by unfold impl_AreJumps_1.f; rw [within_eq]; rfl
  have hh := hofAny_eq _ _ hc l
  rw [within_eq, Option.bind_some]
  by_cases h : 1 ≤ l.length ∧ l.length ≤ 30
  · rw [if_pos (by simp; omega), decide_eq_true h, Bool.true_and]
    simp only [slices_ContainsFunc_int_int.f, Array.size_empty, and_self, if_true]
    simp [hh, List.not_any_eq_all_not]
  · rw [if_neg (by simp; omega), decide_eq_false h, Bool.false_and]
theorem baGood_eq {k : Nat} {l : List Int} (hk : 30 < k) : spec_baGood.f k l = some (jumpsB l) := by
  unfold spec_baGood.f jumpsB
  rw [l1In_eq, Option.bind_some]
  by_cases h : 1 ≤ l.length ∧ l.length ≤ 30
  · rw [if_pos (by simp; omega), l1All_eq _ _ (by omega) (by omega), decide_eq_true h, Bool.true_and, Option.bind_some]
  · rw [if_neg (by simp; omega), decide_eq_false h, Bool.false_and]
theorem jumpsB_true {l : List Int} (h : jumpsB l = true) : (1 ≤ l.length ∧ l.length ≤ 30) ∧ ∀ x ∈ l, -30 ≤ x ∧ x ≤ 30 := by
  unfold jumpsB at h
  rw [Bool.and_eq_true, decide_eq_true_eq, List.all_eq_true] at h
  exact ⟨h.1, fun x hx => by simpa using h.2 x hx⟩

-- block haveSteps
theorem haveSteps_l0 (js l : List Int) (hj : js.length ≤ 1048576) (hl : l.length ≤ 100) (d : Nat) : ∀ (k i : Nat), i + d = l.length → d < k → impl_haveSteps.l0 k js l l.length i = some (((l.drop i).all fun n => decide (0 ≤ n ∧ n ≤ js.length - 1)) && jumpsB js) := by
  induction d with
  | zero =>
    intro k i hd hk
    obtain ⟨k, rfl⟩ : ∃ m, k = m + 1 := ⟨k - 1, by omega⟩
    simp only [impl_haveSteps.l0]; rw [if_neg (by omega), List.drop_eq_nil_of_le (by omega), AreJumps_eq]; simp
  | succ d ih =>
    intro k i hd hk
    obtain ⟨k, rfl⟩ : ∃ m, k = m + 1 := ⟨k - 1, by omega⟩
    simp only [impl_haveSteps.l0]
    have h : i < l.length := by omega
    have e : rd l i = l[i] := by simp [rd, List.getD_eq_getElem?_getD, List.getElem?_eq_getElem h]
    rw [if_pos (by omega), if_pos (by omega), if_pos (by omega), within_eq, Option.bind_some, w64 (x := (js.length : Int) - 1) (by omega), List.drop_eq_getElem_cons h, e, List.all_cons]
    by_cases g : 0 ≤ l[i] ∧ l[i] ≤ (js.length : Int) - 1
    · rw [if_pos (decide_eq_true g), w64 (by omega), decide_eq_true g, Bool.true_and]
      exact ih k (i + 1) (by omega) (by omega)
    · rw [if_neg (by simpa using g), decide_eq_false g, Bool.false_and, Bool.false_and]
def onB (js : List Int) (s : Int) : Bool := jumpsB js && decide (0 ≤ s ∧ s ≤ js.length - 1)
theorem onB_true {js : List Int} {s : Int} (h : onB js s = true) : jumpsB js = true ∧ (0 ≤ s ∧ s ≤ js.length - 1) := by
  unfold onB at h; rw [Bool.and_eq_true, decide_eq_true_eq] at h; exact h
theorem have_one {k : Nat} (js : List Int) (s : Int) (hj : js.length ≤ 1048576) (hk : 100 < k) : impl_haveSteps.f k js [s] = some (onB js s) := by
  unfold impl_haveSteps.f onB
  have := haveSteps_l0 js [s] hj (by simp) 1 k 0 (by simp) (by omega)
  rw [show ((0 : Nat) : Int) = 0 from rfl] at this
  rw [this, Bool.and_comm]; simp
theorem have_two {k : Nat} (js : List Int) (s t : Int) (hj : js.length ≤ 1048576) (hk : 100 < k) : impl_haveSteps.f k js [s, t] = some (onB js s && onB js t) := by
  unfold impl_haveSteps.f onB
  have := haveSteps_l0 js [s, t] hj (by simp) 2 k 0 (by simp) (by omega)
  rw [show ((0 : Nat) : Int) = 0 from rfl] at this
  rw [this]
  cases jumpsB js <;> simp

-- block baStep
theorem baStep_eq {k : Nat} (js : List Int) (s : Int) (hj : js.length ≤ 1048576) (hk : 100 < k) : spec_baStep.f k js s = some (onB js s) := by
  unfold spec_baStep.f onB
  rw [baGood_eq (by omega), Option.bind_some]
  cases jumpsB js
  · simp
  · rw [if_pos rfl, l1In_eq, w64 (by omega)]; simp

-- block mxmn
theorem mx_eq (a b : Int) : mx a b = max a b := by unfold mx; omega
theorem mn_eq (a b : Int) : mn a b = min a b := by unfold mn; omega

-- block next
/-- Where a ball on step s is a second later. -/
def nextI (js : List Int) (s : Int) : Int := max (-1) (min (s + rd js s) js.length)
theorem rd_bound {js : List Int} (h : jumpsB js = true) {s : Int} (h0 : 0 ≤ s) (h1 : s < js.length) : -30 ≤ rd js s ∧ rd js s ≤ 30 := by
  have hj := jumpsB_true h
  have hs : s.toNat < js.length := by omega
  have e : rd js s = js[s.toNat] := by simp [rd, List.getD_eq_getElem?_getD, List.getElem?_eq_getElem hs]
  rw [e]; exact hj.2 _ (List.getElem_mem hs)
theorem next_eq {js : List Int} (h : jumpsB js = true) {s : Int} (h0 : 0 ≤ s) (h1 : s < js.length) : impl_next.f js s = some (nextI js s) := by
  have hj := (jumpsB_true h).1
  have hb := rd_bound h h0 h1
  unfold impl_next.f impl_land.f nextI
  rw [if_pos h0, if_pos h1, Option.bind_some, w64 (by omega), mx_eq, mn_eq]
theorem baNext_eq {k : Nat} {js : List Int} (hk : 1 < k) (h : jumpsB js = true) {s : Int} (h0 : 0 ≤ s) (h1 : s < js.length) : spec_baNext.f k js s = some (nextI js s) := by
  have hj := (jumpsB_true h).1
  have hb := rd_bound h h0 h1
  obtain ⟨k, rfl⟩ : ∃ m, k = m + 1 := ⟨k - 1, by omega⟩
  unfold spec_baNext.f nextI
  rw [if_neg (by omega), decide_eq_false (by omega), spec_baNext.j0, if_neg (by decide), if_pos h0, if_pos h1, w64 (by omega)]
  by_cases c : s + rd js s < 0
  · rw [if_pos c]; congr 1; omega
  · rw [if_neg c]
    by_cases c2 : s + rd js s > js.length
    · rw [if_pos c2]; congr 1; omega
    · rw [if_neg c2]; congr 1; omega

-- block coming
/-- The steps from which a ball comes to s, from i on, d of them. -/
def comeL (js : List Int) (s : Int) (i d : Nat) : List Int := ((List.range' i d).filter fun j : Nat => decide (nextI js j = s)).map fun j : Nat => (j : Int)
theorem comeL_succ (js : List Int) (s : Int) (i d : Nat) : comeL js s i (d + 1) = if nextI js i = s then (i : Int) :: comeL js s (i + 1) d else comeL js s (i + 1) d := by
  unfold comeL
  rw [List.range'_succ, List.filter_cons]
  by_cases h : nextI js i = s
  · rw [if_pos (decide_eq_true h), if_pos h]; rfl
  · rw [if_neg (by simpa using h), if_neg h]
theorem comeL_length (js : List Int) (s : Int) (i d : Nat) : (comeL js s i d).length ≤ d := by
  unfold comeL; rw [List.length_map]; exact Nat.le_trans (List.length_filter_le _ _) (by simp)
theorem coming_l0 (js : List Int) (hj : jumpsB js = true) (s : Int) (d : Nat) : ∀ (k i : Nat) (acc : List Int), i + d = js.length → d < k → acc.length ≤ i →
    impl_coming.l0 k js s acc js.length i = some (acc ++ comeL js s i d) := by
  have hl := (jumpsB_true hj).1
  induction d with
  | zero =>
    intro k i acc hd hk ha
    obtain ⟨k, rfl⟩ : ∃ m, k = m + 1 := ⟨k - 1, by omega⟩
    simp only [impl_coming.l0]
    rw [if_neg (by omega)]; simp [comeL]
  | succ d ih =>
    intro k i acc hd hk ha
    obtain ⟨k, rfl⟩ : ∃ m, k = m + 1 := ⟨k - 1, by omega⟩
    simp only [impl_coming.l0]
    rw [if_pos (by omega), next_eq hj (by omega) (by omega), Option.bind_some, comeL_succ, w64 (by omega), show (i : Int) + 1 = ((i + 1 : Nat) : Int) from rfl]
    by_cases h : nextI js i = s
    · rw [if_pos h, if_pos (by omega), if_pos h, ih k (i + 1) _ (by omega) (by omega) (by simp; omega)]; simp
    · rw [if_neg h, if_neg h, ih k (i + 1) _ (by omega) (by omega) (by omega)]
theorem coming_eq {k : Nat} {js : List Int} (hj : jumpsB js = true) (hk : 100 < k) (s : Int) : impl_coming.f k js s = some (comeL js s 0 js.length) := by
  have hl := (jumpsB_true hj).1
  unfold impl_coming.f
  have := coming_l0 js hj s js.length k 0 [] (by omega) (by omega) (by simp)
  simpa using this
theorem baComing_l0 (js : List Int) (hj : jumpsB js = true) (s : Int) (d : Nat) : ∀ (k i : Nat) (acc : List Int), i + d = js.length → d + 1 < k → acc.length ≤ i →
    spec_baComing.l0 k js s acc js.length i = some (acc ++ comeL js s i d) := by
  have hl := (jumpsB_true hj).1
  induction d with
  | zero =>
    intro k i acc hd hk ha
    obtain ⟨k, rfl⟩ : ∃ m, k = m + 1 := ⟨k - 1, by omega⟩
    simp only [spec_baComing.l0]
    rw [if_neg (by omega)]; simp [comeL]
  | succ d ih =>
    intro k i acc hd hk ha
    obtain ⟨k, rfl⟩ : ∃ m, k = m + 1 := ⟨k - 1, by omega⟩
    simp only [spec_baComing.l0]
    rw [if_pos (by omega), baNext_eq (by omega) hj (by omega) (by omega), Option.bind_some, comeL_succ, w64 (by omega), show (i : Int) + 1 = ((i + 1 : Nat) : Int) from rfl]
    by_cases h : nextI js i = s
    · rw [if_pos h, if_pos (by omega), if_pos h, ih k (i + 1) _ (by omega) (by omega) (by simp; omega)]; simp
    · rw [if_neg h, if_neg h, ih k (i + 1) _ (by omega) (by omega) (by omega)]
theorem baComing_eq {k : Nat} {js : List Int} (hj : jumpsB js = true) (hk : 100 < k) (s : Int) : spec_baComing.f k js s = some (comeL js s 0 js.length) := by
  have hl := (jumpsB_true hj).1
  unfold spec_baComing.f
  have := baComing_l0 js hj s js.length k 0 [] (by omega) (by omega) (by simp)
  simpa using this

-- block toIntS
theorem toIntS_l0 (l : List Int) (hl : l.length ≤ 1048576) (d : Nat) : ∀ (k i : Nat) (m : List Int), i + d = l.length → d < k → m.length = d → laws_toIntS.l0 k l (l.take i ++ m) i = some l := by
  induction d with
  | zero =>
    intro k i m hd hk hm
    obtain ⟨k, rfl⟩ : ∃ n, k = n + 1 := ⟨k - 1, by omega⟩
    obtain rfl := List.eq_nil_of_length_eq_zero hm
    simp only [laws_toIntS.l0]; rw [if_neg (by omega), List.take_of_length_le (by omega), List.append_nil]
  | succ d ih =>
    intro k i m hd hk hm
    obtain ⟨k, rfl⟩ : ∃ n, k = n + 1 := ⟨k - 1, by omega⟩
    obtain ⟨x, m, rfl⟩ : ∃ x p, m = x :: p := by
      cases m with
      | nil => simp at hm
      | cons x p => exact ⟨x, p, rfl⟩
    simp only [laws_toIntS.l0]
    have hi : i < l.length := by omega
    have hlen : (l.take i ++ x :: m).length = l.length := by simp at hm ⊢; omega
    have e : (l.take i ++ x :: m).set (i : Int).toNat (rd l i) = l.take (i + 1) ++ m := by
      have ht : (l.take i).length = i := by simp; omega
      rw [Int.toNat_natCast, List.set_append_right _ _ (by omega), ht, Nat.sub_self, List.set_cons_zero, List.take_succ_eq_append_getElem hi, List.append_assoc]
      simp [rd, List.getD_eq_getElem?_getD, List.getElem?_eq_getElem hi]
    rw [if_pos (by omega), if_pos (by omega), if_pos (by omega), e, w64 (by omega)]
    exact ih k (i + 1) m (by omega) (by omega) (by simpa using hm)
theorem toIntS_eq {k : Nat} {l : List Int} (hl : l.length ≤ 1048576) (hk : 1048576 < k) : laws_toIntS.f k l = some l := by
  unfold laws_toIntS.f
  rw [if_pos (by omega), if_pos (by omega)]
  have := toIntS_l0 l hl l.length k 0 (List.replicate l.length 0) (by omega) (by omega) (by simp)
  simpa using this

-- block eqIntS
theorem eqIntS_l0 (l : List Int) (hl : l.length ≤ 1000000000) (d : Nat) : ∀ (k i : Nat), i + d = l.length → d < k → laws_eqIntS.l0 k l l i = some true := by
  induction d with
  | zero =>
    intro k i hd hk
    obtain ⟨k, rfl⟩ : ∃ m, k = m + 1 := ⟨k - 1, by omega⟩
    simp only [laws_eqIntS.l0]; rw [if_neg (by omega)]
  | succ d ih =>
    intro k i hd hk
    obtain ⟨k, rfl⟩ : ∃ m, k = m + 1 := ⟨k - 1, by omega⟩
    simp only [laws_eqIntS.l0]
    rw [if_pos (by omega), if_pos (by omega), if_pos (by omega), if_pos trivial, w64 (by omega)]
    exact ih k (i + 1) (by omega) (by omega)
theorem eqIntS_self {k : Nat} {l : List Int} (hl : l.length ≤ 1000000000) (hk : l.length < k) : laws_eqIntS.f k l l = some true := by
  unfold laws_eqIntS.f
  rw [if_pos rfl, show (0 : Int) = ((0 : Nat) : Int) from rfl, eqIntS_l0 l hl l.length k 0 (by omega) hk]

-- block marks
def ups (a : Int) (n : Nat) : List Int := (List.range n).map fun i : Nat => a + (i : Int)
theorem ups_length (a : Int) (n : Nat) : (ups a n).length = n := by simp [ups]
theorem ups_succ (a : Int) (n : Nat) : ups a (n + 1) = ups a n ++ [a + n] := by simp [ups, List.range_succ]
theorem rd_ups (a : Int) (n i : Nat) (h : i < n) : rd (ups a n) i = a + i := by
  unfold rd ups
  rw [List.getD_eq_getElem?_getD, Int.toNat_natCast, List.getElem?_map, List.getElem?_range h]; rfl
theorem markIntS_l0 (a : Int) (ha : 0 ≤ a) (d : Nat) : ∀ (k i : Nat) (post : List Int), post.length = d → a + i + d ≤ 4000000000000 → d < k →
    laws_markIntS.l0 k (ups a i ++ post) (a + i) i = some (a + i + d, ups a (i + d)) := by
  induction d with
  | zero =>
    intro k i post hp hb hk
    obtain ⟨k, rfl⟩ : ∃ m, k = m + 1 := ⟨k - 1, by omega⟩
    obtain rfl := List.eq_nil_of_length_eq_zero hp
    simp only [laws_markIntS.l0]
    rw [if_neg (by simp [ups_length])]
    simp
  | succ d ih =>
    intro k i post hp hb hk
    obtain ⟨k, rfl⟩ : ∃ m, k = m + 1 := ⟨k - 1, by omega⟩
    obtain ⟨x, post, rfl⟩ : ∃ x p, post = x :: p := by
      cases post with
      | nil => simp at hp
      | cons x p => exact ⟨x, p, rfl⟩
    simp only [laws_markIntS.l0]
    rw [if_pos (by simp [ups_length]; omega), if_pos (by omega), w64 (by omega), w64 (by omega)]
    have e : (ups a i ++ x :: post).set (i : Int).toNat (a + i) = ups a (i + 1) ++ post := by
      rw [Int.toNat_natCast, List.set_append_right _ _ (by simp [ups_length]), ups_length, Nat.sub_self, List.set_cons_zero, ups_succ, List.append_assoc]; rfl
    rw [e, show a + (i : Int) + 1 = a + ((i + 1 : Nat) : Int) from by omega, show (i : Int) + 1 = ((i + 1 : Nat) : Int) from rfl]
    rw [ih k (i + 1) post (by simpa using hp) (by omega) (by omega)]
    rw [show i + 1 + d = i + (d + 1) from by omega]
    congr 2; omega
theorem markIntS_eq {k : Nat} {l : List Int} {a : Int} (ha : 0 ≤ a) (hb : a + l.length ≤ 4000000000000) (hk : l.length < k) : laws_markIntS.f k l a = some (a + l.length, ups a l.length) := by
  unfold laws_markIntS.f
  have := markIntS_l0 a ha l.length k 0 l rfl (by omega) hk
  simpa [ups] using this
theorem heldIntS_l0 (a : Int) (ha : 0 ≤ a) (n : Nat) (hb : a + n ≤ 4000000000000) (d : Nat) : ∀ (k i : Nat), i + d = n → d < k → laws_heldIntS.l0 k (ups a n) (a + i) i = some (a + n) := by
  induction d with
  | zero =>
    intro k i hd hk
    obtain ⟨k, rfl⟩ : ∃ m, k = m + 1 := ⟨k - 1, by omega⟩
    simp only [laws_heldIntS.l0]
    rw [if_neg (by rw [ups_length]; omega)]
    congr 1; omega
  | succ d ih =>
    intro k i hd hk
    obtain ⟨k, rfl⟩ : ∃ m, k = m + 1 := ⟨k - 1, by omega⟩
    simp only [laws_heldIntS.l0]
    rw [if_pos (by rw [ups_length]; omega), if_pos (by omega), rd_ups _ _ _ (by omega), if_pos rfl, w64 (by omega), w64 (by omega)]
    rw [show a + (i : Int) + 1 = a + ((i + 1 : Nat) : Int) from by omega, show (i : Int) + 1 = ((i + 1 : Nat) : Int) from rfl]
    exact ih k (i + 1) (by omega) (by omega)
theorem heldIntS_eq {k n : Nat} {a : Int} (ha : 0 ≤ a) (hb : a + n ≤ 4000000000000) (hk : n < k) : laws_heldIntS.f k (ups a n) a = some (a + n) := by
  unfold laws_heldIntS.f
  have := heldIntS_l0 a ha n hb n k 0 (by omega) hk
  simpa using this

theorem ComingTo_eq {k : Nat} (hk : 3000 < k) (l : List Int) (hl : l.length ≤ 1048576) (s : Int) : ∃ r, spec_ComingTo.f k l s = some r ∧ impl_ComingTo.f k l s = some r ∧ r.1.length ≤ 100 := by
  unfold spec_ComingTo.f impl_ComingTo.f
  rw [baStep_eq l s hl (by omega), have_one l s hl (by omega), Option.bind_some, Option.bind_some]
  by_cases h : onB l s = true
  · have g := onB_true h
    have gl := (jumpsB_true g.1).1
    rw [if_pos h, if_pos h, coming_eq g.1 (by omega), baComing_eq g.1 (by omega)]
    have := comeL_length l s 0 l.length
    exact ⟨_, rfl, rfl, by show (comeL l s 0 l.length).length ≤ 100; omega⟩
  · rw [if_neg h, if_neg h]; exact ⟨_, rfl, rfl, by simp⟩
theorem FnExactComingTo : laws_FnExactComingTo.Pure := by
  intro l s _ _ _ _ 
  obtain ⟨k, hk⟩ : ∃ k, 2000000 < k := ⟨2000001, by omega⟩
  refine ⟨k + 3, ?_⟩
  unfold laws_FnExactComingTo.f
  by_cases hs : (l.length : Int) > 1048576
  · rw [if_pos hs]
  · obtain ⟨r, h1, h2, hl⟩ := ComingTo_eq (k := k + 3) (by omega) l (by omega) s
    obtain ⟨r', h1', h2', -⟩ := ComingTo_eq (k := k + 1) (by omega) l (by omega) s
    have e : r' = r := by
      have m := impl_ComingTo.mono l s (k + 1 + 1) _ (impl_ComingTo.mono l s (k + 1) _ h2')
      rw [h2] at m; exact (Option.some.inj m).symm
    subst e
    rw [if_neg hs, toIntS_eq (by omega) (by omega), Option.bind_some, h1, Option.bind_some, Option.bind_some, h2, Option.bind_some, eqIntS_self (by omega) (by omega), Option.bind_some, if_pos rfl, laws_FnExactComingTo.j0, if_neg (by simp), toIntS_eq (by omega) (by omega), Option.bind_some, eqIntS_self (by omega) (by omega), Option.bind_some, if_pos rfl, markIntS_eq (by omega) (by omega) (by omega), Option.bind_some]
    rw [if_neg (by omega), eqIntS_self (by omega) (by omega), Option.bind_some, if_pos rfl, laws_FnExactComingTo.j1, if_neg (by simp), markIntS_eq (by omega) (by omega) (by omega), Option.bind_some, heldIntS_eq (by omega) (by omega) (by omega), Option.bind_some, if_neg (by omega), if_pos rfl, toIntS_eq (by omega) (by omega), Option.bind_some, h2', Option.bind_some, eqIntS_self (by omega) (by omega), Option.bind_some, if_pos rfl, laws_FnExactComingTo.j2, if_neg (by simp), heldIntS_eq (by omega) (by omega) (by omega), Option.bind_some, if_neg (by omega), if_pos rfl]

end Go.Proofs.Ytflagakoikgkhaa.Pure
