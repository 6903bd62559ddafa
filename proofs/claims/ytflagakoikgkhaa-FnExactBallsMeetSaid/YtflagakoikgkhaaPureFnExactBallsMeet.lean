/- The program's BallsMeet returns what the reference's returns, for all arguments. No condition. -/
import Derived.Test.YtflagakoikgkhaaPFnExactBallsMeetx3
namespace Go.Proofs.Ytflagakoikgkhaa.Pure
open Go.RowKit Go.Proofs.Ytflagakoikgkhaa.PFnExactBallsMeet Go.Proofs.YtflagakoikgkhaaW.PrintWords Go.Proofs.YtflagakoikgkhaaW.PrintLast Go.Proofs.YtflagakoikgkhaaW.PrintMore
set_option linter.unusedVariables false
set_option linter.unusedSimpArgs false

-- block l1In
theorem l1In_eq (a b c : Int) : spec_l1In.f a b c = some (decide (b ≤ a ∧ a ≤ c)) := by
  unfold spec_l1In.f
  by_cases h : a ≥ b
  · rw [if_pos h]; simp [show b ≤ a from h]
  · rw [if_neg h]; simp [show ¬ b ≤ a from h]

-- block w64
theorem w64 {x : Int} (h : -9223372036854775808 ≤ x ∧ x ≤ 9223372036854775807) : wrap64 x = x := by
  unfold wrap64; omega

-- block l1All
theorem l1All_l0 (lo hi : Int) (l : List Int) (hl : l.length ≤ 1000000000) (d : Nat) : ∀ (k i : Nat), i + d = l.length → d < k → spec_l1All.l0 k lo hi l l.length i = some ((l.drop i).all fun n => decide (lo ≤ n ∧ n ≤ hi)) := by
  induction d with
  | zero =>
    intro k i hd hk
    obtain ⟨k, rfl⟩ : ∃ m, k = m + 1 := ⟨k - 1, by omega⟩
    simp only [spec_l1All.l0]; rw [if_neg (by omega), List.drop_eq_nil_of_le (by omega)]; rfl
  | succ d ih =>
    intro k i hd hk
    obtain ⟨k, rfl⟩ : ∃ m, k = m + 1 := ⟨k - 1, by omega⟩
    simp only [spec_l1All.l0]
    have h : i < l.length := by omega
    have e : rd l i = l[i] := by simp [rd, List.getD_eq_getElem?_getD, List.getElem?_eq_getElem h]
    rw [if_pos (by omega), if_pos (by omega), if_pos (by omega), l1In_eq, Option.bind_some, List.drop_eq_getElem_cons h, e, List.all_cons]
    by_cases g : lo ≤ l[i] ∧ l[i] ≤ hi
    · rw [if_pos (decide_eq_true g), w64 (by omega), decide_eq_true g, Bool.true_and]
      exact ih k (i + 1) (by omega) (by omega)
    · rw [if_neg (by simpa using g), decide_eq_false g, Bool.false_and]
theorem l1All_eq {k : Nat} {l : List Int} (lo hi : Int) (hl : l.length ≤ 1000000000) (hk : l.length < k) : spec_l1All.f k l lo hi = some (l.all fun n => decide (lo ≤ n ∧ n ≤ hi)) := by
  unfold spec_l1All.f
  exact l1All_l0 lo hi l hl l.length k 0 (by omega) (by omega)

-- block within
theorem within_eq (a b c : Int) : impl_within.f a b c = some (decide (b ≤ a ∧ a ≤ c)) := by
  unfold impl_within.f
  by_cases h : b ≤ a
  · rw [if_pos h]; simp [h]
  · rw [if_neg h]; simp [h]

-- block hofAny
theorem hofAny_eq (q : Int → Option Bool) (p : Int → Bool) (h : ∀ n, q n = some (p n)) (l : List Int) : hofAny q l = some (l.any p) := by
  induction l with
  | nil => rfl
  | cons x xs ih =>
    unfold hofAny
    rw [h x, Option.bind_some, ih]
    cases hp : p x
    · rw [if_neg (by decide)]; simp [hp]
    · rw [if_pos rfl]; simp [hp]

-- block jumps
def jumpsB (l : List Int) : Bool := decide (1 ≤ l.length ∧ l.length ≤ 30) && l.all fun n => decide (-30 ≤ n ∧ n ≤ 30)
theorem AreJumps_eq (l : List Int) : impl_AreJumps.f l = some (jumpsB l) := by
  unfold impl_AreJumps.f jumpsB
  have hc : ∀ n, impl_AreJumps_1.f n = some (!decide (-30 ≤ n ∧ n ≤ 30)) := fun n => by unfold impl_AreJumps_1.f; rw [within_eq]; rfl
  have hh := hofAny_eq _ _ hc l
  rw [within_eq, Option.bind_some]
  by_cases h : 1 ≤ l.length ∧ l.length ≤ 30
  · rw [if_pos (by simp; omega), decide_eq_true h, Bool.true_and]
    simp only [slices_ContainsFunc_int_int.f, Array.size_empty, and_self, if_true]
    simp [hh, List.not_any_eq_all_not]
  · rw [if_neg (by simp; omega), decide_eq_false h, Bool.false_and]
theorem baGood_eq {k : Nat} {l : List Int} (hk : 30 < k) : spec_baGood.f k l = some (jumpsB l) := by
  unfold spec_baGood.f jumpsB
  rw [l1In_eq, Option.bind_some]
  by_cases h : 1 ≤ l.length ∧ l.length ≤ 30
  · rw [if_pos (by simp; omega), l1All_eq _ _ (by omega) (by omega), decide_eq_true h, Bool.true_and, Option.bind_some]
  · rw [if_neg (by simp; omega), decide_eq_false h, Bool.false_and]
theorem jumpsB_true {l : List Int} (h : jumpsB l = true) : (1 ≤ l.length ∧ l.length ≤ 30) ∧ ∀ x ∈ l, -30 ≤ x ∧ x ≤ 30 := by
  unfold jumpsB at h
  rw [Bool.and_eq_true, decide_eq_true_eq, List.all_eq_true] at h
  exact ⟨h.1, fun x hx => by simpa using h.2 x hx⟩

-- block haveSteps
theorem haveSteps_l0 (js l : List Int) (hj : js.length ≤ 1048576) (hl : l.length ≤ 100) (d : Nat) : ∀ (k i : Nat), i + d = l.length → d < k → impl_haveSteps.l0 k js l l.length i = some (((l.drop i).all fun n => decide (0 ≤ n ∧ n ≤ js.length - 1)) && jumpsB js) := by
  induction d with
  | zero =>
    intro k i hd hk
    obtain ⟨k, rfl⟩ : ∃ m, k = m + 1 := ⟨k - 1, by omega⟩
    simp only [impl_haveSteps.l0]; rw [if_neg (by omega), List.drop_eq_nil_of_le (by omega), AreJumps_eq]; simp
  | succ d ih =>
    intro k i hd hk
    obtain ⟨k, rfl⟩ : ∃ m, k = m + 1 := ⟨k - 1, by omega⟩
    simp only [impl_haveSteps.l0]
    have h : i < l.length := by omega
    have e : rd l i = l[i] := by simp [rd, List.getD_eq_getElem?_getD, List.getElem?_eq_getElem h]
    rw [if_pos (by omega), if_pos (by omega), if_pos (by omega), within_eq, Option.bind_some, w64 (x := (js.length : Int) - 1) (by omega), List.drop_eq_getElem_cons h, e, List.all_cons]
    by_cases g : 0 ≤ l[i] ∧ l[i] ≤ (js.length : Int) - 1
    · rw [if_pos (decide_eq_true g), w64 (by omega), decide_eq_true g, Bool.true_and]
      exact ih k (i + 1) (by omega) (by omega)
    · rw [if_neg (by simpa using g), decide_eq_false g, Bool.false_and, Bool.false_and]
def onB (js : List Int) (s : Int) : Bool := jumpsB js && decide (0 ≤ s ∧ s ≤ js.length - 1)
theorem onB_true {js : List Int} {s : Int} (h : onB js s = true) : jumpsB js = true ∧ (0 ≤ s ∧ s ≤ js.length - 1) := by
  unfold onB at h; rw [Bool.and_eq_true, decide_eq_true_eq] at h; exact h
theorem have_one {k : Nat} (js : List Int) (s : Int) (hj : js.length ≤ 1048576) (hk : 100 < k) : impl_haveSteps.f k js [s] = some (onB js s) := by
  unfold impl_haveSteps.f onB
  have := haveSteps_l0 js [s] hj (by simp) 1 k 0 (by simp) (by omega)
  rw [show ((0 : Nat) : Int) = 0 from rfl] at this
  rw [this, Bool.and_comm]; simp
theorem have_two {k : Nat} (js : List Int) (s t : Int) (hj : js.length ≤ 1048576) (hk : 100 < k) : impl_haveSteps.f k js [s, t] = some (onB js s && onB js t) := by
  unfold impl_haveSteps.f onB
  have := haveSteps_l0 js [s, t] hj (by simp) 2 k 0 (by simp) (by omega)
  rw [show ((0 : Nat) : Int) = 0 from rfl] at this
  rw [this]
  cases jumpsB js <;> simp

-- block baStep
theorem baStep_eq {k : Nat} (js : List Int) (s : Int) (hj : js.length ≤ 1048576) (hk : 100 < k) : spec_baStep.f k js s = some (onB js s) := by
  unfold spec_baStep.f onB
  rw [baGood_eq (by omega), Option.bind_some]
  cases jumpsB js
  · simp
  · rw [if_pos rfl, l1In_eq, w64 (by omega)]; simp

-- block mxmn
theorem mx_eq (a b : Int) : mx a b = max a b := by unfold mx; omega
theorem mn_eq (a b : Int) : mn a b = min a b := by unfold mn; omega

-- block next
/-- Where a ball on step s is a second later. -/
def nextI (js : List Int) (s : Int) : Int := max (-1) (min (s + rd js s) js.length)
theorem rd_bound {js : List Int} (h : jumpsB js = true) {s : Int} (h0 : 0 ≤ s) (h1 : s < js.length) : -30 ≤ rd js s ∧ rd js s ≤ 30 := by
  have hj := jumpsB_true h
  have hs : s.toNat < js.length := by omega
  have e : rd js s = js[s.toNat] := by simp [rd, List.getD_eq_getElem?_getD, List.getElem?_eq_getElem hs]
  rw [e]; exact hj.2 _ (List.getElem_mem hs)
theorem next_eq {js : List Int} (h : jumpsB js = true) {s : Int} (h0 : 0 ≤ s) (h1 : s < js.length) : impl_next.f js s = some (nextI js s) := by
  have hj := (jumpsB_true h).1
  have hb := rd_bound h h0 h1
  unfold impl_next.f impl_land.f nextI
  rw [if_pos h0, if_pos h1, Option.bind_some, w64 (by omega), mx_eq, mn_eq]
theorem baNext_eq {k : Nat} {js : List Int} (hk : 1 < k) (h : jumpsB js = true) {s : Int} (h0 : 0 ≤ s) (h1 : s < js.length) : spec_baNext.f k js s = some (nextI js s) := by
  have hj := (jumpsB_true h).1
  have hb := rd_bound h h0 h1
  obtain ⟨k, rfl⟩ : ∃ m, k = m + 1 := ⟨k - 1, by omega⟩
  unfold spec_baNext.f nextI
  rw [if_neg (by omega), decide_eq_false (by omega), spec_baNext.j0, if_neg (by decide), if_pos h0, if_pos h1, w64 (by omega)]
  by_cases c : s + rd js s < 0
  · rw [if_pos c]; congr 1; omega
  · rw [if_neg c]
    by_cases c2 : s + rd js s > js.length
    · rw [if_pos c2]; congr 1; omega
    · rw [if_neg c2]; congr 1; omega
theorem nextI_lo (js : List Int) (s : Int) : -1 ≤ nextI js s ∧ nextI js s ≤ js.length := by unfold nextI; omega

-- block pigeon
theorem pigeon_nat (n : Nat) : ∀ (l : List Nat), l.Nodup → (∀ x ∈ l, x < n) → l.length ≤ n := by
  induction n with
  | zero =>
    intro l _ h
    cases l with
    | nil => simp
    | cons x xs => exact absurd (h x (by simp)) (by omega)
  | succ n ih =>
    intro l hn h
    by_cases hm : n ∈ l
    · have h1 := ih (l.erase n) (hn.erase n) (fun x hx => by
        have h2 := (hn.mem_erase_iff).1 hx
        have h3 := h x h2.2
        have h4 := h2.1
        omega)
      have h2 := List.length_erase_of_mem hm
      omega
    · have := ih l hn (fun x hx => by
        have h3 := h x hx
        by_cases e : x = n
        · subst e; exact absurd hx hm
        · omega)
      omega
theorem pigeon (n : Nat) (l : List Int) (hn : l.Nodup) (h : ∀ x ∈ l, 0 ≤ x ∧ x < n) : l.length ≤ n := by
  have h1 := pigeon_nat n (l.map Int.toNat) (by
    rw [List.Nodup, List.pairwise_map]
    exact hn.imp_of_mem (fun {a b} ha hb hab e => hab (by have := h a ha; have := h b hb; omega)))
    (fun x hx => by
      obtain ⟨y, hy, rfl⟩ := List.mem_map.1 hx
      have := h y hy; omega)
  simpa using h1

-- block iter
def iterN (js : List Int) : Nat → Int → Int
  | 0, s => s
  | m + 1, s => iterN js m (nextI js s)
theorem iterN_add (js : List Int) (x y : Nat) : ∀ s, iterN js (x + y) s = iterN js x (iterN js y s) := by
  induction y with
  | zero => intro s; rfl
  | succ y ih => intro s; show iterN js (x + y) (nextI js s) = _; rw [ih]; rfl
/-- Two balls are on two steps. -/
def goodP (js : List Int) (a b : Int) : Prop := (0 ≤ a ∧ a < js.length) ∧ (0 ≤ b ∧ b < js.length) ∧ a ≠ b
theorem pairs_again (js : List Int) (a b : Int) (h : ∀ m, m ≤ js.length * js.length → goodP js (iterN js m a) (iterN js m b)) : ∀ m, goodP js (iterN js m a) (iterN js m b) := by
  have hex : ∃ i j, i < j ∧ j ≤ js.length * js.length ∧ iterN js i a = iterN js j a ∧ iterN js i b = iterN js j b := by
    apply Classical.byContradiction
    intro hno
    have hn := pigeon_nat (js.length * js.length) ((List.range (js.length * js.length + 1)).map fun m => js.length * (iterN js m a).toNat + (iterN js m b).toNat) (by
      rw [List.Nodup, List.pairwise_map]
      refine List.pairwise_lt_range.imp_of_mem (fun {i j} hi hj hij e => hno ⟨i, j, hij, ?_, ?_⟩)
      · have := List.mem_range.1 hj; omega
      · have hi' := h i (by have := List.mem_range.1 hi; omega)
        have hj' := h j (by have := List.mem_range.1 hj; omega)
        obtain ⟨⟨a1, a2⟩, ⟨a3, a4⟩, -⟩ := hi'
        obtain ⟨⟨b1, b2⟩, ⟨b3, b4⟩, -⟩ := hj'
        have hpos : 0 < js.length := by omega
        have q := congrArg (· / js.length) e
        have r := congrArg (· % js.length) e
        try simp only at q r
        rw [Nat.mul_add_div hpos, Nat.mul_add_div hpos, Nat.div_eq_of_lt (by omega), Nat.div_eq_of_lt (by omega)] at q
        rw [Nat.mul_add_mod, Nat.mul_add_mod, Nat.mod_eq_of_lt (by omega), Nat.mod_eq_of_lt (by omega)] at r
        omega) (by
      intro x hx
      obtain ⟨m, hm, rfl⟩ := List.mem_map.1 hx
      obtain ⟨⟨a1, a2⟩, ⟨a3, a4⟩, -⟩ := h m (by have := List.mem_range.1 hm; omega)
      have : js.length * ((iterN js m a).toNat + 1) ≤ js.length * js.length := Nat.mul_le_mul_left _ (by omega)
      rw [Nat.mul_add] at this
      omega)
    rw [List.length_map, List.length_range] at hn
    omega
  obtain ⟨i, j, hij, hj, ea, eb⟩ := hex
  intro m
  induction m using Nat.strongRecOn with
  | _ m ih =>
    by_cases hm : m ≤ js.length * js.length
    · exact h m hm
    · have e : m = (m - j) + j := by omega
      rw [e, iterN_add, iterN_add, ← ea, ← eb, ← iterN_add, ← iterN_add]
      exact ih (m - j + i) (by omega)

-- block isOut
theorem isOut_eq (js : List Int) (s : Int) (hj : js.length ≤ 1048576) : impl_isOut.f js s = some (!decide (0 ≤ s ∧ s ≤ js.length - 1)) := by
  unfold impl_isOut.f
  rw [w64 (by omega), within_eq, Option.bind_some]

-- block toIntS
theorem toIntS_l0 (l : List Int) (hl : l.length ≤ 1048576) (d : Nat) : ∀ (k i : Nat) (m : List Int), i + d = l.length → d < k → m.length = d → laws_toIntS.l0 k l (l.take i ++ m) i = some l := by
  induction d with
  | zero =>
    intro k i m hd hk hm
    obtain ⟨k, rfl⟩ : ∃ n, k = n + 1 := ⟨k - 1, by omega⟩
    obtain rfl := List.eq_nil_of_length_eq_zero hm
    simp only [laws_toIntS.l0]; rw [if_neg (by omega), List.take_of_length_le (by omega), List.append_nil]
  | succ d ih =>
    intro k i m hd hk hm
    obtain ⟨k, rfl⟩ : ∃ n, k = n + 1 := ⟨k - 1, by omega⟩
    obtain ⟨x, m, rfl⟩ : ∃ x p, m = x :: p := by
      cases m with
      | nil => simp at hm
      | cons x p => exact ⟨x, p, rfl⟩
    simp only [laws_toIntS.l0]
    have hi : i < l.length := by omega
    have hlen : (l.take i ++ x :: m).length = l.length := by simp at hm ⊢; omega
    have e : (l.take i ++ x :: m).set (i : Int).toNat (rd l i) = l.take (i + 1) ++ m := by
      have ht : (l.take i).length = i := by simp; omega
      rw [Int.toNat_natCast, List.set_append_right _ _ (by omega), ht, Nat.sub_self, List.set_cons_zero, List.take_succ_eq_append_getElem hi, List.append_assoc]
      simp [rd, List.getD_eq_getElem?_getD, List.getElem?_eq_getElem hi]
    rw [if_pos (by omega), if_pos (by omega), if_pos (by omega), e, w64 (by omega)]
    exact ih k (i + 1) m (by omega) (by omega) (by simpa using hm)
theorem toIntS_eq {k : Nat} {l : List Int} (hl : l.length ≤ 1048576) (hk : 1048576 < k) : laws_toIntS.f k l = some l := by
  unfold laws_toIntS.f
  rw [if_pos (by omega), if_pos (by omega)]
  have := toIntS_l0 l hl l.length k 0 (List.replicate l.length 0) (by omega) (by omega) (by simp)
  simpa using this

-- block eqIntS
theorem eqIntS_l0 (l : List Int) (hl : l.length ≤ 1000000000) (d : Nat) : ∀ (k i : Nat), i + d = l.length → d < k → laws_eqIntS.l0 k l l i = some true := by
  induction d with
  | zero =>
    intro k i hd hk
    obtain ⟨k, rfl⟩ : ∃ m, k = m + 1 := ⟨k - 1, by omega⟩
    simp only [laws_eqIntS.l0]; rw [if_neg (by omega)]
  | succ d ih =>
    intro k i hd hk
    obtain ⟨k, rfl⟩ : ∃ m, k = m + 1 := ⟨k - 1, by omega⟩
    simp only [laws_eqIntS.l0]
    rw [if_pos (by omega), if_pos (by omega), if_pos (by omega), if_pos trivial, w64 (by omega)]
    exact ih k (i + 1) (by omega) (by omega)
theorem eqIntS_self {k : Nat} {l : List Int} (hl : l.length ≤ 1000000000) (hk : l.length < k) : laws_eqIntS.f k l l = some true := by
  unfold laws_eqIntS.f
  rw [if_pos rfl, show (0 : Int) = ((0 : Nat) : Int) from rfl, eqIntS_l0 l hl l.length k 0 (by omega) hk]

theorem meet_on (js : List Int) (hj : jumpsB js = true) (d : Nat) : ∀ (k t : Nat) (a b : Int), t + d = 1801 → 2 * d + 10 < k → (∀ m, goodP js (iterN js m a) (iterN js m b)) → impl_BallsMeet.l0 k js a b t = some (0, 0, false) := by
  have hl := (jumpsB_true hj).1
  induction d with
  | zero =>
    intro k t a b ht hk _
    obtain ⟨k, rfl⟩ : ∃ m, k = m + 1 := ⟨k - 1, by omega⟩
    simp only [impl_BallsMeet.l0]; rw [if_neg (by omega)]
  | succ d ih =>
    intro k t a b ht hk hg
    obtain ⟨k, rfl⟩ : ∃ m, k = m + 1 + 1 := ⟨k - 2, by omega⟩
    have g0 := hg 0
    have g1 := hg 1
    simp only [iterN] at g0 g1
    unfold goodP at g0 g1
    simp only [impl_BallsMeet.l0]
    rw [if_pos (by omega), next_eq hj g0.1.1 g0.1.2, next_eq hj g0.2.1.1 g0.2.1.2, Option.bind_some, Option.bind_some, isOut_eq js _ (by omega), isOut_eq js _ (by omega), Option.bind_some, if_neg (by simp; omega), Option.bind_some, impl_BallsMeet.j2, if_neg (by simp; omega), if_neg g1.2.2, w64 (by omega)]
    exact ih k (t + 1) _ _ (by omega) (by omega) (fun m => hg (m + 1))
theorem meet_l0 (js : List Int) (hj : jumpsB js = true) (d : Nat) : ∀ (k t : Nat) (a b : Int), t + d = js.length * js.length + 1 → 2 * d + 10 < k → (0 ≤ a ∧ a < js.length) → (0 ≤ b ∧ b < js.length) →
    (∃ r, spec_BallsMeet.l0 k js a b t = some r ∧ impl_BallsMeet.l0 k js a b t = some r) ∨
    ((∀ m, 1 ≤ m → m ≤ d → goodP js (iterN js m a) (iterN js m b)) ∧ spec_BallsMeet.l0 k js a b t = some (0, 0, false)) := by
  have hl := (jumpsB_true hj).1
  have hsq : js.length * js.length ≤ 30 * 30 := Nat.mul_le_mul hl.2 hl.2
  have ew : wrap64 ((js.length : Int) * (js.length : Int)) = ((js.length * js.length : Nat) : Int) := by rw [← Int.natCast_mul, w64 (by omega)]
  induction d with
  | zero =>
    intro k t a b ht hk _ _
    obtain ⟨k, rfl⟩ : ∃ m, k = m + 1 := ⟨k - 1, by omega⟩
    refine .inr ⟨fun m h1 h2 => by omega, ?_⟩
    simp only [spec_BallsMeet.l0]
    rw [ew, if_neg (by omega)]
  | succ d ih =>
    intro k t a b ht hk ha hb
    obtain ⟨k, rfl⟩ : ∃ m, k = m + 1 + 1 := ⟨k - 2, by omega⟩
    have ra := nextI_lo js a
    have rb := nextI_lo js b
    have hs : spec_BallsMeet.l0 (k + 1 + 1) js a b t = if nextI js a < 0 ∨ nextI js b < 0 ∨ nextI js a ≥ js.length ∨ nextI js b ≥ js.length then some (0, 0, false) else if nextI js a = nextI js b then some ((t : Int), nextI js a, true) else spec_BallsMeet.l0 k js (nextI js a) (nextI js b) ((t + 1 : Nat) : Int) := by
      simp only [spec_BallsMeet.l0]
      rw [ew, if_pos (by omega), baNext_eq (by omega) hj ha.1 ha.2, baNext_eq (by omega) hj hb.1 hb.2, Option.bind_some, Option.bind_some]
      have jt : spec_BallsMeet.j2 (k + 1) js (nextI js a) (nextI js b) t true = some (0, 0, false) := by rw [spec_BallsMeet.j2, if_pos rfl]
      by_cases c1 : nextI js a < 0
      · rw [if_pos c1, if_pos (.inl c1), jt]
      · rw [if_neg c1]
        by_cases c2 : nextI js b < 0
        · rw [if_pos c2, if_pos (.inr (.inl c2)), jt]
        · rw [if_neg c2]
          by_cases c3 : nextI js a ≥ js.length
          · rw [if_pos c3, if_pos (.inr (.inr (.inl c3))), jt]
          · rw [if_neg c3]
            by_cases c4 : nextI js b ≥ js.length
            · rw [decide_eq_true c4, if_pos (.inr (.inr (.inr c4))), jt]
            · rw [decide_eq_false c4, if_neg (show ¬ (nextI js a < 0 ∨ nextI js b < 0 ∨ nextI js a ≥ js.length ∨ nextI js b ≥ js.length) by omega), spec_BallsMeet.j2, if_neg (by decide), w64 (by omega)]; rfl
    have hi : impl_BallsMeet.l0 (k + 1 + 1) js a b t = if nextI js a < 0 ∨ nextI js b < 0 ∨ nextI js a ≥ js.length ∨ nextI js b ≥ js.length then some (0, 0, false) else if nextI js a = nextI js b then some ((t : Int), nextI js a, true) else impl_BallsMeet.l0 k js (nextI js a) (nextI js b) ((t + 1 : Nat) : Int) := by
      simp only [impl_BallsMeet.l0]
      rw [if_pos (by omega), next_eq hj ha.1 ha.2, next_eq hj hb.1 hb.2, Option.bind_some, Option.bind_some, isOut_eq js _ (by omega), isOut_eq js _ (by omega), Option.bind_some, Option.bind_some]
      have jt : impl_BallsMeet.j2 (k + 1) js (nextI js a) (nextI js b) t true = some (0, 0, false) := by rw [impl_BallsMeet.j2, if_pos rfl]
      by_cases c1 : 0 ≤ nextI js a ∧ nextI js a ≤ (js.length : Int) - 1
      · rw [decide_eq_true c1, if_neg (by decide)]
        by_cases c2 : 0 ≤ nextI js b ∧ nextI js b ≤ (js.length : Int) - 1
        · rw [decide_eq_true c2, if_neg (show ¬ (nextI js a < 0 ∨ nextI js b < 0 ∨ nextI js a ≥ js.length ∨ nextI js b ≥ js.length) by omega), impl_BallsMeet.j2, if_neg (by decide), w64 (by omega)]; rfl
        · rw [decide_eq_false c2, if_pos (show (nextI js a < 0 ∨ nextI js b < 0 ∨ nextI js a ≥ js.length ∨ nextI js b ≥ js.length) by omega)]; exact jt
      · rw [decide_eq_false c1, if_pos (by decide), if_pos (show (nextI js a < 0 ∨ nextI js b < 0 ∨ nextI js a ≥ js.length ∨ nextI js b ≥ js.length) by omega), jt]
    by_cases c : nextI js a < 0 ∨ nextI js b < 0 ∨ nextI js a ≥ js.length ∨ nextI js b ≥ js.length
    · exact .inl ⟨_, by rw [hs, if_pos c], by rw [hi, if_pos c]⟩
    · by_cases c2 : nextI js a = nextI js b
      · exact .inl ⟨_, by rw [hs, if_neg c, if_pos c2], by rw [hi, if_neg c, if_pos c2]⟩
      · rw [hs, hi, if_neg c, if_neg c2, if_neg c, if_neg c2]
        rcases ih k (t + 1) (nextI js a) (nextI js b) (by omega) (by omega) (by omega) (by omega) with h | ⟨h1, h2⟩
        · exact .inl h
        · refine .inr ⟨fun m h3 h4 => ?_, h2⟩
          obtain ⟨m, rfl⟩ : ∃ x, m = x + 1 := ⟨m - 1, by omega⟩
          by_cases hm : m = 0
          · subst hm; exact ⟨by show 0 ≤ nextI js a ∧ nextI js a < _; omega, by show 0 ≤ nextI js b ∧ nextI js b < _; omega, c2⟩
          · exact h1 m (by omega) (by omega)
theorem BallsMeet_eq {k : Nat} (hk : 9000 < k) (l : List Int) (hl : l.length ≤ 1048576) (a b : Int) : ∃ r, spec_BallsMeet.f k l a b = some r ∧ impl_BallsMeet.f k l a b = some r := by
  unfold spec_BallsMeet.f impl_BallsMeet.f
  rw [baStep_eq l a hl (by omega), baStep_eq l b hl (by omega), have_two l a b hl (by omega), Option.bind_some, Option.bind_some, Option.bind_some]
  obtain ⟨k, rfl⟩ : ∃ m, k = m + 1 := ⟨k - 1, by omega⟩
  have st : spec_BallsMeet.j0 (k + 1) l a b true = some (0, 0, false) := by rw [spec_BallsMeet.j0, if_pos rfl]
  have it : impl_BallsMeet.j0 (k + 1) l a b true = some (0, 0, false) := by rw [impl_BallsMeet.j0, if_pos rfl]
  by_cases h : onB l a = true
  · by_cases h2 : onB l b = true
    · have g := onB_true h
      have g2 := onB_true h2
      have gl := (jumpsB_true g.1).1
      have hsq : l.length * l.length ≤ 30 * 30 := Nat.mul_le_mul gl.2 gl.2
      rw [if_pos h, if_pos h2, if_pos (by rw [h, h2]; rfl)]
      by_cases e : a = b
      · rw [show (a == b) = true from by simpa using e]; exact ⟨_, st, it⟩
      · rw [show (a == b) = false from by simpa using e, spec_BallsMeet.j0, impl_BallsMeet.j0, if_neg (by decide), if_neg (by decide)]
        rcases meet_l0 l g.1 (l.length * l.length) k 1 a b (by omega) (by omega) (by omega) (by omega) with h3 | ⟨h3, h4⟩
        · exact h3
        · have hall := pairs_again l a b (fun m hm => by
            by_cases hm0 : m = 0
            · subst hm0; exact ⟨by show 0 ≤ a ∧ a < _; omega, by show 0 ≤ b ∧ b < _; omega, e⟩
            · exact h3 m (by omega) hm)
          exact ⟨_, h4, meet_on l g.1 1800 k 1 a b (by omega) (by omega) hall⟩
    · rw [if_pos h, if_neg h2, if_neg (by rw [Bool.and_eq_true]; exact fun z => h2 z.2)]; exact ⟨_, st, it⟩
  · rw [if_neg h, if_neg (by rw [Bool.and_eq_true]; exact fun z => h z.1)]; exact ⟨_, st, it⟩
theorem FnExactBallsMeet : laws_FnExactBallsMeet.Pure := by
  intro l a b _ _ _ _ _ 
  obtain ⟨k, hk⟩ : ∃ k, 2000000 < k := ⟨2000001, by omega⟩
  refine ⟨k + 1, ?_⟩
  unfold laws_FnExactBallsMeet.f
  by_cases hs : (l.length : Int) > 1048576
  · rw [if_pos hs]
  · obtain ⟨r, h1, h2⟩ := BallsMeet_eq (k := k + 1) (by omega) l (by omega) a b
    rw [if_neg hs, toIntS_eq (by omega) (by omega), Option.bind_some, h1, Option.bind_some, Option.bind_some, h2, Option.bind_some, if_pos rfl, if_pos rfl, laws_FnExactBallsMeet.j0, if_neg (by simp), toIntS_eq (by omega) (by omega), Option.bind_some, eqIntS_self (by omega) (by omega), Option.bind_some, if_pos rfl]

end Go.Proofs.Ytflagakoikgkhaa.Pure
