/- FnBallsGoOfAll: proved. No condition. -/
import Derived.Test.YtbbkbooiefoihaaPFnBallsGoOfAllx7
import Derived.Test.YtbbkbooiefoihaaBallsMain
namespace Go.Proofs.Ytbbkbooiefoihaa.Pure
open Go.RowKit Go.Proofs.Ytbbkbooiefoihaa.PFnBallsGoOfAll Go.Proofs.YtbbkbooiefoihaaW.PrintWords Go.Proofs.YtbbkbooiefoihaaW.PrintLast Go.Proofs.YtbbkbooiefoihaaW.PrintMore
set_option linter.unusedVariables false
set_option linter.unusedSimpArgs false

-- block l1In
theorem l1In_eq (a b c : Int) : spec_l1In.f a b c = some (decide (b ≤ a ∧ a ≤ c)) := by
  unfold spec_l1In.f
  by_cases h : a ≥ b
  · rw [if_pos h]; simp [show b ≤ a from h]
  · rw [if_neg h]; simp [show ¬ b ≤ a from h]

-- block w64
theorem w64 {x : Int} (h : -9223372036854775808 ≤ x ∧ x ≤ 9223372036854775807) : wrap64 x = x := by
  unfold wrap64; omega

-- block l1All
theorem l1All_l0 (lo hi : Int) (l : List Int) (hl : l.length ≤ 1000000000) (d : Nat) : ∀ (k i : Nat), i + d = l.length → d < k → spec_l1All.l0 k lo hi l l.length i = some ((l.drop i).all fun n => decide (lo ≤ n ∧ n ≤ hi)) := by
  induction d with
  | zero =>
    intro k i hd hk
    obtain ⟨k, rfl⟩ : ∃ m, k = m + 1 := ⟨k - 1, by omega⟩
    simp only [spec_l1All.l0]; rw [if_neg (by omega), List.drop_eq_nil_of_le (by omega)]; rfl
  | succ d ih =>
    intro k i hd hk
    obtain ⟨k, rfl⟩ : ∃ m, k = m + 1 := ⟨k - 1, by omega⟩
    simp only [spec_l1All.l0]
    have h : i < l.length := by omega
    have e : rd l i = l[i] := by simp [rd, List.getD_eq_getElem?_getD, List.getElem?_eq_getElem h]
    rw [if_pos (by omega), if_pos (by omega), if_pos (by omega), l1In_eq, Option.bind_some, List.drop_eq_getElem_cons h, e, List.all_cons]
    by_cases g : lo ≤ l[i] ∧ l[i] ≤ hi
    · rw [if_pos (decide_eq_true g), w64 (by omega), decide_eq_true g, Bool.true_and]
      exact ih k (i + 1) (by omega) (by omega)
    · rw [if_neg (by simpa using g), decide_eq_false g, Bool.false_and]
theorem l1All_eq {k : Nat} {l : List Int} (lo hi : Int) (hl : l.length ≤ 1000000000) (hk : l.length < k) : spec_l1All.f k l lo hi = some (l.all fun n => decide (lo ≤ n ∧ n ≤ hi)) := by
  unfold spec_l1All.f
  exact l1All_l0 lo hi l hl l.length k 0 (by omega) (by omega)

-- block within
theorem within_eq (a b c : Int) : impl_within.f a b c = some (decide (b ≤ a ∧ a ≤ c)) := by
  unfold impl_within.f
  by_cases h : b ≤ a
  · rw [if_pos h]; simp [h]
  · rw [if_neg h]; simp [h]

-- block hofAny
theorem hofAny_eq (q : Int → Option Bool) (p : Int → Bool) (h : ∀ n, q n = some (p n)) (l : List Int) : hofAny q l = some (l.any p) := by
  induction l with
  | nil => rfl
  | cons x xs ih =>
    unfold hofAny
    rw [h x, Option.bind_some, ih]
    cases hp : p x
    · rw [if_neg (by decide)]; simp [hp]
    · rw [if_pos rfl]; simp [hp]

-- block jumps
def jumpsB (l : List Int) : Bool := decide (1 ≤ l.length ∧ l.length ≤ 30) && l.all fun n => decide (-30 ≤ n ∧ n ≤ 30)
theorem AreJumps_eq (l : List Int) : impl_AreJumps.f l = some (jumpsB l) := by
  unfold impl_AreJumps.f jumpsB
  have hc : ∀ n, impl_AreJumps_1.f n = some (!decide (-30 ≤ n ∧ n ≤ 30)) := fun n => by unfold impl_AreJumps_1.f; rw [within_eq]; rfl
  have hh := hofAny_eq _ _ hc l
  rw [within_eq, Option.bind_some]
  by_cases h : 1 ≤ l.length ∧ l.length ≤ 30
  · rw [if_pos (by simp; omega), decide_eq_true h, Bool.true_and]
    simp only [slices_ContainsFunc_int_int.f, Array.size_empty, and_self, if_true]
    simp [hh, List.not_any_eq_all_not]
  · rw [if_neg (by simp; omega), decide_eq_false h, Bool.false_and]
theorem baGood_eq {k : Nat} {l : List Int} (hk : 30 < k) : spec_baGood.f k l = some (jumpsB l) := by
  unfold spec_baGood.f jumpsB
  rw [l1In_eq, Option.bind_some]
  by_cases h : 1 ≤ l.length ∧ l.length ≤ 30
  · rw [if_pos (by simp; omega), l1All_eq _ _ (by omega) (by omega), decide_eq_true h, Bool.true_and, Option.bind_some]
  · rw [if_neg (by simp; omega), decide_eq_false h, Bool.false_and]
theorem jumpsB_true {l : List Int} (h : jumpsB l = true) : (1 ≤ l.length ∧ l.length ≤ 30) ∧ ∀ x ∈ l, -30 ≤ x ∧ x ≤ 30 := by
  unfold jumpsB at h
  rw [Bool.and_eq_true, decide_eq_true_eq, List.all_eq_true] at h
  exact ⟨h.1, fun x hx => by simpa using h.2 x hx⟩

-- block haveSteps
theorem haveSteps_l0 (js l : List Int) (hj : js.length ≤ 1048576) (hl : l.length ≤ 100) (d : Nat) : ∀ (k i : Nat), i + d = l.length → d < k → impl_haveSteps.l0 k js l l.length i = some (((l.drop i).all fun n => decide (0 ≤ n ∧ n ≤ js.length - 1)) && jumpsB js) := by
  induction d with
  | zero =>
    intro k i hd hk
    obtain ⟨k, rfl⟩ : ∃ m, k = m + 1 := ⟨k - 1, by omega⟩
    simp only [impl_haveSteps.l0]; rw [if_neg (by omega), List.drop_eq_nil_of_le (by omega), AreJumps_eq]; simp
  | succ d ih =>
    intro k i hd hk
    obtain ⟨k, rfl⟩ : ∃ m, k = m + 1 := ⟨k - 1, by omega⟩
    simp only [impl_haveSteps.l0]
    have h : i < l.length := by omega
    have e : rd l i = l[i] := by simp [rd, List.getD_eq_getElem?_getD, List.getElem?_eq_getElem h]
    rw [if_pos (by omega), if_pos (by omega), if_pos (by omega), within_eq, Option.bind_some, w64 (x := (js.length : Int) - 1) (by omega), List.drop_eq_getElem_cons h, e, List.all_cons]
    by_cases g : 0 ≤ l[i] ∧ l[i] ≤ (js.length : Int) - 1
    · rw [if_pos (decide_eq_true g), w64 (by omega), decide_eq_true g, Bool.true_and]
      exact ih k (i + 1) (by omega) (by omega)
    · rw [if_neg (by simpa using g), decide_eq_false g, Bool.false_and, Bool.false_and]
def onB (js : List Int) (s : Int) : Bool := jumpsB js && decide (0 ≤ s ∧ s ≤ js.length - 1)
theorem onB_true {js : List Int} {s : Int} (h : onB js s = true) : jumpsB js = true ∧ (0 ≤ s ∧ s ≤ js.length - 1) := by
  unfold onB at h; rw [Bool.and_eq_true, decide_eq_true_eq] at h; exact h
theorem have_one {k : Nat} (js : List Int) (s : Int) (hj : js.length ≤ 1048576) (hk : 100 < k) : impl_haveSteps.f k js [s] = some (onB js s) := by
  unfold impl_haveSteps.f onB
  have := haveSteps_l0 js [s] hj (by simp) 1 k 0 (by simp) (by omega)
  rw [show ((0 : Nat) : Int) = 0 from rfl] at this
  rw [this, Bool.and_comm]; simp
theorem have_two {k : Nat} (js : List Int) (s t : Int) (hj : js.length ≤ 1048576) (hk : 100 < k) : impl_haveSteps.f k js [s, t] = some (onB js s && onB js t) := by
  unfold impl_haveSteps.f onB
  have := haveSteps_l0 js [s, t] hj (by simp) 2 k 0 (by simp) (by omega)
  rw [show ((0 : Nat) : Int) = 0 from rfl] at this
  rw [this]
  cases jumpsB js <;> simp

-- block baStep
theorem baStep_eq {k : Nat} (js : List Int) (s : Int) (hj : js.length ≤ 1048576) (hk : 100 < k) : spec_baStep.f k js s = some (onB js s) := by
  unfold spec_baStep.f onB
  rw [baGood_eq (by omega), Option.bind_some]
  cases jumpsB js
  · simp
  · rw [if_pos rfl, l1In_eq, w64 (by omega)]; simp

-- block mxmn
theorem mx_eq (a b : Int) : mx a b = max a b := by unfold mx; omega
theorem mn_eq (a b : Int) : mn a b = min a b := by unfold mn; omega

-- block next
/-- Where a ball on step s is a second later. -/
def nextI (js : List Int) (s : Int) : Int := max (-1) (min (s + rd js s) js.length)
theorem rd_bound {js : List Int} (h : jumpsB js = true) {s : Int} (h0 : 0 ≤ s) (h1 : s < js.length) : -30 ≤ rd js s ∧ rd js s ≤ 30 := by
  have hj := jumpsB_true h
  have hs : s.toNat < js.length := by omega
  have e : rd js s = js[s.toNat] := by simp [rd, List.getD_eq_getElem?_getD, List.getElem?_eq_getElem hs]
  rw [e]; exact hj.2 _ (List.getElem_mem hs)
theorem next_eq {js : List Int} (h : jumpsB js = true) {s : Int} (h0 : 0 ≤ s) (h1 : s < js.length) : impl_next.f js s = some (nextI js s) := by
  have hj := (jumpsB_true h).1
  have hb := rd_bound h h0 h1
  unfold impl_next.f impl_land.f nextI
  rw [if_pos h0, if_pos h1, Option.bind_some, w64 (by omega), mx_eq, mn_eq]
theorem baNext_eq {k : Nat} {js : List Int} (hk : 1 < k) (h : jumpsB js = true) {s : Int} (h0 : 0 ≤ s) (h1 : s < js.length) : spec_baNext.f k js s = some (nextI js s) := by
  have hj := (jumpsB_true h).1
  have hb := rd_bound h h0 h1
  obtain ⟨k, rfl⟩ : ∃ m, k = m + 1 := ⟨k - 1, by omega⟩
  unfold spec_baNext.f nextI
  rw [if_neg (by omega), decide_eq_false (by omega), spec_baNext.j0, if_neg (by decide), if_pos h0, if_pos h1, w64 (by omega)]
  by_cases c : s + rd js s < 0
  · rw [if_pos c]; congr 1; omega
  · rw [if_neg c]
    by_cases c2 : s + rd js s > js.length
    · rw [if_pos c2]; congr 1; omega
    · rw [if_neg c2]; congr 1; omega
theorem nextI_lo (js : List Int) (s : Int) : -1 ≤ nextI js s ∧ nextI js s ≤ js.length := by unfold nextI; omega

-- block pigeon
theorem pigeon_nat (n : Nat) : ∀ (l : List Nat), l.Nodup → (∀ x ∈ l, x < n) → l.length ≤ n := by
  induction n with
  | zero =>
    intro l _ h
    cases l with
    | nil => simp
    | cons x xs => exact absurd (h x (by simp)) (by omega)
  | succ n ih =>
    intro l hn h
    by_cases hm : n ∈ l
    · have h1 := ih (l.erase n) (hn.erase n) (fun x hx => by
        have h2 := (hn.mem_erase_iff).1 hx
        have h3 := h x h2.2
        have h4 := h2.1
        omega)
      have h2 := List.length_erase_of_mem hm
      omega
    · have := ih l hn (fun x hx => by
        have h3 := h x hx
        by_cases e : x = n
        · subst e; exact absurd hx hm
        · omega)
      omega
theorem pigeon (n : Nat) (l : List Int) (hn : l.Nodup) (h : ∀ x ∈ l, 0 ≤ x ∧ x < n) : l.length ≤ n := by
  have h1 := pigeon_nat n (l.map Int.toNat) (by
    rw [List.Nodup, List.pairwise_map]
    exact hn.imp_of_mem (fun {a b} ha hb hab e => hab (by have := h a ha; have := h b hb; omega)))
    (fun x hx => by
      obtain ⟨y, hy, rfl⟩ := List.mem_map.1 hx
      have := h y hy; omega)
  simpa using h1

-- block isOut
theorem isOut_eq (js : List Int) (s : Int) (hj : js.length ≤ 1048576) : impl_isOut.f js s = some (!decide (0 ≤ s ∧ s ≤ js.length - 1)) := by
  unfold impl_isOut.f
  rw [w64 (by omega), within_eq, Option.bind_some]

-- block idx
/-- Where x is first, counted from i; -1 where it is not. -/
def idxI (x : Int) : List Int → Nat → Int
  | [], _ => -1
  | y :: ys, i => if y = x then (i : Int) else idxI x ys (i + 1)
theorem idxI_spec (x : Int) (l : List Int) : ∀ i : Nat, (x ∉ l ∧ idxI x l i = -1) ∨ (∃ n : Nat, n < l.length ∧ idxI x l i = (i : Int) + n ∧ rd l n = x ∧ ∀ m : Nat, m < n → rd l m ≠ x) := by
  induction l with
  | nil => intro i; exact .inl ⟨by simp, rfl⟩
  | cons y ys ih =>
    intro i
    unfold idxI
    by_cases h : y = x
    · subst h
      exact .inr ⟨0, by simp, by simp, by simp [rd], fun m hm => by omega⟩
    · rw [if_neg h]
      rcases ih (i + 1) with ⟨h1, h2⟩ | ⟨n, h1, h2, h3, h4⟩
      · exact .inl ⟨by simp [h1]; exact fun e => h e.symm, h2⟩
      · refine .inr ⟨n + 1, by simp; omega, by rw [h2]; omega, ?_, ?_⟩
        · simpa [rd] using h3
        · intro m hm
          cases m with
          | zero => simpa [rd] using h
          | succ m => have := h4 m (by omega); simpa [rd] using this
theorem idxI_mem (x : Int) (l : List Int) : decide (idxI x l 0 ≥ 0) = decide (x ∈ l) := by
  rw [decide_eq_decide]
  rcases idxI_spec x l 0 with ⟨h1, h2⟩ | ⟨n, h1, h2, h3, h4⟩
  · rw [h2]; constructor
    · intro h; omega
    · intro h; exact absurd h h1
  · rw [h2]; constructor
    · intro _
      have e : rd l n = l[n] := by simp [rd, List.getD_eq_getElem?_getD, List.getElem?_eq_getElem h1]
      rw [← h3, e]; exact List.getElem_mem h1
    · intro _; omega

-- block contains
theorem Index_l0 (x : Int) (l : List Int) (hl : l.length ≤ 1048576) (d : Nat) : ∀ (k i : Nat), i + d = l.length → d < k → slices_Index_int_int.l0 k l x l.length i = some (idxI x (l.drop i) i) := by
  induction d with
  | zero =>
    intro k i hd hk
    obtain ⟨k, rfl⟩ : ∃ m, k = m + 1 := ⟨k - 1, by omega⟩
    simp only [slices_Index_int_int.l0]; rw [if_neg (by omega), List.drop_eq_nil_of_le (by omega)]; rfl
  | succ d ih =>
    intro k i hd hk
    obtain ⟨k, rfl⟩ : ∃ m, k = m + 1 := ⟨k - 1, by omega⟩
    simp only [slices_Index_int_int.l0]
    have h : i < l.length := by omega
    have e : rd l i = l[i] := by simp [rd, List.getD_eq_getElem?_getD, List.getElem?_eq_getElem h]
    rw [if_pos (by omega), if_pos (by omega), if_pos (by omega), e, List.drop_eq_getElem_cons h, idxI]
    by_cases g : l[i] = x
    · rw [if_pos g, if_pos g.symm]
    · rw [if_neg g, if_neg (fun z => g z.symm), w64 (by omega)]
      exact ih k (i + 1) (by omega) (by omega)
theorem Index_eq {k : Nat} {l : List Int} (x : Int) (hl : l.length ≤ 1048576) (hk : l.length < k) : slices_Index_int_int.f k l x = some (idxI x l 0) := by
  unfold slices_Index_int_int.f
  exact Index_l0 x l hl l.length k 0 (by omega) hk

-- block contains2
theorem Contains_eq {k : Nat} {l : List Int} (x : Int) (hl : l.length ≤ 1048576) (hk : l.length < k) : slices_Contains_int_int.f k l x = some (decide (x ∈ l)) := by
  unfold slices_Contains_int_int.f
  rw [Index_eq x hl hk, Option.bind_some, idxI_mem]

-- block path
/-- A path from s on, behind the steps acc: the steps, and where the ball is behind them. -/
def pathF (js : List Int) : Nat → Int → List Int → List Int × Int
  | 0, s, acc => (acc, s)
  | n + 1, s, acc => if 0 ≤ s ∧ s < js.length ∧ s ∉ acc then pathF js n (nextI js s) (acc ++ [s]) else (acc, s)
def pathR (js : List Int) (s : Int) : List Int × Int := pathF js (js.length + 1) s []
theorem nextI_range (js : List Int) (s : Int) : -1 ≤ nextI js s ∧ nextI js s ≤ js.length := by unfold nextI; omega
/-- What a path is: its steps are of the stairs, none twice. -/
structure PathOk (js : List Int) (acc : List Int) : Prop where
  nodup : acc.Nodup
  range : ∀ x ∈ acc, 0 ≤ x ∧ x < js.length
theorem PathOk.len {js acc : List Int} (h : PathOk js acc) : acc.length ≤ js.length := pigeon _ _ h.nodup h.range
theorem PathOk.nil (js : List Int) : PathOk js [] := ⟨List.nodup_nil, by simp⟩
theorem PathOk.snoc {js acc : List Int} (h : PathOk js acc) {s : Int} (h0 : 0 ≤ s) (h1 : s < js.length) (h2 : s ∉ acc) : PathOk js (acc ++ [s]) :=
  ⟨List.nodup_append.2 ⟨h.nodup, by simp, fun a ha b hb => by simp at hb; subst hb; intro e; subst e; exact h2 ha⟩, fun x hx => by
    rcases List.mem_append.1 hx with hx | hx
    · exact h.range x hx
    · simp at hx; subst hx; exact ⟨h0, h1⟩⟩
theorem impl_path_l0 (js : List Int) (hj : jumpsB js = true) (d : Nat) : ∀ (k : Nat) (s : Int) (acc : List Int), js.length + 1 ≤ acc.length + d → d + 100 < k → PathOk js acc →
    impl_path.l0 k js s acc = some (pathF js d s acc) := by
  have hl := (jumpsB_true hj).1
  induction d with
  | zero =>
    intro k s acc hd hk ha
    have := ha.len
    omega
  | succ d ih =>
    intro k s acc hd hk ha
    have hal := ha.len
    obtain ⟨k, rfl⟩ : ∃ m, k = m + 1 := ⟨k - 1, by omega⟩
    simp only [impl_path.l0, pathF]
    rw [isOut_eq js s (by omega), Option.bind_some]
    by_cases h : 0 ≤ s ∧ s ≤ (js.length : Int) - 1
    · rw [if_neg (by simp; omega), Contains_eq s (by omega) (by omega), Option.bind_some]
      by_cases g : s ∈ acc
      · rw [if_pos (decide_eq_true g), if_neg (fun z => z.2.2 g)]
      · rw [if_neg (by simpa using g), if_pos (by omega), next_eq hj h.1 (by omega), Option.bind_some, if_pos ⟨h.1, by omega, g⟩]
        exact ih k _ _ (by simp; omega) (by omega) (ha.snoc h.1 (by omega) g)
    · rw [if_pos (by simp; omega), if_neg (fun z => h ⟨z.1, by omega⟩)]
theorem impl_path_eq {k : Nat} {js : List Int} (hj : jumpsB js = true) (hk : 1000 < k) (s : Int) : impl_path.f k js s = some (pathR js s) := by
  have hl := (jumpsB_true hj).1
  unfold impl_path.f pathR
  exact impl_path_l0 js hj (js.length + 1) k s [] (by simp) (by omega) (PathOk.nil js)
theorem pathF_ok (js : List Int) (d : Nat) : ∀ (s : Int) (acc : List Int), PathOk js acc → -1 ≤ s → s ≤ js.length → PathOk js (pathF js d s acc).1 ∧ -1 ≤ (pathF js d s acc).2 ∧ (pathF js d s acc).2 ≤ js.length := by
  induction d with
  | zero => intro s acc h h0 h1; exact ⟨h, h0, h1⟩
  | succ d ih =>
    intro s acc h h0 h1
    unfold pathF
    by_cases g : 0 ≤ s ∧ s < js.length ∧ s ∉ acc
    · rw [if_pos g]
      have := nextI_range js s
      exact ih _ _ (h.snoc g.1 g.2.1 g.2.2) this.1 this.2
    · rw [if_neg g]; exact ⟨h, h0, h1⟩
theorem pathF_end (js : List Int) (d : Nat) : ∀ (s : Int) (acc : List Int), js.length + 1 ≤ acc.length + d → PathOk js acc →
    0 ≤ (pathF js d s acc).2 → (pathF js d s acc).2 < js.length → (pathF js d s acc).2 ∈ (pathF js d s acc).1 := by
  induction d with
  | zero => intro s acc hd h; have := h.len; omega
  | succ d ih =>
    intro s acc hd h
    unfold pathF
    by_cases g : 0 ≤ s ∧ s < js.length ∧ s ∉ acc
    · rw [if_pos g]
      exact ih _ _ (by simp; omega) (h.snoc g.1 g.2.1 g.2.2)
    · rw [if_neg g]
      intro h0 h1
      by_cases hm : s ∈ acc
      · exact hm
      · exact absurd ⟨h0, h1, hm⟩ g
theorem pathR_ok (js : List Int) (s : Int) (h0 : -1 ≤ s) (h1 : s ≤ js.length) : PathOk js (pathR js s).1 ∧ -1 ≤ (pathR js s).2 ∧ (pathR js s).2 ≤ js.length := pathF_ok js _ s [] (PathOk.nil js) h0 h1
theorem pathR_end (js : List Int) (s : Int) : 0 ≤ (pathR js s).2 → (pathR js s).2 < js.length → (pathR js s).2 ∈ (pathR js s).1 := pathF_end js _ s [] (by simp) (PathOk.nil js)

-- block ends
/-- The end of a ball that is on step s. -/
def endV (js : List Int) (s : Int) : ByteArray := if (pathR js s).2 < 0 then ⟨#[97]⟩ else if (pathR js s).2 ≥ js.length then ⟨#[98]⟩ else ⟨#[108]⟩
theorem endV_l (js : List Int) (s : Int) : (endV js s).toList = [108] ↔ (0 ≤ (pathR js s).2 ∧ (pathR js s).2 < js.length) := by
  unfold endV
  by_cases c : (pathR js s).2 < 0
  · rw [if_pos c]
    constructor
    · intro h; exact absurd h (by decide +kernel)
    · intro h; omega
  · rw [if_neg c]
    by_cases c2 : (pathR js s).2 ≥ js.length
    · rw [if_pos c2]
      constructor
      · intro h; exact absurd h (by decide +kernel)
      · intro h; omega
    · rw [if_neg c2]
      constructor
      · intro _; omega
      · intro _; decide +kernel

-- block l1Has
theorem l1Has_l0 (x : Int) (l : List Int) (hl : l.length ≤ 1048576) (d : Nat) : ∀ (k i : Nat), i + d = l.length → d < k → spec_l1Has.l0 k x l l.length i = some (decide (x ∈ l.drop i)) := by
  induction d with
  | zero =>
    intro k i hd hk
    obtain ⟨k, rfl⟩ : ∃ m, k = m + 1 := ⟨k - 1, by omega⟩
    simp only [spec_l1Has.l0]; rw [if_neg (by omega), List.drop_eq_nil_of_le (by omega)]; simp
  | succ d ih =>
    intro k i hd hk
    obtain ⟨k, rfl⟩ : ∃ m, k = m + 1 := ⟨k - 1, by omega⟩
    simp only [spec_l1Has.l0]
    have h : i < l.length := by omega
    have e : rd l i = l[i] := by simp [rd, List.getD_eq_getElem?_getD, List.getElem?_eq_getElem h]
    rw [if_pos (by omega), if_pos (by omega), if_pos (by omega), e, List.drop_eq_getElem_cons h]
    by_cases g : l[i] = x
    · rw [if_pos g]; congr 1; rw [eq_comm, decide_eq_true_eq, g]; simp
    · rw [if_neg g, w64 (by omega), show (i : Int) + 1 = ((i + 1 : Nat) : Int) from rfl, ih k (i + 1) (by omega) (by omega)]
      congr 1; rw [decide_eq_decide, List.mem_cons]
      exact ⟨fun z => .inr z, fun z => z.resolve_left (fun y => g y.symm)⟩
theorem l1Has_eq {k : Nat} {l : List Int} (x : Int) (hl : l.length ≤ 1048576) (hk : l.length < k) : spec_l1Has.f k l x = some (decide (x ∈ l)) := by
  unfold spec_l1Has.f
  exact l1Has_l0 x l hl l.length k 0 (by omega) hk

-- block baPath
theorem baPath_l0 (js : List Int) (hj : jumpsB js = true) (d : Nat) : ∀ (k : Nat) (s : Int) (acc : List Int), js.length + 1 ≤ acc.length + d → d + 100 < k → PathOk js acc →
    spec_baPath.l0 k js acc s = some (pathF js d s acc) := by
  have hl := (jumpsB_true hj).1
  induction d with
  | zero =>
    intro k s acc hd hk ha
    have := ha.len
    omega
  | succ d ih =>
    intro k s acc hd hk ha
    have hal := ha.len
    obtain ⟨k, rfl⟩ : ∃ m, k = m + 1 := ⟨k - 1, by omega⟩
    simp only [spec_baPath.l0, pathF]
    by_cases h0 : s ≥ 0
    · rw [if_pos h0]
      by_cases h1 : s < (js.length : Int)
      · rw [if_pos h1, l1Has_eq s (by omega) (by omega), Option.bind_some]
        by_cases g : s ∈ acc
        · rw [if_pos (decide_eq_true g), if_neg (fun z => z.2.2 g)]
        · rw [if_neg (by simpa using g), if_pos (by omega), baNext_eq (by omega) hj h0 h1, Option.bind_some, if_pos ⟨h0, h1, g⟩]
          exact ih k _ _ (by simp; omega) (by omega) (ha.snoc h0 h1 g)
      · rw [if_neg h1, if_neg (fun z => h1 z.2.1)]
    · rw [if_neg h0, if_neg (fun z => h0 z.1)]
theorem baPath_eq {k : Nat} {js : List Int} (hj : jumpsB js = true) (hk : 1000 < k) (s : Int) : spec_baPath.f k js s = some (pathR js s) := by
  have hl := (jumpsB_true hj).1
  unfold spec_baPath.f pathR
  exact baPath_l0 js hj (js.length + 1) k s [] (by simp) (by omega) (PathOk.nil js)

-- block baEnd
theorem baEnd_eq {k : Nat} {js : List Int} (hj : jumpsB js = true) (hk : 1000 < k) (s : Int) : spec_baEnd.f k js s = some (endV js s) := by
  unfold spec_baEnd.f endV
  rw [baPath_eq hj hk, Option.bind_some]
  by_cases c : (pathR js s).2 < 0
  · rw [if_pos c, if_pos c]
  · rw [if_neg c, if_neg c]
    by_cases c2 : (pathR js s).2 ≥ js.length
    · rw [if_pos c2, if_pos c2]
    · rw [if_neg c2, if_neg c2]

-- block endEq
theorem end_eq {k : Nat} {js : List Int} (hj : jumpsB js = true) (hk : 1000 < k) {s : Int} (h0 : 0 ≤ s) (h1 : s < js.length) : impl_end.f k js s = some (endV js s) := by
  have := pathR_ok js s (by omega) (by omega)
  unfold impl_end.f endV
  rw [impl_path_eq hj hk, Option.bind_some]
  by_cases c : (pathR js s).2 < 0
  · rw [if_pos c, if_pos c]
  · rw [if_neg c, if_neg c]
    by_cases c2 : (pathR js s).2 = js.length
    · rw [if_pos c2, if_pos (by omega)]
    · rw [if_neg c2, if_neg (by omega)]

-- block loops
/-- The loop to which a ball comes, in the order of jumps, and after how many seconds. -/
def firstN (js : List Int) (s : Int) : Nat := (idxI (pathR js s).2 (pathR js s).1 0).toNat
def loopL (js : List Int) (s : Int) : List Int := (pathR js s).1.drop (firstN js s)
theorem first_of (js : List Int) (s : Int) (h : (pathR js s).2 ∈ (pathR js s).1) : idxI (pathR js s).2 (pathR js s).1 0 = (firstN js s : Int) ∧ firstN js s < (pathR js s).1.length := by
  rcases idxI_spec (pathR js s).2 (pathR js s).1 0 with ⟨h1, -⟩ | ⟨n, h1, h2, -, -⟩
  · exact absurd h h1
  · unfold firstN; rw [h2]; omega
theorem idx_none (x : Int) (l : List Int) (h : x ∉ l) : idxI x l 0 = -1 := by
  rcases idxI_spec x l 0 with ⟨-, h2⟩ | ⟨n, h1, -, h3, -⟩
  · exact h2
  · have e : rd l n = l[n] := by simp [rd, List.getD_eq_getElem?_getD, List.getElem?_eq_getElem h1]
    exact absurd (by rw [← h3, e]; exact List.getElem_mem h1) h
/-- A list from its least number on. -/
def isLeast (y : List Int) (m : Nat) : Prop := m < y.length ∧ (∀ j, j < y.length → rd y m ≤ rd y j) ∧ ∀ j, j < m → rd y m < rd y j
theorem isLeast_one {y : List Int} {m n : Nat} (hm : isLeast y m) (hn : isLeast y n) : m = n := by
  obtain ⟨a1, a2, a3⟩ := hm
  obtain ⟨b1, b2, b3⟩ := hn
  rcases Nat.lt_trichotomy m n with h | h | h
  · have := b3 m h; have := a2 n b1; omega
  · exact h
  · have := a3 n h; have := b2 m a1; omega

-- block baPlace
theorem baPlace_l0 (x : Int) (l : List Int) (hl : l.length ≤ 1048576) (d : Nat) : ∀ (k i : Nat), i + d = l.length → d < k → spec_baPlace.l0 k x l l.length i = some (idxI x (l.drop i) i) := by
  induction d with
  | zero =>
    intro k i hd hk
    obtain ⟨k, rfl⟩ : ∃ m, k = m + 1 := ⟨k - 1, by omega⟩
    simp only [spec_baPlace.l0]; rw [if_neg (by omega), List.drop_eq_nil_of_le (by omega)]; rfl
  | succ d ih =>
    intro k i hd hk
    obtain ⟨k, rfl⟩ : ∃ m, k = m + 1 := ⟨k - 1, by omega⟩
    simp only [spec_baPlace.l0]
    have h : i < l.length := by omega
    have e : rd l i = l[i] := by simp [rd, List.getD_eq_getElem?_getD, List.getElem?_eq_getElem h]
    rw [if_pos (by omega), if_pos (by omega), if_pos (by omega), e, List.drop_eq_getElem_cons h, idxI]
    by_cases g : l[i] = x
    · rw [if_pos g, if_pos g]
    · rw [if_neg g, if_neg g, w64 (by omega)]
      exact ih k (i + 1) (by omega) (by omega)
theorem baPlace_eq {k : Nat} {l : List Int} (x : Int) (hl : l.length ≤ 1048576) (hk : l.length < k) : spec_baPlace.f k l x = some (idxI x l 0) := by
  unfold spec_baPlace.f
  exact baPlace_l0 x l hl l.length k 0 (by omega) hk

-- block baLoop
theorem l1Own_eq (l : List Int) (h : l.length ≤ 1000000) : spec_l1Own.f l = some l := by
  unfold spec_l1Own.f
  simp; omega
theorem baLoop_l0 (t : Int) (y : List Int) (hy : y.length ≤ 1000) (d : Nat) : ∀ (k i m : Nat), i + d = y.length → d < k → m < y.length → (∀ j, j < i → rd y m ≤ rd y j) → (∀ j, j < m → rd y m < rd y j) →
    ∃ m', isLeast y m' ∧ spec_baLoop.l0 k t y m y y.length i = some (y.drop m' ++ y.take m', t) := by
  induction d with
  | zero =>
    intro k i m hd hk hm h1 h2
    obtain ⟨k, rfl⟩ : ∃ x, k = x + 1 := ⟨k - 1, by omega⟩
    refine ⟨m, ⟨hm, fun j hj => h1 j (by omega), h2⟩, ?_⟩
    simp only [spec_baLoop.l0]
    rw [if_neg (by omega), if_pos (by omega), if_pos (by omega), Int.toNat_natCast, l1Own_eq _ (by simp; omega), Option.bind_some, if_pos (by simp; omega)]
  | succ d ih =>
    intro k i m hd hk hm h1 h2
    obtain ⟨k, rfl⟩ : ∃ x, k = x + 1 := ⟨k - 1, by omega⟩
    simp only [spec_baLoop.l0]
    rw [if_pos (by omega), if_pos (by omega), if_pos (by omega), if_pos (by omega), if_pos (by omega), w64 (by omega), show (i : Int) + 1 = ((i + 1 : Nat) : Int) from rfl]
    by_cases c : rd y i < rd y m
    · rw [if_pos c]
      have him : m < i ∨ i ≤ m := by omega
      refine ih k (i + 1) i (by omega) (by omega) (by omega) (fun j hj => ?_) (fun j hj => ?_)
      · by_cases e : j = i
        · subst e; omega
        · have := h1 j (by omega); omega
      · have := h1 j (by omega); omega
    · rw [if_neg c]
      refine ih k (i + 1) m (by omega) (by omega) hm (fun j hj => ?_) h2
      by_cases e : j = i
      · subst e; omega
      · exact h1 j (by omega)
theorem baLoop_eq {k : Nat} {js : List Int} (hj : jumpsB js = true) (hk : 2000 < k) {s : Int} (h0 : 0 ≤ s) (h1 : s < js.length) (hm : (pathR js s).2 ∈ (pathR js s).1) :
    ∃ m, isLeast (loopL js s) m ∧ spec_baLoop.f k js s = some ((loopL js s).drop m ++ (loopL js s).take m, (firstN js s : Int)) := by
  have hl := (jumpsB_true hj).1
  have hp := (pathR_ok js s (by omega) (by omega)).1.len
  obtain ⟨e1, e2⟩ := first_of js s hm
  unfold spec_baLoop.f
  rw [baPath_eq hj (by omega), Option.bind_some, baPlace_eq _ (by omega) (by omega), Option.bind_some, e1, if_pos (by omega), if_pos (by omega), Option.bind_some, Int.toNat_natCast]
  have hlen : (loopL js s).length = (pathR js s).1.length - firstN js s := List.length_drop
  exact baLoop_l0 _ (loopL js s) (by omega) _ k 0 0 (by rw [Nat.zero_add]) (by omega) (by omega) (fun j hj => by omega) (fun j hj => by omega)

-- block implLoop
theorem loop_eq {k : Nat} {js : List Int} (hj : jumpsB js = true) (hk : 2000 < k) {s : Int} (h0 : 0 ≤ s) (h1 : s < js.length) :
    impl_loop.f k js s = some (if (pathR js s).2 ∈ (pathR js s).1 then (loopL js s, (firstN js s : Int)) else ([], 0)) := by
  have hl := (jumpsB_true hj).1
  have hp := (pathR_ok js s (by omega) (by omega)).1.len
  unfold impl_loop.f
  rw [impl_path_eq hj (by omega), Option.bind_some, Index_eq _ (by omega) (by omega), Option.bind_some]
  by_cases h : (pathR js s).2 ∈ (pathR js s).1
  · obtain ⟨e1, e2⟩ := first_of js s h
    rw [e1, if_neg (by omega), if_pos (by omega), if_pos (by omega), if_pos h]; rfl
  · rw [idx_none _ _ h, if_pos (by omega), if_neg h]
theorem loop_in {js : List Int} {s : Int} (h0 : 0 ≤ s) (h1 : s < js.length) : (pathR js s).2 ∈ (pathR js s).1 ↔ (0 ≤ (pathR js s).2 ∧ (pathR js s).2 < js.length) := by
  constructor
  · intro h; exact (pathR_ok js s (by omega) (by omega)).1.range _ h
  · intro h; exact pathR_end js s h.1 h.2

-- block minL0
theorem Min_l0 (l : List Int) (hl : l.length ≤ 1000000) (d : Nat) : ∀ (k i : Nat) (m : Int), i + d = l.length → d < k → (∀ j : Nat, j < i → m ≤ rd l j) → (∃ j : Nat, j < i ∧ rd l j = m) →
    ∃ r, slices_Min_int_int.l0 k l m i = some r ∧ (∀ j : Nat, j < l.length → r ≤ rd l j) ∧ ∃ j : Nat, j < l.length ∧ rd l j = r := by
  induction d with
  | zero =>
    intro k i m hd hk h1 h2
    obtain ⟨k, rfl⟩ : ∃ m, k = m + 1 := ⟨k - 1, by omega⟩
    have e : i = l.length := by omega
    subst e
    exact ⟨m, by rw [slices_Min_int_int.l0, if_neg (by omega)], h1, h2⟩
  | succ d ih =>
    intro k i m hd hk h1 h2
    obtain ⟨k, rfl⟩ : ∃ m, k = m + 1 := ⟨k - 1, by omega⟩
    obtain ⟨j, j1, j2⟩ := h2
    rw [slices_Min_int_int.l0, if_pos (by omega), if_pos (by omega), w64 (by omega), show (i : Int) + 1 = ((i + 1 : Nat) : Int) from rfl]
    refine ih k (i + 1) _ (by omega) (by omega) (fun j hj => ?_) ?_
    · unfold mn
      by_cases e : j = i
      · subst e; split <;> omega
      · have := h1 j (by omega); split <;> omega
    · unfold mn
      split
      · exact ⟨i, by omega, rfl⟩
      · exact ⟨j, by omega, by omega⟩

-- block fromLeast
theorem Concat2_eq {k : Nat} (a b : List Int) (ha : a.length ≤ 1000000) (hb : b.length ≤ 1000000) (hk : 10 < k) : slices_Concat_int_int.f k [a, b] = some (a ++ b) := by
  obtain ⟨k, rfl⟩ : ∃ m, k = m + 1 + 1 + 1 + 1 + 1 + 1 := ⟨k - 6, by omega⟩
  have r0 : rd_L1 [a, b] 0 = a := rfl
  have r1 : rd_L1 [a, b] 1 = b := rfl
  have hn : (([a, b] : List (List Int)).length : Int) = 2 := rfl
  unfold slices_Concat_int_int.f
  rw [slices_Concat_int_int.l0, hn, if_pos (by omega), if_pos (by omega), if_pos (by omega), r0, w64 (x := 0 + (a.length : Int)) (by omega), if_neg (by omega), w64 (x := (0 : Int) + 1) (by omega), Int.zero_add, Int.zero_add]
  rw [slices_Concat_int_int.l0, hn, if_pos (by omega), if_pos (by omega), if_pos (by omega), r1, w64 (x := (a.length : Int) + (b.length : Int)) (by omega), if_neg (by omega), w64 (x := (1 : Int) + 1) (by omega), show (1 : Int) + 1 = 2 from rfl]
  rw [slices_Concat_int_int.l0, if_neg (by omega)]
  unfold slices_Grow_int_int.f
  rw [if_pos ⟨rfl, by omega, by omega⟩, Option.bind_some]
  rw [slices_Concat_int_int.l1, hn, if_pos (by omega), if_pos (by omega), if_pos (by omega), r0, if_pos (by simp; omega), w64 (x := (0 : Int) + 1) (by omega), Int.zero_add, List.nil_append]
  rw [slices_Concat_int_int.l1, hn, if_pos (by omega), if_pos (by omega), if_pos (by omega), r1, if_pos (by omega), w64 (x := (1 : Int) + 1) (by omega), show (1 : Int) + 1 = 2 from rfl]
  rw [slices_Concat_int_int.l1, if_neg (by omega)]
theorem fromLeast_eq {k : Nat} (hk : 1100000 < k) (l : List Int) (hl : l.length ≤ 1000000) (h0 : 0 < l.length) : ∃ i, isLeast l i ∧ impl_fromLeast.f k l = some (l.drop i ++ l.take i) := by
  have z : rd l ((0 : Nat) : Int) = rd l 0 := rfl
  obtain ⟨r, e, r1, j, r2, r3⟩ := Min_l0 l hl (l.length - 1) k 1 (rd l 0) (by omega) (by omega) (fun j hj => by
    have : j = 0 := by omega
    subst this; exact Int.le_refl _) ⟨0, by omega, rfl⟩
  unfold impl_fromLeast.f slices_Min_int_int.f
  rw [if_neg (by omega), if_pos (by omega)]
  rw [show ((1 : Nat) : Int) = 1 from rfl] at e
  rw [e, Option.bind_some, Index_eq _ (by omega) (by omega), Option.bind_some]
  rcases idxI_spec r l 0 with ⟨h1, -⟩ | ⟨n, h1, h2, h3, h4⟩
  · exact absurd (by
      have q : rd l (j : Int) = l[j] := by simp [rd, List.getD_eq_getElem?_getD, List.getElem?_eq_getElem r2]
      rw [← r3, q]; exact List.getElem_mem r2) h1
  · refine ⟨n, ⟨h1, fun i hi => by rw [h3]; exact r1 i hi, fun i hi => ?_⟩, ?_⟩
    · have a := h4 i hi
      have b := r1 i (by omega)
      rw [h3]; omega
    · rw [h2, if_pos (by omega), if_pos (by omega), show (((0 : Nat) : Int) + (n : Int)).toNat = n from by omega, Concat2_eq _ _ (by simp; omega) (by simp; omega) (by omega), Option.bind_some]

-- block iter
def iterN (js : List Int) : Nat → Int → Int
  | 0, s => s
  | m + 1, s => iterN js m (nextI js s)
theorem iterN_add (js : List Int) (x y : Nat) : ∀ s, iterN js (x + y) s = iterN js x (iterN js y s) := by
  induction y with
  | zero => intro s; rfl
  | succ y ih => intro s; show iterN js (x + y) (nextI js s) = _; rw [ih]; rfl
/-- Two balls are on two steps. -/
def goodP (js : List Int) (a b : Int) : Prop := (0 ≤ a ∧ a < js.length) ∧ (0 ≤ b ∧ b < js.length) ∧ a ≠ b
theorem pairs_again (js : List Int) (a b : Int) (h : ∀ m, m ≤ js.length * js.length → goodP js (iterN js m a) (iterN js m b)) : ∀ m, goodP js (iterN js m a) (iterN js m b) := by
  have hex : ∃ i j, i < j ∧ j ≤ js.length * js.length ∧ iterN js i a = iterN js j a ∧ iterN js i b = iterN js j b := by
    apply Classical.byContradiction
    intro hno
    have hn := pigeon_nat (js.length * js.length) ((List.range (js.length * js.length + 1)).map fun m => js.length * (iterN js m a).toNat + (iterN js m b).toNat) (by
      rw [List.Nodup, List.pairwise_map]
      refine List.pairwise_lt_range.imp_of_mem (fun {i j} hi hj hij e => hno ⟨i, j, hij, ?_, ?_⟩)
      · have := List.mem_range.1 hj; omega
      · have hi' := h i (by have := List.mem_range.1 hi; omega)
        have hj' := h j (by have := List.mem_range.1 hj; omega)
        obtain ⟨⟨a1, a2⟩, ⟨a3, a4⟩, -⟩ := hi'
        obtain ⟨⟨b1, b2⟩, ⟨b3, b4⟩, -⟩ := hj'
        have hpos : 0 < js.length := by omega
        have q := congrArg (· / js.length) e
        have r := congrArg (· % js.length) e
        try simp only at q r
        rw [Nat.mul_add_div hpos, Nat.mul_add_div hpos, Nat.div_eq_of_lt (by omega), Nat.div_eq_of_lt (by omega)] at q
        rw [Nat.mul_add_mod, Nat.mul_add_mod, Nat.mod_eq_of_lt (by omega), Nat.mod_eq_of_lt (by omega)] at r
        omega) (by
      intro x hx
      obtain ⟨m, hm, rfl⟩ := List.mem_map.1 hx
      obtain ⟨⟨a1, a2⟩, ⟨a3, a4⟩, -⟩ := h m (by have := List.mem_range.1 hm; omega)
      have : js.length * ((iterN js m a).toNat + 1) ≤ js.length * js.length := Nat.mul_le_mul_left _ (by omega)
      rw [Nat.mul_add] at this
      omega)
    rw [List.length_map, List.length_range] at hn
    omega
  obtain ⟨i, j, hij, hj, ea, eb⟩ := hex
  intro m
  induction m using Nat.strongRecOn with
  | _ m ih =>
    by_cases hm : m ≤ js.length * js.length
    · exact h m hm
    · have e : m = (m - j) + j := by omega
      rw [e, iterN_add, iterN_add, ← ea, ← eb, ← iterN_add, ← iterN_add]
      exact ih (m - j + i) (by omega)

-- block pathIt
theorem pathF_it (js : List Int) (d : Nat) : ∀ (s : Int) (acc : List Int), ∃ t : List Int, (pathF js d s acc).1 = acc ++ t ∧ (∀ i : Nat, i < t.length → rd t i = iterN js i s) ∧ (pathF js d s acc).2 = iterN js t.length s ∧ (0 < d → 0 ≤ s → s < js.length → s ∉ acc → 0 < t.length) := by
  induction d with
  | zero => intro s acc; exact ⟨[], by simp [pathF], by simp, rfl, by omega⟩
  | succ d ih =>
    intro s acc
    unfold pathF
    by_cases g : 0 ≤ s ∧ s < js.length ∧ s ∉ acc
    · rw [if_pos g]
      obtain ⟨t, t1, t2, t3, -⟩ := ih (nextI js s) (acc ++ [s])
      refine ⟨s :: t, by rw [t1]; simp, fun i hi => ?_, by rw [t3]; rfl, fun _ _ _ _ => by simp⟩
      cases i with
      | zero => simp [rd, iterN]
      | succ i =>
        have := t2 i (by simpa using hi)
        rw [show iterN js (i + 1) s = iterN js i (nextI js s) from rfl, ← this]; simp [rd]
    · rw [if_neg g]; exact ⟨[], by simp, by simp, rfl, fun _ a b c => absurd ⟨a, b, c⟩ g⟩
/-- A path tells where the ball is, second by second. -/
theorem pathR_it (js : List Int) (s : Int) (h0 : 0 ≤ s) (h1 : s < js.length) : (∀ i : Nat, i < (pathR js s).1.length → rd (pathR js s).1 i = iterN js i s) ∧ (pathR js s).2 = iterN js (pathR js s).1.length s ∧ 0 < (pathR js s).1.length := by
  obtain ⟨t, t1, t2, t3, t4⟩ := pathF_it js (js.length + 1) s []
  have e : (pathR js s).1 = t := by unfold pathR; rw [t1]; rfl
  rw [e]
  exact ⟨t2, t3, t4 (by omega) h0 h1 (by simp)⟩
theorem rdget {l : List Int} {i : Nat} (h : i < l.length) : rd l (i : Int) = l[i] := by simp [rd, List.getD_eq_getElem?_getD, List.getElem?_eq_getElem h]
theorem rd_drop (l : List Int) (n i : Nat) : rd (l.drop n) (i : Int) = rd l ((n + i : Nat) : Int) := by
  unfold rd
  rw [List.getD_eq_getElem?_getD, List.getD_eq_getElem?_getD, Int.toNat_natCast, Int.toNat_natCast, List.getElem?_drop]
theorem nodup_rd {l : List Int} (h : l.Nodup) {i j : Nat} (hi : i < l.length) (hj : j < l.length) (e : rd l (i : Int) = rd l (j : Int)) : i = j := by
  rw [rdget hi, rdget hj] at e
  exact (List.getElem_inj h).1 e

-- block ballMath
/-! where a ball is, second by second -/
theorem iterN_succ (js : List Int) (n : Nat) (s : Int) : iterN js (n + 1) s = nextI js (iterN js n s) := by
  rw [Nat.add_comm, iterN_add]; rfl
theorem nextI_in {js : List Int} {x : Int} (h0 : 0 ≤ nextI js x) (h1 : nextI js x < js.length) : x + rd js x = nextI js x := by
  unfold nextI at *; omega
theorem nextI_neg {js : List Int} (x : Int) (hl : 1 ≤ js.length) : nextI js x < 0 ↔ x + rd js x < 0 := by
  unfold nextI; omega
theorem nextI_big {js : List Int} (x : Int) (hl : 1 ≤ js.length) : nextI js x ≥ js.length ↔ x + rd js x ≥ js.length := by
  unfold nextI; omega
/-- A path that comes to a loop: its parts. -/
structure OnLoop (js : List Int) (s : Int) : Prop where
  h0 : 0 ≤ s
  h1 : s < js.length
  hin : (pathR js s).2 ∈ (pathR js s).1
theorem OnLoop.first {js : List Int} {s : Int} (h : OnLoop js s) : firstN js s < (pathR js s).1.length ∧ iterN js (firstN js s) s = (pathR js s).2 := by
  obtain ⟨e1, e2⟩ := first_of js s h.hin
  obtain ⟨q1, q2, q3⟩ := pathR_it js s h.h0 h.h1
  refine ⟨e2, ?_⟩
  rcases idxI_spec (pathR js s).2 (pathR js s).1 0 with ⟨a, -⟩ | ⟨n, a, b, c, -⟩
  · exact absurd h.hin a
  · have : n = firstN js s := by rw [e1] at b; omega
    subst this
    rw [← q1 _ a]; exact c
/-- Behind the loop's begin all comes again. -/
theorem OnLoop.per {js : List Int} {s : Int} (h : OnLoop js s) (n : Nat) (hn : firstN js s ≤ n) : iterN js (n + ((pathR js s).1.length - firstN js s)) s = iterN js n s := by
  obtain ⟨a, b⟩ := h.first
  obtain ⟨q1, q2, q3⟩ := pathR_it js s h.h0 h.h1
  rw [show n + ((pathR js s).1.length - firstN js s) = (n - firstN js s) + (pathR js s).1.length from by omega, iterN_add, ← q2, ← b, ← iterN_add, show n - firstN js s + firstN js s = n from by omega]
theorem OnLoop.pers {js : List Int} {s : Int} (h : OnLoop js s) (n q : Nat) (hn : firstN js s ≤ n) : iterN js (n + q * ((pathR js s).1.length - firstN js s)) s = iterN js n s := by
  induction q with
  | zero => simp
  | succ q ih => rw [Nat.succ_mul, ← Nat.add_assoc, h.per _ (Nat.le_trans hn (Nat.le_add_right _ _)), ih]
theorem OnLoop.mod {js : List Int} {s : Int} (h : OnLoop js s) (n : Nat) (hn : firstN js s ≤ n) : iterN js n s = rd (pathR js s).1 ((firstN js s + (n - firstN js s) % ((pathR js s).1.length - firstN js s) : Nat) : Int) := by
  obtain ⟨a, b⟩ := h.first
  obtain ⟨q1, q2, q3⟩ := pathR_it js s h.h0 h.h1
  have hL : 0 < (pathR js s).1.length - firstN js s := by omega
  have hm := Nat.mod_lt (n - firstN js s) hL
  have hd := Nat.div_add_mod (n - firstN js s) ((pathR js s).1.length - firstN js s)
  rw [q1 _ (by omega), ← h.pers (firstN js s + (n - firstN js s) % ((pathR js s).1.length - firstN js s)) ((n - firstN js s) / ((pathR js s).1.length - firstN js s)) (by omega)]
  congr 1
  rw [Nat.mul_comm] at hd
  omega
theorem OnLoop.mem {js : List Int} {s : Int} (h : OnLoop js s) (n : Nat) : iterN js n s ∈ (pathR js s).1 := by
  obtain ⟨a, b⟩ := h.first
  obtain ⟨q1, q2, q3⟩ := pathR_it js s h.h0 h.h1
  by_cases c : n < (pathR js s).1.length
  · rw [← q1 n c, rdget c]; exact List.getElem_mem c
  · have hm := Nat.mod_lt (n - firstN js s) (show 0 < (pathR js s).1.length - firstN js s by omega)
    have hi : firstN js s + (n - firstN js s) % ((pathR js s).1.length - firstN js s) < (pathR js s).1.length := by omega
    rw [h.mod n (by omega), rdget hi]; exact List.getElem_mem hi
/-- Whoever is on the stairs all the time is on his path. -/
theorem iter_mem {js : List Int} {s : Int} (h0 : 0 ≤ s) (h1 : s < js.length) (n : Nat) (hr : ∀ m, m ≤ n → 0 ≤ iterN js m s ∧ iterN js m s < js.length) : iterN js n s ∈ (pathR js s).1 := by
  by_cases hin : (pathR js s).2 ∈ (pathR js s).1
  · exact (OnLoop.mk h0 h1 hin).mem n
  · obtain ⟨q1, q2, q3⟩ := pathR_it js s h0 h1
    by_cases c : n < (pathR js s).1.length
    · rw [← q1 n c, rdget c]; exact List.getElem_mem c
    · have := hr _ (Nat.le_of_not_lt c)
      rw [← q2] at this
      exact absurd (pathR_end js s this.1 this.2) hin

-- block lHas
theorem lHas_l0 (x : Int) (l : List Int) (hl : l.length ≤ 1048576) (d : Nat) : ∀ (k i : Nat), i + d = l.length → d < k → laws_lHas.l0 k x l l.length i = some (decide (x ∈ l.drop i)) := by
  induction d with
  | zero =>
    intro k i hd hk
    obtain ⟨k, rfl⟩ : ∃ m, k = m + 1 := ⟨k - 1, by omega⟩
    simp only [laws_lHas.l0]; rw [if_neg (by omega), List.drop_eq_nil_of_le (by omega)]; simp
  | succ d ih =>
    intro k i hd hk
    obtain ⟨k, rfl⟩ : ∃ m, k = m + 1 := ⟨k - 1, by omega⟩
    simp only [laws_lHas.l0]
    have h : i < l.length := by omega
    have e : rd l i = l[i] := by simp [rd, List.getD_eq_getElem?_getD, List.getElem?_eq_getElem h]
    rw [if_pos (by omega), if_pos (by omega), if_pos (by omega), e, List.drop_eq_getElem_cons h]
    by_cases g : l[i] = x
    · rw [if_pos g]; congr 1; rw [eq_comm, decide_eq_true_eq, g]; simp
    · rw [if_neg g, w64 (by omega), show (i : Int) + 1 = ((i + 1 : Nat) : Int) from rfl, ih k (i + 1) (by omega) (by omega)]
      congr 1; rw [decide_eq_decide, List.mem_cons]
      exact ⟨fun z => .inr z, fun z => z.resolve_left (fun y => g y.symm)⟩
theorem lHas_eq {k : Nat} {l : List Int} (x : Int) (hl : l.length ≤ 1048576) (hk : l.length < k) : laws_lHas.f k l x = some (decide (x ∈ l)) := by
  unfold laws_lHas.f
  have := lHas_l0 x l hl l.length k 0 (by omega) hk
  simpa using this
theorem lSame_l0 (l : List Int) (hl : l.length ≤ 1000000000) (d : Nat) : ∀ (k i : Nat), i + d = l.length → d < k → laws_lSame.l0 k l l l.length i = some true := by
  induction d with
  | zero =>
    intro k i hd hk
    obtain ⟨k, rfl⟩ : ∃ m, k = m + 1 := ⟨k - 1, by omega⟩
    simp only [laws_lSame.l0]; rw [if_neg (by omega)]
  | succ d ih =>
    intro k i hd hk
    obtain ⟨k, rfl⟩ : ∃ m, k = m + 1 := ⟨k - 1, by omega⟩
    simp only [laws_lSame.l0]
    rw [if_pos (by omega), if_pos (by omega), if_pos (by omega), if_pos (by omega), if_pos trivial, w64 (by omega)]
    exact ih k (i + 1) (by omega) (by omega)
theorem lSame_self {k : Nat} {l : List Int} (hl : l.length ≤ 1000000000) (hk : l.length < k) : laws_lSame.f k l l = some true := by
  unfold laws_lSame.f
  rw [if_pos rfl, show (0 : Int) = ((0 : Nat) : Int) from rfl, lSame_l0 l hl l.length k 0 (by omega) hk]

-- block meetEq
theorem meet_on (js : List Int) (hj : jumpsB js = true) (d : Nat) : ∀ (k t : Nat) (a b : Int), t + d = 1801 → 2 * d + 10 < k → (∀ m, goodP js (iterN js m a) (iterN js m b)) → impl_BallsMeet.l0 k js a b t = some (0, 0, false) := by
  have hl := (jumpsB_true hj).1
  induction d with
  | zero =>
    intro k t a b ht hk _
    obtain ⟨k, rfl⟩ : ∃ m, k = m + 1 := ⟨k - 1, by omega⟩
    simp only [impl_BallsMeet.l0]; rw [if_neg (by omega)]
  | succ d ih =>
    intro k t a b ht hk hg
    obtain ⟨k, rfl⟩ : ∃ m, k = m + 1 + 1 := ⟨k - 2, by omega⟩
    have g0 := hg 0
    have g1 := hg 1
    simp only [iterN] at g0 g1
    unfold goodP at g0 g1
    simp only [impl_BallsMeet.l0]
    rw [if_pos (by omega), next_eq hj g0.1.1 g0.1.2, next_eq hj g0.2.1.1 g0.2.1.2, Option.bind_some, Option.bind_some, isOut_eq js _ (by omega), isOut_eq js _ (by omega), Option.bind_some, if_neg (by simp; omega), Option.bind_some, impl_BallsMeet.j2, if_neg (by simp; omega), if_neg g1.2.2, w64 (by omega)]
    exact ih k (t + 1) _ _ (by omega) (by omega) (fun m => hg (m + 1))
theorem meet_l0 (js : List Int) (hj : jumpsB js = true) (d : Nat) : ∀ (k t : Nat) (a b : Int), t + d = js.length * js.length + 1 → 2 * d + 10 < k → (0 ≤ a ∧ a < js.length) → (0 ≤ b ∧ b < js.length) →
    (∃ r, spec_BallsMeet.l0 k js a b t = some r ∧ impl_BallsMeet.l0 k js a b t = some r) ∨
    ((∀ m, 1 ≤ m → m ≤ d → goodP js (iterN js m a) (iterN js m b)) ∧ spec_BallsMeet.l0 k js a b t = some (0, 0, false)) := by
  have hl := (jumpsB_true hj).1
  have hsq : js.length * js.length ≤ 30 * 30 := Nat.mul_le_mul hl.2 hl.2
  have ew : wrap64 ((js.length : Int) * (js.length : Int)) = ((js.length * js.length : Nat) : Int) := by rw [← Int.natCast_mul, w64 (by omega)]
  induction d with
  | zero =>
    intro k t a b ht hk _ _
    obtain ⟨k, rfl⟩ : ∃ m, k = m + 1 := ⟨k - 1, by omega⟩
    refine .inr ⟨fun m h1 h2 => by omega, ?_⟩
    simp only [spec_BallsMeet.l0]
    rw [ew, if_neg (by omega)]
  | succ d ih =>
    intro k t a b ht hk ha hb
    obtain ⟨k, rfl⟩ : ∃ m, k = m + 1 + 1 := ⟨k - 2, by omega⟩
    have ra := nextI_lo js a
    have rb := nextI_lo js b
    have hs : spec_BallsMeet.l0 (k + 1 + 1) js a b t = if nextI js a < 0 ∨ nextI js b < 0 ∨ nextI js a ≥ js.length ∨ nextI js b ≥ js.length then some (0, 0, false) else if nextI js a = nextI js b then some ((t : Int), nextI js a, true) else spec_BallsMeet.l0 k js (nextI js a) (nextI js b) ((t + 1 : Nat) : Int) := by
      simp only [spec_BallsMeet.l0]
      rw [ew, if_pos (by omega), baNext_eq (by omega) hj ha.1 ha.2, baNext_eq (by omega) hj hb.1 hb.2, Option.bind_some, Option.bind_some]
      have jt : spec_BallsMeet.j2 (k + 1) js (nextI js a) (nextI js b) t true = some (0, 0, false) := by rw [spec_BallsMeet.j2, if_pos rfl]
      by_cases c1 : nextI js a < 0
      · rw [if_pos c1, if_pos (.inl c1), jt]
      · rw [if_neg c1]
        by_cases c2 : nextI js b < 0
        · rw [if_pos c2, if_pos (.inr (.inl c2)), jt]
        · rw [if_neg c2]
          by_cases c3 : nextI js a ≥ js.length
          · rw [if_pos c3, if_pos (.inr (.inr (.inl c3))), jt]
          · rw [if_neg c3]
            by_cases c4 : nextI js b ≥ js.length
            · rw [decide_eq_true c4, if_pos (.inr (.inr (.inr c4))), jt]
            · rw [decide_eq_false c4, if_neg (show ¬ (nextI js a < 0 ∨ nextI js b < 0 ∨ nextI js a ≥ js.length ∨ nextI js b ≥ js.length) by omega), spec_BallsMeet.j2, if_neg (by decide), w64 (by omega)]; rfl
    have hi : impl_BallsMeet.l0 (k + 1 + 1) js a b t = if nextI js a < 0 ∨ nextI js b < 0 ∨ nextI js a ≥ js.length ∨ nextI js b ≥ js.length then some (0, 0, false) else if nextI js a = nextI js b then some ((t : Int), nextI js a, true) else impl_BallsMeet.l0 k js (nextI js a) (nextI js b) ((t + 1 : Nat) : Int) := by
      simp only [impl_BallsMeet.l0]
      rw [if_pos (by omega), next_eq hj ha.1 ha.2, next_eq hj hb.1 hb.2, Option.bind_some, Option.bind_some, isOut_eq js _ (by omega), isOut_eq js _ (by omega), Option.bind_some, Option.bind_some]
      have jt : impl_BallsMeet.j2 (k + 1) js (nextI js a) (nextI js b) t true = some (0, 0, false) := by rw [impl_BallsMeet.j2, if_pos rfl]
      by_cases c1 : 0 ≤ nextI js a ∧ nextI js a ≤ (js.length : Int) - 1
      · rw [decide_eq_true c1, if_neg (by decide)]
        by_cases c2 : 0 ≤ nextI js b ∧ nextI js b ≤ (js.length : Int) - 1
        · rw [decide_eq_true c2, if_neg (show ¬ (nextI js a < 0 ∨ nextI js b < 0 ∨ nextI js a ≥ js.length ∨ nextI js b ≥ js.length) by omega), impl_BallsMeet.j2, if_neg (by decide), w64 (by omega)]; rfl
        · rw [decide_eq_false c2, if_pos (show (nextI js a < 0 ∨ nextI js b < 0 ∨ nextI js a ≥ js.length ∨ nextI js b ≥ js.length) by omega)]; exact jt
      · rw [decide_eq_false c1, if_pos (by decide), if_pos (show (nextI js a < 0 ∨ nextI js b < 0 ∨ nextI js a ≥ js.length ∨ nextI js b ≥ js.length) by omega), jt]
    by_cases c : nextI js a < 0 ∨ nextI js b < 0 ∨ nextI js a ≥ js.length ∨ nextI js b ≥ js.length
    · exact .inl ⟨_, by rw [hs, if_pos c], by rw [hi, if_pos c]⟩
    · by_cases c2 : nextI js a = nextI js b
      · exact .inl ⟨_, by rw [hs, if_neg c, if_pos c2], by rw [hi, if_neg c, if_pos c2]⟩
      · rw [hs, hi, if_neg c, if_neg c2, if_neg c, if_neg c2]
        rcases ih k (t + 1) (nextI js a) (nextI js b) (by omega) (by omega) (by omega) (by omega) with h | ⟨h1, h2⟩
        · exact .inl h
        · refine .inr ⟨fun m h3 h4 => ?_, h2⟩
          obtain ⟨m, rfl⟩ : ∃ x, m = x + 1 := ⟨m - 1, by omega⟩
          by_cases hm : m = 0
          · subst hm; exact ⟨by show 0 ≤ nextI js a ∧ nextI js a < _; omega, by show 0 ≤ nextI js b ∧ nextI js b < _; omega, c2⟩
          · exact h1 m (by omega) (by omega)
theorem BallsMeet_eq {k : Nat} (hk : 9000 < k) (l : List Int) (hl : l.length ≤ 1048576) (a b : Int) : ∃ r, spec_BallsMeet.f k l a b = some r ∧ impl_BallsMeet.f k l a b = some r := by
  unfold spec_BallsMeet.f impl_BallsMeet.f
  rw [baStep_eq l a hl (by omega), baStep_eq l b hl (by omega), have_two l a b hl (by omega), Option.bind_some, Option.bind_some, Option.bind_some]
  obtain ⟨k, rfl⟩ : ∃ m, k = m + 1 := ⟨k - 1, by omega⟩
  have st : spec_BallsMeet.j0 (k + 1) l a b true = some (0, 0, false) := by rw [spec_BallsMeet.j0, if_pos rfl]
  have it : impl_BallsMeet.j0 (k + 1) l a b true = some (0, 0, false) := by rw [impl_BallsMeet.j0, if_pos rfl]
  by_cases h : onB l a = true
  · by_cases h2 : onB l b = true
    · have g := onB_true h
      have g2 := onB_true h2
      have gl := (jumpsB_true g.1).1
      have hsq : l.length * l.length ≤ 30 * 30 := Nat.mul_le_mul gl.2 gl.2
      rw [if_pos h, if_pos h2, if_pos (by rw [h, h2]; rfl)]
      by_cases e : a = b
      · rw [show (a == b) = true from by simpa using e]; exact ⟨_, st, it⟩
      · rw [show (a == b) = false from by simpa using e, spec_BallsMeet.j0, impl_BallsMeet.j0, if_neg (by decide), if_neg (by decide)]
        rcases meet_l0 l g.1 (l.length * l.length) k 1 a b (by omega) (by omega) (by omega) (by omega) with h3 | ⟨h3, h4⟩
        · exact h3
        · have hall := pairs_again l a b (fun m hm => by
            by_cases hm0 : m = 0
            · subst hm0; exact ⟨by show 0 ≤ a ∧ a < _; omega, by show 0 ≤ b ∧ b < _; omega, e⟩
            · exact h3 m (by omega) hm)
          exact ⟨_, h4, meet_on l g.1 1800 k 1 a b (by omega) (by omega) hall⟩
    · rw [if_pos h, if_neg h2, if_neg (by rw [Bool.and_eq_true]; exact fun z => h2 z.2)]; exact ⟨_, st, it⟩
  · rw [if_neg h, if_neg (by rw [Bool.and_eq_true]; exact fun z => h z.1)]; exact ⟨_, st, it⟩

-- import Derived.Test.YtbbkbooiefoihaaBallsMain
/- Paths go jump by jump, ends are told by what is behind them, loops come again, places after many seconds are those of the loop: the law FnBallsGoOfAll is true, whatever is given. No condition. -/
/-! what the functions answer -/
theorem place_val {k : Nat} (hk : 3000 < k) (l : List Int) (s t : Int) (g : onB l s = true) (ht : 0 ≤ t ∧ t ≤ 1000000000000) : ∃ r, spec_PlaceAfter.f k l s t = some (r, true) ∧ impl_PlaceAfter.f k l s t = some (r, true) ∧
    (t < (pathR l s).1.length → r = rd (pathR l s).1 t) ∧ (((pathR l s).1.length : Int) ≤ t → (pathR l s).2 ∉ (pathR l s).1 → r = (pathR l s).2) ∧
    (((pathR l s).1.length : Int) ≤ t → (pathR l s).2 ∈ (pathR l s).1 → r = iterN l t.toNat s) := by
  have g1 := onB_true g
  have gl := (jumpsB_true g1.1).1
  have hp := pathR_ok l s (by omega) (by omega)
  have hpl := hp.1.len
  unfold spec_PlaceAfter.f impl_PlaceAfter.f
  rw [baStep_eq l s (by omega) (by omega), have_one l s (by omega) (by omega), Option.bind_some, Option.bind_some]
  obtain ⟨k, rfl⟩ : ∃ m, k = m + 1 := ⟨k - 1, by omega⟩
  rw [if_pos g, if_pos g, l1In_eq, within_eq, Option.bind_some, Option.bind_some, spec_PlaceAfter.j0, impl_PlaceAfter.j0]
  rw [if_neg (by simp; omega), if_neg (by simp; omega), impl_path_eq g1.1 (by omega), baPath_eq g1.1 (by omega), Option.bind_some, Option.bind_some]
  by_cases c2 : t < ((pathR l s).1.length : Int)
  · simp only [if_pos c2, if_pos ht.1]; exact ⟨_, rfl, rfl, fun _ => rfl, fun z => by omega, fun z => by omega⟩
  · rw [if_neg c2, if_neg c2, isOut_eq l _ (by omega), Option.bind_some]
    by_cases c3 : 0 ≤ (pathR l s).2 ∧ (pathR l s).2 ≤ (l.length : Int) - 1
    · have hm := pathR_end l s c3.1 (by omega)
      have OL : OnLoop l s := ⟨by omega, by omega, hm⟩
      have hmod := OL.mod t.toNat
      rw [if_neg (by omega), if_neg (by omega), if_neg (by simp; omega), Index_eq _ (by omega) (by omega), baPlace_eq _ (by omega) (by omega), Option.bind_some]
      try rw [Option.bind_some]
      obtain ⟨e1, e2⟩ := first_of l s hm
      rw [e1]
      have hmm : Int.tmod (t - (firstN l s : Int)) ((((pathR l s).1.length : Nat) : Int) - (firstN l s : Int)) = (((t.toNat - firstN l s) % ((pathR l s).1.length - firstN l s) : Nat) : Int) := by
        rw [show t - (firstN l s : Int) = ((t.toNat - firstN l s : Nat) : Int) from by omega, show (((pathR l s).1.length : Nat) : Int) - (firstN l s : Int) = (((pathR l s).1.length - firstN l s : Nat) : Int) from by omega]
        rfl
      have hlt := Nat.mod_lt (t.toNat - firstN l s) (show 0 < (pathR l s).1.length - firstN l s by omega)
      rw [w64 (x := t - (firstN l s : Int)) (by omega), w64 (x := (((pathR l s).1.length : Nat) : Int) - (firstN l s : Int)) (by omega), hmm]
      have hmod2 := hmod (by omega)
      generalize (t.toNat - firstN l s) % ((pathR l s).1.length - firstN l s) = q at *
      rw [w64 (by omega), if_neg (by omega), if_pos (by omega), if_pos (by omega)]
      exact ⟨_, rfl, rfl, fun z => by omega, fun _ z => absurd hm z, fun _ _ => by rw [hmod2, show ((firstN l s + q : Nat) : Int) = (firstN l s : Int) + (q : Int) from by omega]⟩
    · rw [if_pos (show (!decide (0 ≤ (pathR l s).2 ∧ (pathR l s).2 ≤ (l.length : Int) - 1)) = true by simp; omega)]
      have hno : (pathR l s).2 ∉ (pathR l s).1 := fun z => by have := hp.1.range _ z; omega
      by_cases c4 : (pathR l s).2 < 0
      · rw [if_pos c4]; exact ⟨_, rfl, rfl, fun z => by omega, fun _ _ => rfl, fun _ z => absurd z hno⟩
      · rw [if_neg c4, if_pos (by omega)]; exact ⟨_, rfl, rfl, fun z => by omega, fun _ _ => rfl, fun _ z => absurd z hno⟩
theorem place_no {k : Nat} (hk : 3000 < k) (l : List Int) (hl : l.length ≤ 1048576) (s t : Int) (h : ¬ (onB l s = true ∧ 0 ≤ t ∧ t ≤ 1000000000000)) : spec_PlaceAfter.f k l s t = some (0, false) ∧ impl_PlaceAfter.f k l s t = some (0, false) := by
  unfold spec_PlaceAfter.f impl_PlaceAfter.f
  rw [baStep_eq l s hl (by omega), have_one l s hl (by omega), Option.bind_some, Option.bind_some]
  obtain ⟨k, rfl⟩ : ∃ m, k = m + 1 := ⟨k - 1, by omega⟩
  by_cases g : onB l s = true
  · rw [if_pos g, if_pos g, l1In_eq, within_eq, Option.bind_some, Option.bind_some, spec_PlaceAfter.j0, impl_PlaceAfter.j0]
    have c : ¬ (0 ≤ t ∧ t ≤ 1000000000000) := fun z => h ⟨g, z⟩
    rw [if_pos (by simp; omega), if_pos (by simp; omega)]; exact ⟨rfl, rfl⟩
  · rw [if_neg g, if_neg g, spec_PlaceAfter.j0, impl_PlaceAfter.j0, if_pos rfl, if_pos rfl]; exact ⟨rfl, rfl⟩
theorem path_val {k : Nat} (hk : 3000 < k) (l : List Int) (hl : l.length ≤ 1048576) (s : Int) : spec_PathOfBall.f k l s = some (if onB l s = true then (pathR l s).1 else [], onB l s) ∧ impl_PathOfBall.f k l s = some (if onB l s = true then (pathR l s).1 else [], onB l s) := by
  unfold spec_PathOfBall.f impl_PathOfBall.f
  rw [baStep_eq l s hl (by omega), have_one l s hl (by omega), Option.bind_some, Option.bind_some]
  by_cases h : onB l s = true
  · have g := onB_true h
    rw [if_pos h, if_pos h, if_pos h, impl_path_eq g.1 (by omega), baPath_eq g.1 (by omega), h]
    exact ⟨rfl, rfl⟩
  · rw [if_neg h, if_neg h, if_neg h, Bool.eq_false_iff.2 h]; exact ⟨rfl, rfl⟩
theorem end_val {k : Nat} (hk : 3000 < k) (l : List Int) (hl : l.length ≤ 1048576) (s : Int) : ∃ en, spec_EndOfBall.f k l s = some (en, onB l s) ∧ impl_EndOfBall.f k l s = some (en, onB l s) ∧ (onB l s = true → en = endV l s) := by
  unfold spec_EndOfBall.f impl_EndOfBall.f
  rw [baStep_eq l s hl (by omega), have_one l s hl (by omega), Option.bind_some, Option.bind_some]
  by_cases h : onB l s = true
  · have g := onB_true h
    rw [if_pos h, if_pos h, end_eq g.1 (by omega) (by omega) (by omega), baEnd_eq g.1 (by omega), h]
    exact ⟨_, rfl, rfl, fun _ => rfl⟩
  · rw [if_neg h, if_neg h, Bool.eq_false_iff.2 h]; exact ⟨_, rfl, rfl, fun z => by simp at z⟩
theorem next_val {k : Nat} (hk : 3000 < k) (l : List Int) (hl : l.length ≤ 1048576) (s : Int) : ∃ nx, spec_NextPlace.f k l s = some (nx, onB l s) ∧ impl_NextPlace.f k l s = some (nx, onB l s) ∧ (onB l s = true → nx = nextI l s) := by
  unfold spec_NextPlace.f impl_NextPlace.f
  rw [baStep_eq l s (by omega) (by omega), have_one l s (by omega) (by omega), Option.bind_some, Option.bind_some]
  by_cases h : onB l s = true
  · have g := onB_true h
    rw [if_pos h, if_pos h, next_eq g.1 (by omega) (by omega), baNext_eq (by omega) g.1 (by omega) (by omega), h]
    exact ⟨_, rfl, rfl, fun _ => rfl⟩
  · rw [if_neg h, if_neg h, Bool.eq_false_iff.2 h]; exact ⟨_, rfl, rfl, fun z => by simp at z⟩
/-- The loop and the time to it: of a step on the stairs whose ball comes to a loop. -/
theorem loop_val {k : Nat} (hk : 1200000 < k) (l : List Int) (s : Int) (g : onB l s = true) (c : (pathR l s).2 ∈ (pathR l s).1) : ∃ m, isLeast (loopL l s) m ∧
    spec_LoopOfBall.f k l s = some ((loopL l s).drop m ++ (loopL l s).take m, true) ∧ impl_LoopOfBall.f k l s = some ((loopL l s).drop m ++ (loopL l s).take m, true) ∧
    spec_TimeToLoop.f k l s = some ((firstN l s : Int), true) ∧ impl_TimeToLoop.f k l s = some ((firstN l s : Int), true) := by
  have g1 := onB_true g
  have gl := (jumpsB_true g1.1).1
  have hp := (pathR_ok l s (by omega) (by omega)).1.len
  have hin := loop_in (js := l) (s := s) (by omega) (by omega)
  obtain ⟨m, m1, m2⟩ := baLoop_eq (k := k) g1.1 (by omega) (by omega) (by omega) c
  obtain ⟨e1, e2⟩ := first_of l s c
  have hlen : (loopL l s).length = (pathR l s).1.length - firstN l s := List.length_drop
  obtain ⟨n, n1, n2⟩ := fromLeast_eq (k := k) (by omega) (loopL l s) (by omega) (by omega)
  have e := isLeast_one m1 n1
  subst e
  refine ⟨m, m1, ?_, ?_, ?_, ?_⟩
  · unfold spec_LoopOfBall.f
    rw [baStep_eq l s (by omega) (by omega), Option.bind_some, if_pos g, baEnd_eq g1.1 (by omega), Option.bind_some, if_pos ((endV_l l s).2 (hin.1 c)), m2, Option.bind_some]
  · unfold impl_LoopOfBall.f
    rw [have_one l s (by omega) (by omega), Option.bind_some, if_pos g, loop_eq g1.1 (by omega) (by omega) (by omega), Option.bind_some, if_pos c]
    show (if ((loopL l s).length : Int) = 0 then _ else (impl_fromLeast.f k (loopL l s)).bind _) = _
    rw [if_neg (by omega), n2, Option.bind_some]
  · unfold spec_TimeToLoop.f
    rw [baStep_eq l s (by omega) (by omega), Option.bind_some, if_pos g, baEnd_eq g1.1 (by omega), Option.bind_some, if_pos ((endV_l l s).2 (hin.1 c)), m2, Option.bind_some]
  · unfold impl_TimeToLoop.f
    rw [have_one l s (by omega) (by omega), Option.bind_some, if_pos g, loop_eq g1.1 (by omega) (by omega) (by omega), Option.bind_some, if_pos c]
    show some ((firstN l s : Int), decide (((loopL l s).length : Int) > 0)) = _
    rw [decide_eq_true (by omega)]
theorem loop_none {k : Nat} (hk : 1200000 < k) (l : List Int) (hl : l.length ≤ 1048576) (s : Int) (h : ¬ (onB l s = true ∧ (pathR l s).2 ∈ (pathR l s).1)) : ∃ Lp un,
    spec_LoopOfBall.f k l s = some (Lp, false) ∧ impl_LoopOfBall.f k l s = some (Lp, false) ∧ spec_TimeToLoop.f k l s = some (un, false) ∧ impl_TimeToLoop.f k l s = some (un, false) ∧ Lp.length ≤ 100 := by
  by_cases g : onB l s = true
  · have g1 := onB_true g
    have gl := (jumpsB_true g1.1).1
    have c : (pathR l s).2 ∉ (pathR l s).1 := fun z => h ⟨g, z⟩
    have hin := loop_in (js := l) (s := s) (by omega) (by omega)
    have hno : ¬ (endV l s).toList = [108] := fun z => c (hin.2 ((endV_l l s).1 z))
    refine ⟨[], 0, ?_, ?_, ?_, ?_, by simp⟩
    · unfold spec_LoopOfBall.f
      rw [baStep_eq l s hl (by omega), Option.bind_some, if_pos g, baEnd_eq g1.1 (by omega), Option.bind_some, if_neg hno]
    · unfold impl_LoopOfBall.f
      rw [have_one l s hl (by omega), Option.bind_some, if_pos g, loop_eq g1.1 (by omega) (by omega) (by omega), Option.bind_some, if_neg c]; rfl
    · unfold spec_TimeToLoop.f
      rw [baStep_eq l s hl (by omega), Option.bind_some, if_pos g, baEnd_eq g1.1 (by omega), Option.bind_some, if_neg hno]
    · unfold impl_TimeToLoop.f
      rw [have_one l s hl (by omega), Option.bind_some, if_pos g, loop_eq g1.1 (by omega) (by omega) (by omega), Option.bind_some, if_neg c]; rfl
  · refine ⟨[], 0, ?_, ?_, ?_, ?_, by simp⟩
    · unfold spec_LoopOfBall.f; rw [baStep_eq l s hl (by omega), Option.bind_some, if_neg g]
    · unfold impl_LoopOfBall.f; rw [have_one l s hl (by omega), Option.bind_some, if_neg g]
    · unfold spec_TimeToLoop.f; rw [baStep_eq l s hl (by omega), Option.bind_some, if_neg g]
    · unfold impl_TimeToLoop.f; rw [have_one l s hl (by omega), Option.bind_some, if_neg g]
/-! the first half -/
theorem rd_mem {l : List Int} {i : Int} (h0 : 0 ≤ i) (h1 : i < l.length) : rd l i ∈ l := by
  obtain ⟨n, rfl⟩ := Int.eq_ofNat_of_zero_le h0
  have h : n < l.length := by omega
  rw [show rd l (n : Int) = l[n] from rdget h]; exact List.getElem_mem h
theorem mem_rd {l : List Int} {x : Int} (h : x ∈ l) : ∃ n : Nat, n < l.length ∧ rd l (n : Int) = x := by
  obtain ⟨n, h1, h2⟩ := List.mem_iff_getElem.1 h
  exact ⟨n, h1, by rw [rdget h1]; exact h2⟩
theorem rot_rd (y : List Int) (m i : Nat) (hm : m < y.length) (hi : i < y.length) : rd (y.drop m ++ y.take m) (i : Int) = rd y (((m + i) % y.length : Nat) : Int) := by
  unfold rd
  rw [List.getD_eq_getElem?_getD, List.getD_eq_getElem?_getD, Int.toNat_natCast, Int.toNat_natCast]
  by_cases c : m + i < y.length
  · rw [List.getElem?_append_left (by rw [List.length_drop]; omega), List.getElem?_drop, Nat.mod_eq_of_lt c]
  · rw [List.getElem?_append_right (by rw [List.length_drop]; omega), List.length_drop, List.getElem?_take, if_pos (by omega)]
    have : (m + i) % y.length = m + i - y.length := by rw [Nat.mod_eq_sub_mod (by omega), Nat.mod_eq_of_lt (by omega)]
    rw [this]; congr 2; omega
theorem Ball_ok (l : List Int) (hl : l.length ≤ 10000) (s tm : Int) : ∃ pl ok P one en Lp five un nx, Ball 2000000 l s tm pl ok P one en Lp five un nx ∧
    impl_PlaceAfter.f 2000000 l s tm = some (pl, ok) ∧ spec_PlaceAfter.f 2000000 l s tm = some (pl, ok) ∧ impl_PathOfBall.f 2000000 l s = some (P, one) ∧ spec_PathOfBall.f 2000000 l s = some (P, one) ∧
    impl_EndOfBall.f 2000000 l s = some (en, one) ∧ spec_EndOfBall.f 2000000 l s = some (en, one) ∧ impl_LoopOfBall.f 2000000 l s = some (Lp, five) ∧ spec_LoopOfBall.f 2000000 l s = some (Lp, five) ∧
    impl_TimeToLoop.f 2000000 l s = some (un, five) ∧ spec_TimeToLoop.f 2000000 l s = some (un, five) ∧ impl_NextPlace.f 2000000 l s = some (nx, one) ∧ spec_NextPlace.f 2000000 l s = some (nx, one) ∧ P.length ≤ 100 ∧ Lp.length ≤ 100 := by
  obtain ⟨p1, p2⟩ := path_val (k := 2000000) (by omega) l (by omega) s
  obtain ⟨en, en1, en2, en3⟩ := end_val (k := 2000000) (by omega) l (by omega) s
  obtain ⟨nx, nx1, nx2, nx3⟩ := next_val (k := 2000000) (by omega) l (by omega) s
  by_cases g : onB l s = true
  · have g1 := onB_true g
    have gl := (jumpsB_true g1.1).1
    have hP := pathR_ok l s (by omega) (by omega)
    have hpl := hP.1.len
    obtain ⟨q1, q2, q3⟩ := pathR_it l s (by omega) (by omega)
    have een := en3 g
    have enx := nx3 g
    subst een
    rw [g] at en1 en2 nx1 nx2
    rw [if_pos g, g] at p1 p2
    have hin := loop_in (js := l) (s := s) (by omega) (by omega)
    have hlast : iterN l (pathR l s).1.length s = nextI l (rd (pathR l s).1 (((pathR l s).1.length - 1 : Nat) : Int)) := by
      rw [q1 _ (by omega), ← iterN_succ, show (pathR l s).1.length - 1 + 1 = (pathR l s).1.length from by omega]
    have wl : wrap64 (((pathR l s).1.length : Int) - 1) = (((pathR l s).1.length - 1 : Nat) : Int) := by rw [w64 (by omega)]; omega
    have rng : ∀ i : Int, 0 ≤ i → i < (pathR l s).1.length → 0 ≤ rd (pathR l s).1 i ∧ rd (pathR l s).1 i < l.length := fun i h0 h1 => hP.1.range _ (rd_mem h0 h1)
    have bnd : ∀ x : Int, 0 ≤ x → x < l.length → -30 ≤ rd l x ∧ rd l x ≤ 30 := fun x h0 h1 => rd_bound g1.1 h0 h1
    have rl := rng (((pathR l s).1.length - 1 : Nat) : Int) (by omega) (by omega)
    have bl := bnd _ rl.1 rl.2
    -- what is behind the last step
    have hv : wrap64 (rd (pathR l s).1 (((pathR l s).1.length - 1 : Nat) : Int) + rd l (rd (pathR l s).1 (((pathR l s).1.length - 1 : Nat) : Int))) = rd (pathR l s).1 (((pathR l s).1.length - 1 : Nat) : Int) + rd l (rd (pathR l s).1 (((pathR l s).1.length - 1 : Nat) : Int)) := w64 (by omega)
    have hneg := nextI_neg (js := l) (rd (pathR l s).1 (((pathR l s).1.length - 1 : Nat) : Int)) gl.1
    have hbig := nextI_big (js := l) (rd (pathR l s).1 (((pathR l s).1.length - 1 : Nat) : Int)) gl.1
    rw [← hlast, ← q2] at hneg hbig
    -- a step behind another
    have hstep : ∀ n : Nat, n + 1 < (pathR l s).1.length → rd (pathR l s).1 ((n + 1 : Nat) : Int) = wrap64 (rd (pathR l s).1 (n : Int) + rd l (rd (pathR l s).1 (n : Int))) := by
      intro n hn
      have a := rng ((n + 1 : Nat) : Int) (by omega) (by omega)
      have b := rng (n : Int) (by omega) (by omega)
      have c := bnd _ b.1 b.2
      have e : rd (pathR l s).1 ((n + 1 : Nat) : Int) = nextI l (rd (pathR l s).1 (n : Int)) := by rw [q1 _ hn, q1 _ (by omega), iterN_succ]
      rw [e] at a ⊢
      rw [w64 (by omega), nextI_in a.1 a.2]
    have hnext : ∀ i : Int, 0 < i → i < (pathR l s).1.length → rd (pathR l s).1 i = wrap64 (rd (pathR l s).1 (wrap64 (i - 1)) + rd l (rd (pathR l s).1 (wrap64 (i - 1)))) := by
      intro i h0 h1
      obtain ⟨n, rfl⟩ : ∃ n : Nat, i = ((n + 1 : Nat) : Int) := ⟨i.toNat - 1, by omega⟩
      have e : wrap64 (((n + 1 : Nat) : Int) - 1) = (n : Int) := by rw [w64 (by omega)]; omega
      rw [e]; exact hstep n (by omega)
    have hnew : ∀ i : Int, 0 ≤ i → i < (pathR l s).1.length → laws_lHas.f 2000000 ((pathR l s).1.take i.toNat) (rd (pathR l s).1 i) = some false := by
      intro i h0 h1
      obtain ⟨n, rfl⟩ := Int.eq_ofNat_of_zero_le h0
      rw [lHas_eq _ (by rw [List.length_take]; omega) (by rw [List.length_take]; omega)]
      congr 1
      rw [decide_eq_false_iff_not]
      intro hmem
      obtain ⟨j, j1, j2⟩ := mem_rd hmem
      rw [List.length_take, Int.toNat_natCast] at j1
      have e : rd ((pathR l s).1.take (n : Int).toNat) (j : Int) = rd (pathR l s).1 (j : Int) := by
        unfold rd; rw [List.getD_eq_getElem?_getD, List.getD_eq_getElem?_getD, Int.toNat_natCast, Int.toNat_natCast, List.getElem?_take, if_pos (by omega)]
      rw [e] at j2
      have := nodup_rd hP.1.nodup (i := j) (j := n) (by omega) (by omega) j2
      omega
    have b97 : (⟨#[97]⟩ : ByteArray).toList = [97] := by decide +kernel
    have b98 : (⟨#[98]⟩ : ByteArray).toList = [98] := by decide +kernel
    have b108 : (⟨#[108]⟩ : ByteArray).toList = [108] := by decide +kernel
    have hkind : (endV l s).toList = [97] ∨ (endV l s).toList = [98] ∨ (endV l s).toList = [108] := by
      unfold endV; split
      · exact .inl b97
      · split
        · exact .inr (.inl b98)
        · exact .inr (.inr b108)
    have hA : ((endV l s).toList == [97]) = decide ((pathR l s).2 < 0) := by
      unfold endV; split
      · rename_i z; rw [decide_eq_true z, b97]; rfl
      · rename_i z; rw [decide_eq_false z]; split
        · rw [b98]; rfl
        · rw [b108]; rfl
    have hB : ((endV l s).toList == [98]) = decide ((pathR l s).2 ≥ (l.length : Int)) := by
      unfold endV; split
      · rename_i z; rw [decide_eq_false (by omega), b97]; rfl
      · split
        · rename_i z; rw [decide_eq_true z, b98]; rfl
        · rename_i z; rw [decide_eq_false z, b108]; rfl
    have hLl := endV_l l s
    have p11 : (pathR l s).1.length = 1 → (endV l s).toList = [108] → nextI l s = s := by
      intro h1 h2
      have hm := hin.2 (hLl.1 h2)
      have e : (pathR l s).2 = nextI l s := by rw [q2, h1]; rfl
      obtain ⟨j, j1, j2⟩ := mem_rd hm
      have j0 : j = 0 := by omega
      subst j0
      have z := q1 0 q3
      have z2 : iterN l 0 s = s := rfl
      rw [z2] at z
      rw [z] at j2
      rw [← e, ← j2]
    -- the place
    have hpl2 : ∃ pl ok, spec_PlaceAfter.f 2000000 l s tm = some (pl, ok) ∧ impl_PlaceAfter.f 2000000 l s tm = some (pl, ok) ∧ (ok = true → (0 ≤ tm ∧ tm ≤ 1000000000000) ∧
        (tm < (pathR l s).1.length → pl = rd (pathR l s).1 tm) ∧ (((pathR l s).1.length : Int) ≤ tm → (pathR l s).2 ∉ (pathR l s).1 → pl = (pathR l s).2) ∧ (((pathR l s).1.length : Int) ≤ tm → (pathR l s).2 ∈ (pathR l s).1 → pl = iterN l tm.toNat s)) := by
      by_cases c : 0 ≤ tm ∧ tm ≤ 1000000000000
      · obtain ⟨r, r1, r2, r3, r4, r5⟩ := place_val (k := 2000000) (by omega) l s tm g c
        exact ⟨r, true, r1, r2, fun _ => ⟨c, r3, r4, r5⟩⟩
      · obtain ⟨r1, r2⟩ := place_no (k := 2000000) (by omega) l (by omega) s tm (fun z => c z.2)
        exact ⟨0, false, r1, r2, fun z => by simp at z⟩
    obtain ⟨pl, ok, pl1, pl2, pl3⟩ := hpl2
    subst enx
    by_cases hin2 : (pathR l s).2 ∈ (pathR l s).1
    · -- the ball comes to a loop
      have OL : OnLoop l s := ⟨by omega, by omega, hin2⟩
      obtain ⟨f1, f2⟩ := OL.first
      have h108 := hLl.2 (hin.1 hin2)
      obtain ⟨m, m1, lv1, lv2, lv3, lv4⟩ := loop_val (k := 2000000) (by omega) l s g hin2
      have hlen : (loopL l s).length = (pathR l s).1.length - firstN l s := List.length_drop
      have hrot : ((loopL l s).drop m ++ (loopL l s).take m).length = (loopL l s).length := by have := m1.1; rw [List.length_append, List.length_drop, List.length_take]; omega
      have hml := m1.1
      have lrd : ∀ j : Nat, j < (loopL l s).length → rd (loopL l s) (j : Int) = iterN l (firstN l s + j) s := by
        intro j hj
        unfold loopL
        rw [rd_drop, q1 _ (by omega)]
      have rrd : ∀ j : Nat, j < (loopL l s).length → rd ((loopL l s).drop m ++ (loopL l s).take m) (j : Int) = iterN l (firstN l s + m + j) s := by
        intro j hj
        have hq := Nat.mod_lt (m + j) (show 0 < (loopL l s).length by omega)
        rw [rot_rd _ _ _ hml hj, lrd _ hq]
        have hd := Nat.div_add_mod (m + j) (loopL l s).length
        rw [← OL.pers (firstN l s + (m + j) % (loopL l s).length) ((m + j) / (loopL l s).length) (by omega), ← hlen]
        congr 1
        rw [Nat.mul_comm] at hd; omega
      have inP : ∀ n : Nat, 0 ≤ iterN l n s ∧ iterN l n s < l.length := fun n => hP.1.range _ (OL.mem n)
      have inL : ∀ n : Nat, firstN l s ≤ n → iterN l n s ∈ (loopL l s).drop m ++ (loopL l s).take m := by
        intro n hn
        have hL : 0 < (loopL l s).length := by omega
        have hq := Nat.mod_lt (n - firstN l s) hL
        have hmod := OL.mod n hn
        have : iterN l n s ∈ loopL l s := by
          rw [hmod, ← hlen]
          have e := rd_drop (pathR l s).1 (firstN l s) ((n - firstN l s) % (loopL l s).length)
          rw [← e]
          exact rd_mem (l := loopL l s) (by omega) (by omega)
        rw [List.mem_append]
        have z : loopL l s = (loopL l s).take m ++ (loopL l s).drop m := (List.take_append_drop _ _).symm
        rw [z, List.mem_append] at this
        exact this.symm
      refine ⟨pl, ok, (pathR l s).1, true, endV l s, _, true, (firstN l s : Int), nextI l s, ?_, pl2, pl1, p2, p1, en2, en1, lv2, lv1, lv4, lv3, nx2, nx1, by omega, by omega⟩
      have hbeh : wrap64 (rd (pathR l s).1 (((pathR l s).1.length - 1 : Nat) : Int) + rd l (rd (pathR l s).1 (((pathR l s).1.length - 1 : Nat) : Int))) = rd (pathR l s).1 (firstN l s : Int) := by
        have a := hin.1 hin2
        rw [hv, q1 _ f1, f2]
        rw [q2, hlast] at a ⊢
        exact nextI_in a.1 a.2
      exact {
        short := hl
        five_eq := by rw [h108]; rfl
        okone := fun _ => rfl
        kind := fun _ => hkind
        plen := fun _ => ⟨q3, hpl⟩
        p0 := fun _ => q1 0 q3
        prng := fun _ => rng
        pnext := fun _ => hnext
        pnew := fun _ => hnew
        endA := fun _ => by rw [wl, hv, hA]; exact decide_eq_decide.2 hneg
        endB := fun _ => by rw [wl, hv, hB]; exact decide_eq_decide.2 hbig
        p1 := fun _ h => q1 1 h
        p11 := fun _ => p11
        lpos := fun _ => ⟨by omega, by omega, by omega, by omega, by rw [hrot, w64 (by omega)]; omega⟩
        lbeh := fun _ => by rw [wl]; exact hbeh
        lhas := fun _ => by
          rw [lHas_eq _ (by omega) (by omega), q1 _ f1]; congr 1; exact decide_eq_true (inL _ (Nat.le_refl _))
        lrng := fun _ i h0 h1 => by
          obtain ⟨n, rfl⟩ := Int.eq_ofNat_of_zero_le h0
          rw [rrd n (by omega)]; exact inP _
        lleast := fun _ i h0 h1 => by
          obtain ⟨n, rfl⟩ := Int.eq_ofNat_of_zero_le h0
          have a := rot_rd (loopL l s) m n hml (by omega)
          have b := rot_rd (loopL l s) m 0 hml (by omega)
          rw [Nat.add_zero, Nat.mod_eq_of_lt hml] at b
          rw [show (0 : Int) = ((0 : Nat) : Int) from rfl, a, b]
          exact m1.2.1 _ (Nat.mod_lt _ (by omega))
        lnext := fun _ i h0 h1 => by
          obtain ⟨n, rfl⟩ := Int.eq_ofNat_of_zero_le h0
          rw [hrot] at h1 ⊢
          have e : Int.tmod (wrap64 ((n : Int) + 1)) ((loopL l s).length : Int) = (((n + 1) % (loopL l s).length : Nat) : Int) := by rw [w64 (by omega)]; rfl
          have hq := Nat.mod_lt (n + 1) (show 0 < (loopL l s).length by omega)
          rw [e]
          refine ⟨by omega, by omega, ?_⟩
          rw [rrd _ hq, rrd n (by omega)]
          have e2 : iterN l (firstN l s + m + (n + 1) % (loopL l s).length) s = iterN l (firstN l s + m + n + 1) s := by
            have hd := Nat.div_add_mod (n + 1) (loopL l s).length
            rw [← OL.pers (firstN l s + m + (n + 1) % (loopL l s).length) ((n + 1) / (loopL l s).length) (by omega), ← hlen]
            congr 1
            rw [Nat.mul_comm] at hd; omega
          have a := inP (firstN l s + m + n + 1)
          have b := inP (firstN l s + m + n)
          have c := bnd _ b.1 b.2
          rw [e2]
          rw [iterN_succ] at a ⊢
          rw [w64 (by omega), nextI_in a.1 a.2]
        lin := fun _ i h0 h1 => by
          obtain ⟨n, rfl⟩ := Int.eq_ofNat_of_zero_le h0
          rw [lHas_eq _ (by omega) (by omega), rrd n (by omega)]; congr 1; exact decide_eq_true (OL.mem _)
        tm0 := fun h => (pl3 h).1.1
        early := fun h => (pl3 h).2.1
        lateA := fun h _ h97 => by rw [h108] at h97; simp at h97
        lateB := fun h _ h98 => by rw [h108] at h98; simp at h98
        lateL := fun h h1 _ => by
          rw [(pl3 h).2.2.2 h1 hin2, lHas_eq _ (by omega) (by omega)]; congr 1; exact decide_eq_true (inL _ (by omega))
        again := fun h _ h1 h2 => by
          have t := (pl3 h).1
          rw [hrot] at h2 ⊢
          rw [w64 (by omega)] at h2 ⊢
          obtain ⟨r, r1, r2, r3, r4, r5⟩ := place_val (k := 2000000) (by omega) l s (tm + ((loopL l s).length : Int)) g (by omega)
          rw [r2]
          have e1 := r5 (by omega) hin2
          have e2 : pl = iterN l tm.toNat s := by
            by_cases c : tm < (pathR l s).1.length
            · rw [(pl3 h).2.1 c]
              have z := q1 tm.toNat (by omega)
              rw [show ((tm.toNat : Nat) : Int) = tm from by omega] at z; exact z
            · exact (pl3 h).2.2.2 (by omega) hin2
          have e3 := OL.per tm.toNat (by omega)
          rw [e1, e2, show (tm + ((loopL l s).length : Int)).toNat = tm.toNat + ((pathR l s).1.length - firstN l s) from by omega, e3] }
    · -- the ball is out at last
      obtain ⟨Lp, un, lv1, lv2, lv3, lv4, lv5⟩ := loop_none (k := 2000000) (by omega) l (by omega) s (fun z => hin2 z.2)
      have h108 : ¬ (endV l s).toList = [108] := fun z => hin2 (hin.2 (hLl.1 z))
      refine ⟨pl, ok, (pathR l s).1, true, endV l s, Lp, false, un, nextI l s, ?_, pl2, pl1, p2, p1, en2, en1, lv2, lv1, lv4, lv3, nx2, nx1, by omega, lv5⟩
      exact {
        short := hl
        five_eq := by rw [Bool.true_and]; exact (beq_eq_false_iff_ne.2 h108).symm
        okone := fun _ => rfl
        kind := fun _ => hkind
        plen := fun _ => ⟨q3, hpl⟩
        p0 := fun _ => q1 0 q3
        prng := fun _ => rng
        pnext := fun _ => hnext
        pnew := fun _ => hnew
        endA := fun _ => by rw [wl, hv, hA]; exact decide_eq_decide.2 hneg
        endB := fun _ => by rw [wl, hv, hB]; exact decide_eq_decide.2 hbig
        p1 := fun _ h => q1 1 h
        p11 := fun _ => p11
        lpos := fun z => by simp at z
        lbeh := fun z => by simp at z
        lhas := fun z => by simp at z
        lrng := fun z => by simp at z
        lleast := fun z => by simp at z
        lnext := fun z => by simp at z
        lin := fun z => by simp at z
        tm0 := fun h => (pl3 h).1.1
        early := fun h => (pl3 h).2.1
        lateA := fun h h1 h97 => by
          have a := (pl3 h).2.2.1 h1 hin2
          have z := hA
          rw [h97] at z
          have z2 : (pathR l s).2 < 0 := of_decide_eq_true z.symm
          have := hP.2.1
          rw [a]; omega
        lateB := fun h h1 h98 => by
          have a := (pl3 h).2.2.1 h1 hin2
          have z := hB
          rw [h98] at z
          have z2 : (pathR l s).2 ≥ (l.length : Int) := of_decide_eq_true z.symm
          have := hP.2.2
          rw [a]; omega
        lateL := fun _ _ z => absurd z h108
        again := fun _ z => absurd z h108 }
  · obtain ⟨Lp, un, lv1, lv2, lv3, lv4, lv5⟩ := loop_none (k := 2000000) (by omega) l (by omega) s (fun z => g z.1)
    obtain ⟨r1, r2⟩ := place_no (k := 2000000) (by omega) l (by omega) s tm (fun z => g z.1)
    have gf := Bool.eq_false_iff.2 g
    rw [gf] at en1 en2 nx1 nx2
    rw [if_neg g, gf] at p1 p2
    refine ⟨0, false, [], false, en, Lp, false, un, nx, ?_, r2, r1, p2, p1, en2, en1, lv2, lv1, lv4, lv3, nx2, nx1, by simp, lv5⟩
    constructor <;> first | exact hl | rfl | (intro z; simp at z; done)
/-! the second half -/
/-- Two balls, second by second, for at most d seconds. -/
def meetF (js : List Int) : Nat → Nat → Int → Int → Int × Int × Bool
  | 0, _, _, _ => (0, 0, false)
  | d + 1, t, a, b => if nextI js a < 0 ∨ nextI js b < 0 ∨ nextI js a ≥ js.length ∨ nextI js b ≥ js.length then (0, 0, false) else if nextI js a = nextI js b then ((t : Int), nextI js a, true) else meetF js d (t + 1) (nextI js a) (nextI js b)
theorem meetF_sym (js : List Int) (d : Nat) : ∀ t a b, meetF js d t a b = meetF js d t b a := by
  induction d with
  | zero => intro t a b; rfl
  | succ d ih =>
    intro t a b
    unfold meetF
    by_cases c : nextI js a < 0 ∨ nextI js b < 0 ∨ nextI js a ≥ js.length ∨ nextI js b ≥ js.length
    · rw [if_pos c, if_pos (show nextI js b < 0 ∨ nextI js a < 0 ∨ nextI js b ≥ js.length ∨ nextI js a ≥ js.length by omega)]
    · rw [if_neg c, if_neg (show ¬ (nextI js b < 0 ∨ nextI js a < 0 ∨ nextI js b ≥ js.length ∨ nextI js a ≥ js.length) by omega)]
      by_cases e : nextI js a = nextI js b
      · rw [if_pos e, if_pos e.symm, e]
      · rw [if_neg e, if_neg (fun z => e z.symm)]; exact ih _ _ _
theorem meetF_true (js : List Int) (d : Nat) : ∀ t a b wn wh, meetF js d t a b = (wn, wh, true) → ∃ m : Nat, 1 ≤ m ∧ m ≤ d ∧ wn = (t : Int) + m - 1 ∧ iterN js m a = wh ∧ iterN js m b = wh ∧
    (∀ j, 1 ≤ j → j ≤ m → (0 ≤ iterN js j a ∧ iterN js j a < js.length) ∧ (0 ≤ iterN js j b ∧ iterN js j b < js.length)) ∧ ∀ j, 1 ≤ j → j < m → iterN js j a ≠ iterN js j b := by
  induction d with
  | zero => intro t a b wn wh h; simp [meetF] at h
  | succ d ih =>
    intro t a b wn wh h
    unfold meetF at h
    by_cases c : nextI js a < 0 ∨ nextI js b < 0 ∨ nextI js a ≥ js.length ∨ nextI js b ≥ js.length
    · rw [if_pos c] at h; simp at h
    · rw [if_neg c] at h
      by_cases e : nextI js a = nextI js b
      · rw [if_pos e] at h
        simp only [Prod.mk.injEq, and_true] at h
        refine ⟨1, by omega, by omega, by omega, h.2, by rw [← h.2]; exact e.symm, fun j h1 h2 => ?_, fun j h1 h2 => by omega⟩
        have : j = 1 := by omega
        subst this
        exact ⟨⟨by show 0 ≤ nextI js a; omega, by show nextI js a < _; omega⟩, ⟨by show 0 ≤ nextI js b; omega, by show nextI js b < _; omega⟩⟩
      · rw [if_neg e] at h
        obtain ⟨m, m1, m2, m3, m4, m5, m6, m7⟩ := ih _ _ _ _ _ h
        refine ⟨m + 1, by omega, by omega, by omega, m4, m5, fun j h1 h2 => ?_, fun j h1 h2 => ?_⟩
        · by_cases hj : j = 1
          · subst hj; exact ⟨⟨by show 0 ≤ nextI js a; omega, by show nextI js a < _; omega⟩, ⟨by show 0 ≤ nextI js b; omega, by show nextI js b < _; omega⟩⟩
          · obtain ⟨j, rfl⟩ : ∃ x, j = x + 1 := ⟨j - 1, by omega⟩
            exact m6 j (by omega) (by omega)
        · by_cases hj : j = 1
          · subst hj; exact e
          · obtain ⟨j, rfl⟩ : ∃ x, j = x + 1 := ⟨j - 1, by omega⟩
            exact m7 j (by omega) (by omega)
theorem meetI_l0 (js : List Int) (hj : jumpsB js = true) (d : Nat) : ∀ (k t : Nat) (a b : Int), t + d = 1801 → 2 * d + 10 < k → (0 ≤ a ∧ a < js.length) → (0 ≤ b ∧ b < js.length) → impl_BallsMeet.l0 k js a b t = some (meetF js d t a b) := by
  have hl := (jumpsB_true hj).1
  induction d with
  | zero =>
    intro k t a b ht hk _ _
    obtain ⟨k, rfl⟩ : ∃ m, k = m + 1 := ⟨k - 1, by omega⟩
    simp only [impl_BallsMeet.l0, meetF]; rw [if_neg (by omega)]
  | succ d ih =>
    intro k t a b ht hk ha hb
    obtain ⟨k, rfl⟩ : ∃ m, k = m + 1 + 1 := ⟨k - 2, by omega⟩
    simp only [impl_BallsMeet.l0, meetF]
    rw [if_pos (by omega), next_eq hj ha.1 ha.2, next_eq hj hb.1 hb.2, Option.bind_some, Option.bind_some, isOut_eq js _ (by omega), isOut_eq js _ (by omega), Option.bind_some, Option.bind_some]
    have jt : impl_BallsMeet.j2 (k + 1) js (nextI js a) (nextI js b) t true = some (0, 0, false) := by rw [impl_BallsMeet.j2, if_pos rfl]
    by_cases c1 : 0 ≤ nextI js a ∧ nextI js a ≤ (js.length : Int) - 1
    · rw [decide_eq_true c1, if_neg (by decide)]
      by_cases c2 : 0 ≤ nextI js b ∧ nextI js b ≤ (js.length : Int) - 1
      · rw [decide_eq_true c2, if_neg (show ¬ (nextI js a < 0 ∨ nextI js b < 0 ∨ nextI js a ≥ js.length ∨ nextI js b ≥ js.length) by omega), impl_BallsMeet.j2, if_neg (by decide), w64 (by omega)]
        by_cases e : nextI js a = nextI js b
        · rw [if_pos e, if_pos e]
        · rw [if_neg e, if_neg e]; exact ih k (t + 1) _ _ (by omega) (by omega) (by omega) (by omega)
      · rw [decide_eq_false c2, if_pos (show (nextI js a < 0 ∨ nextI js b < 0 ∨ nextI js a ≥ js.length ∨ nextI js b ≥ js.length) by omega)]; exact jt
    · rw [decide_eq_false c1, if_pos (by decide), if_pos (show (nextI js a < 0 ∨ nextI js b < 0 ∨ nextI js a ≥ js.length ∨ nextI js b ≥ js.length) by omega), jt]
theorem meet_val {k : Nat} (hk : 9000 < k) (l : List Int) (hl : l.length ≤ 1048576) (a b : Int) : impl_BallsMeet.f k l a b = some (if onB l a = true ∧ onB l b = true ∧ a ≠ b then meetF l 1800 1 a b else (0, 0, false)) := by
  unfold impl_BallsMeet.f
  rw [have_two l a b hl (by omega), Option.bind_some]
  obtain ⟨k, rfl⟩ : ∃ m, k = m + 1 := ⟨k - 1, by omega⟩
  have it : impl_BallsMeet.j0 (k + 1) l a b true = some (0, 0, false) := by rw [impl_BallsMeet.j0, if_pos rfl]
  by_cases h : onB l a = true
  · by_cases h2 : onB l b = true
    · have g := onB_true h
      have g2 := onB_true h2
      rw [if_pos (by rw [h, h2]; rfl)]
      by_cases e : a = b
      · rw [show (a == b) = true from by simpa using e, it, if_neg (fun z => z.2.2 e)]
      · rw [show (a == b) = false from by simpa using e, impl_BallsMeet.j0, if_neg (by decide), if_pos ⟨h, h2, e⟩]
        exact meetI_l0 l g.1 1800 k 1 a b (by omega) (by omega) (by omega) (by omega)
    · rw [if_neg (by rw [Bool.and_eq_true]; exact fun z => h2 z.2), it, if_neg (fun z => h2 z.2.1)]
  · rw [if_neg (by rw [Bool.and_eq_true]; exact fun z => h z.1), it, if_neg (fun z => h z.1)]
/-- The place of a ball that is on the stairs all the time till then. -/
theorem place_it {k : Nat} (hk : 3000 < k) (l : List Int) (s : Int) (g : onB l s = true) (n : Nat) (hn : n ≤ 2000) (hr : ∀ j, j ≤ n → 0 ≤ iterN l j s ∧ iterN l j s < l.length) : impl_PlaceAfter.f k l s (n : Int) = some (iterN l n s, true) := by
  have g1 := onB_true g
  have gl := (jumpsB_true g1.1).1
  obtain ⟨q1, q2, q3⟩ := pathR_it l s (by omega) (by omega)
  obtain ⟨r, r1, r2, r3, r4, r5⟩ := place_val hk l s (n : Int) g (by omega)
  rw [r2]
  by_cases c : n < (pathR l s).1.length
  · rw [r3 (by omega), q1 n c]
  · by_cases hin : (pathR l s).2 ∈ (pathR l s).1
    · rw [r5 (by omega) hin, Int.toNat_natCast]
    · have := hr _ (Nat.le_of_not_lt c)
      rw [← q2] at this
      exact absurd (pathR_end l s this.1 this.2) hin
theorem same_l0 (q p : List Int) (hq : q.length ≤ 1000) (hp : p.length ≤ 1000) (d : Nat) : ∀ (k i : Nat), i + d = p.length → d + 1000 < k →
    ∃ r, spec_FirstSame.l0 k q p p.length i = some r ∧ impl_FirstSame.l0 k q p p.length i = some r ∧ (r.2 = true → ∃ n : Nat, i ≤ n ∧ n < p.length ∧ rd p (n : Int) = r.1 ∧ r.1 ∈ q ∧ ∀ m : Nat, i ≤ m → m < n → rd p (m : Int) ∉ q) ∧ (r.2 ≠ true → ∀ m : Nat, i ≤ m → m < p.length → rd p (m : Int) ∉ q) := by
  induction d with
  | zero =>
    intro k i hd hk
    obtain ⟨k, rfl⟩ : ∃ m, k = m + 1 := ⟨k - 1, by omega⟩
    simp only [spec_FirstSame.l0, impl_FirstSame.l0]
    exact ⟨_, by rw [if_neg (by omega)], by rw [if_neg (by omega)], fun z => by simp at z, fun _ m h1 h2 => by omega⟩
  | succ d ih =>
    intro k i hd hk
    obtain ⟨k, rfl⟩ : ∃ m, k = m + 1 := ⟨k - 1, by omega⟩
    simp only [spec_FirstSame.l0, impl_FirstSame.l0]
    rw [l1Has_eq _ (by omega) (by omega), Contains_eq _ (by omega) (by omega), Option.bind_some, Option.bind_some]
    by_cases h : rd p i ∈ q
    · have h' : decide (rd p i ∈ q) = true := decide_eq_true h
      exact ⟨(rd p i, true), by rw [if_pos (by omega), if_pos (by omega), if_pos (by omega), if_pos h'], by rw [if_pos (by omega), if_pos (by omega), if_pos (by omega), if_pos h'], fun _ => ⟨i, by omega, by omega, rfl, h, fun m h1 h2 => by omega⟩, fun z => absurd rfl z⟩
    · have h' : ¬ decide (rd p i ∈ q) = true := by simpa using h
      obtain ⟨r, h1, h2, h3, h4⟩ := ih k (i + 1) (by omega) (by omega)
      refine ⟨r, ?_, ?_, fun z => ?_, fun z m a b => ?_⟩
      · rw [if_pos (by omega), if_pos (by omega), if_pos (by omega), if_neg h', w64 (by omega)]; exact h1
      · rw [if_pos (by omega), if_pos (by omega), if_pos (by omega), if_neg h', w64 (by omega)]; exact h2
      · obtain ⟨n, n1, n2, n3, n4, n5⟩ := h3 z
        refine ⟨n, by omega, n2, n3, n4, fun m a b => ?_⟩
        by_cases e : m = i
        · subst e; exact h
        · exact n5 m (by omega) b
      · by_cases e : m = i
        · subst e; exact h
        · exact h4 z m (by omega) b
theorem same_val {k : Nat} (hk : 3000 < k) (l : List Int) (hl : l.length ≤ 1048576) (a b : Int) : ∃ r, spec_FirstSame.f k l a b = some r ∧ impl_FirstSame.f k l a b = some r ∧ (r.2 = true → onB l a = true ∧ onB l b = true ∧ ∃ n : Nat, n < (pathR l a).1.length ∧ rd (pathR l a).1 (n : Int) = r.1 ∧ r.1 ∈ (pathR l b).1 ∧ ∀ m : Nat, m < n → rd (pathR l a).1 (m : Int) ∉ (pathR l b).1) ∧
    (onB l a = true → onB l b = true → r.2 ≠ true → ∀ m : Nat, m < (pathR l a).1.length → rd (pathR l a).1 (m : Int) ∉ (pathR l b).1) := by
  unfold spec_FirstSame.f impl_FirstSame.f
  rw [baStep_eq l a hl (by omega), baStep_eq l b hl (by omega), have_two l a b hl (by omega), Option.bind_some, Option.bind_some, Option.bind_some]
  obtain ⟨k, rfl⟩ : ∃ m, k = m + 1 := ⟨k - 1, by omega⟩
  by_cases h : onB l a = true
  · by_cases h2 : onB l b = true
    · have g := onB_true h
      have g2 := onB_true h2
      have gl := (jumpsB_true g.1).1
      have e1 := (pathR_ok l a (by omega) (by omega)).1.len
      have e2 := (pathR_ok l b (by omega) (by omega)).1.len
      rw [if_pos h, if_pos (by rw [h, h2]; rfl), spec_FirstSame.j0, if_neg (by rw [h2]; decide), impl_path_eq g.1 (by omega), impl_path_eq g.1 (by omega), baPath_eq g.1 (by omega), baPath_eq g.1 (by omega), Option.bind_some, Option.bind_some, Option.bind_some, Option.bind_some]
      obtain ⟨r, r1, r2, r3, r4⟩ := same_l0 (pathR l b).1 (pathR l a).1 (by omega) (by omega) (pathR l a).1.length k 0 (by omega) (by omega)
      refine ⟨r, r1, impl_FirstSame.mono_l k _ _ _ _ _ r2, fun z => ?_, fun _ _ z m hm => r4 z m (by omega) hm⟩
      obtain ⟨n, _, n2, n3, n4, n5⟩ := r3 z
      exact ⟨h, h2, n, n2, n3, n4, fun m hm => n5 m (by omega) hm⟩
    · rw [if_pos h, if_neg (by rw [Bool.and_eq_true]; exact fun z => h2 z.2), spec_FirstSame.j0, if_pos (by simpa using h2)]; exact ⟨_, rfl, rfl, fun z => by simp at z, fun _ z => absurd z h2⟩
  · rw [if_neg h, if_neg (by rw [Bool.and_eq_true]; exact fun z => h z.1), spec_FirstSame.j0, if_pos rfl]; exact ⟨_, rfl, rfl, fun z => by simp at z, fun z => absurd z h⟩
theorem Two_ok (l : List Int) (hl : l.length ≤ 10000) (a b : Int) : ∃ wn wh me sm th Pa Pb u v, Two 2000000 l a b wn wh me sm th Pa Pb u v ∧
    impl_BallsMeet.f 2000000 l a b = some (wn, wh, me) ∧ spec_BallsMeet.f 2000000 l a b = some (wn, wh, me) ∧ impl_FirstSame.f 2000000 l a b = some (sm, th) ∧ spec_FirstSame.f 2000000 l a b = some (sm, th) := by
  obtain ⟨⟨wn, wh, me⟩, b1, b2⟩ := BallsMeet_eq (k := 2000000) (by omega) l (by omega) a b
  obtain ⟨⟨sm, th⟩, s1, s2, s3, s4⟩ := same_val (k := 2000000) (by omega) l (by omega) a b
  have mv := meet_val (k := 2000000) (by omega) l (by omega) a b
  have mw := meet_val (k := 2000000) (by omega) l (by omega) b a
  obtain ⟨-, pa⟩ := path_val (k := 2000000) (by omega) l (by omega) a
  obtain ⟨-, pb⟩ := path_val (k := 2000000) (by omega) l (by omega) b
  have len : ∀ s, onB l s = true → (pathR l s).1.length ≤ 30 := by
    intro s g
    have g1 := onB_true g
    have gl := (jumpsB_true g1.1).1
    have := (pathR_ok l s (by omega) (by omega)).1.len
    omega
  have hlen : (if onB l a = true then (pathR l a).1 else []).length ≤ 1000 := by
    by_cases g : onB l a = true
    · rw [if_pos g]; have := len a g; omega
    · rw [if_neg g]; simp
  refine ⟨wn, wh, me, sm, th, if onB l a = true then (pathR l a).1 else [], if onB l b = true then (pathR l b).1 else [], iterN l (wn.toNat - 1) a, iterN l (wn.toNat - 1) b, ?_, b2, b1, s2, s1⟩
  have hth : ∀ z : th = true, onB l a = true ∧ onB l b = true ∧ ∃ n : Nat, n < (pathR l a).1.length ∧ rd (pathR l a).1 (n : Int) = sm ∧ sm ∈ (pathR l b).1 ∧ ∀ m : Nat, m < n → rd (pathR l a).1 (m : Int) ∉ (pathR l b).1 := s3
  -- what a meeting says
  have hme : me = true → onB l a = true ∧ onB l b = true ∧ a ≠ b ∧ ∃ m : Nat, 1 ≤ m ∧ m ≤ 1800 ∧ wn = (m : Int) ∧ iterN l m a = wh ∧ iterN l m b = wh ∧
      (∀ j, j ≤ m → (0 ≤ iterN l j a ∧ iterN l j a < l.length) ∧ (0 ≤ iterN l j b ∧ iterN l j b < l.length)) ∧ (∀ j, j < m → iterN l j a ≠ iterN l j b) ∧ meetF l 1800 1 a b = (wn, wh, true) := by
    intro z
    subst z
    rw [b2] at mv
    by_cases c : onB l a = true ∧ onB l b = true ∧ a ≠ b
    · rw [if_pos c] at mv
      have e := (Option.some.inj mv).symm
      obtain ⟨m, m1, m2, m3, m4, m5, m6, m7⟩ := meetF_true l 1800 1 a b wn wh e
      have ga := onB_true c.1
      have gb := onB_true c.2.1
      refine ⟨c.1, c.2.1, c.2.2, m, m1, m2, by omega, m4, m5, fun j hj => ?_, fun j hj => ?_, e⟩
      · by_cases j0 : j = 0
        · subst j0; exact ⟨⟨by show 0 ≤ a; omega, by show a < _; omega⟩, ⟨by show 0 ≤ b; omega, by show b < _; omega⟩⟩
        · exact m6 j (by omega) hj
      · by_cases j0 : j = 0
        · subst j0; exact c.2.2
        · exact m7 j (by omega) hj
    · rw [if_neg c] at mv; simp at mv
  exact {
    short := hl
    meth := fun z => by
      obtain ⟨ga, gb, -, m, m1, m2, m3, m4, m5, m6, -, -⟩ := hme z
      have g1 := onB_true ga
      have g2 := onB_true gb
      have ia := iter_mem (js := l) (s := a) (by omega) (by omega) m (fun j hj => (m6 j hj).1)
      have ib := iter_mem (js := l) (s := b) (by omega) (by omega) m (fun j hj => (m6 j hj).2)
      cases th with
      | true => rfl
      | false =>
        obtain ⟨n, n1, n2⟩ := mem_rd ia
        exact absurd (by rw [n2, m4, ← m5]; exact ib) (s4 ga gb (by simp) n n1)
    wn1 := fun z => by obtain ⟨-, -, -, m, m1, m2, m3, -⟩ := hme z; omega
    x1 := fun z => by
      obtain ⟨ga, gb, -, m, m1, m2, m3, m4, m5, m6, -, -⟩ := hme z
      rw [m3, ← m4]; exact place_it (by omega) l a ga m (by omega) (fun j hj => (m6 j hj).1)
    y1 := fun z => by
      obtain ⟨ga, gb, -, m, m1, m2, m3, m4, m5, m6, -, -⟩ := hme z
      rw [m3, ← m5]; exact place_it (by omega) l b gb m (by omega) (fun j hj => (m6 j hj).2)
    u1 := fun z => by
      obtain ⟨ga, gb, -, m, m1, m2, m3, m4, m5, m6, -, -⟩ := hme z
      have e : wrap64 (wn - 1) = ((m - 1 : Nat) : Int) := by rw [w64 (by omega)]; omega
      rw [e, show wn.toNat - 1 = m - 1 from by omega]
      exact place_it (by omega) l a ga (m - 1) (by omega) (fun j hj => (m6 j (by omega)).1)
    v1 := fun z => by
      obtain ⟨ga, gb, -, m, m1, m2, m3, m4, m5, m6, -, -⟩ := hme z
      have e : wrap64 (wn - 1) = ((m - 1 : Nat) : Int) := by rw [w64 (by omega)]; omega
      rw [e, show wn.toNat - 1 = m - 1 from by omega]
      exact place_it (by omega) l b gb (m - 1) (by omega) (fun j hj => (m6 j (by omega)).2)
    uv := fun z => by
      obtain ⟨ga, gb, -, m, m1, m2, m3, m4, m5, m6, m7, -⟩ := hme z
      rw [show wn.toNat - 1 = m - 1 from by omega]
      exact m7 _ (by omega)
    back := fun z => by
      obtain ⟨ga, gb, ne, m, m1, m2, m3, m4, m5, m6, m7, e⟩ := hme z
      rw [mw, if_pos ⟨gb, ga, fun y => ne y.symm⟩, meetF_sym, e]
    pa := fun z => by
      obtain ⟨ga, -, -⟩ := hth z
      rw [pa, ga]
    pb := fun z => by
      obtain ⟨-, gb, -⟩ := hth z
      rw [pb, gb]
    sin := fun z => by
      obtain ⟨-, gb, n, n1, n2, n3, n4⟩ := hth z
      have := len b gb
      rw [if_pos gb, lHas_eq _ (by omega) (by omega)]; congr 1; exact decide_eq_true n3
    pas := hlen
    first := fun z => by
      obtain ⟨ga, gb, n, n1, n2, n3, n4⟩ := hth z
      have := len b gb
      rw [if_pos ga, if_pos gb]
      refine ⟨n, n1, n2, fun m hm => ⟨fun y => n4 m hm (by rw [y]; exact n3), ?_⟩⟩
      rw [lHas_eq _ (by omega) (by omega)]; congr 1; exact decide_eq_false (n4 m hm) }
theorem FnBallsGoOfAll (a0 : Option Addr) (len0 cap0 : Nat) (z0 : List Int) (a1 a2 : Int) (a3 : Option Addr) (len3 cap3 : Nat) (z3 : List Int) (a4 a5 : Int) (w : World) (w0 : (a0 = none ∧ len0 = 0 ∧ cap0 = 0 ∧ z0 = []) ∨ ∃ x, a0 = some x ∧ len0 ≤ cap0 ∧ cap0 ≤ maxLen ∧ z0.length = cap0 ∧ (∀ i, i < z0.length → w.cell? (x.add i) = some (.int .i64 (z0.getD i 0))) ∧ ∀ n ∈ z0, (Lit.int .i64 n).wf = true) (y0 : len0 * 8 ≤ 140737488351232) (w1 : (Lit.int .i64 a1).wf = true) (w2 : (Lit.int .i64 a2).wf = true) (w3 : (a3 = none ∧ len3 = 0 ∧ cap3 = 0 ∧ z3 = []) ∨ ∃ x, a3 = some x ∧ len3 ≤ cap3 ∧ cap3 ≤ maxLen ∧ z3.length = cap3 ∧ (∀ i, i < z3.length → w.cell? (x.add i) = some (.int .i64 (z3.getD i 0))) ∧ ∀ n ∈ z3, (Lit.int .i64 n).wf = true) (y3 : len3 * 8 ≤ 140737488351232) (w4 : (Lit.int .i64 a4).wf = true) (w5 : (Lit.int .i64 a5).wf = true) :
    Calls Try.prog 4 #[.slice a0 len0 cap0, .int .i64 a1, .int .i64 a2, .slice a3 len3 cap3, .int .i64 a4, .int .i64 a5] w fun e w' => e = .returned (.bool true) ∧ Below w.heap.size w w' := by
  obtain ⟨l0, rfl, hr0, hm0, hw0, hc0⟩ := ReadsInt.ofRowC w0
  obtain ⟨l3, rfl, hr3, hm3, hw3, hc3⟩ := ReadsInt.ofRowC w3
  have h0 := Kd.C_of_reads (d := (0 : Int)) (h1 := fun _ => rfl) hr0
  have h3 := Kd.C_of_reads (d := (0 : Int)) (h1 := fun _ => rfl) hr3
  by_cases hs : (l0.length : Int) > 10000 ∨ (l3.length : Int) > 10000
  · exact balls_long _ _ l0 a1 a2 _ _ l3 a4 a5 w hs
  · obtain ⟨pl, ok, P, one, en, Lp, five, un, nx, F, f1, f2, f3, f4, f5, f6, f7, f8, f9, f10, f11, f12, f13, f14⟩ := Ball_ok l0 (by omega) a1 a2
    obtain ⟨wn, wh, me, sm, th, Pa, Pb, u, v, G, g1, g2, g3, g4⟩ := Two_ok l3 (by omega) a4 a5
    exact balls_walk 2000000 _ _ l0 a1 a2 _ _ l3 a4 a5 w pl ok P one en Lp five un nx wn wh me sm th Pa Pb u v h0 hc0 h3 hc3 ⟨F⟩ ⟨G⟩ ⟨f1⟩ ⟨f2⟩ ⟨f3⟩ ⟨f4⟩ ⟨f5⟩ ⟨f6⟩ ⟨f7⟩ ⟨f8⟩ ⟨f9⟩ ⟨f10⟩ ⟨f11⟩ ⟨f12⟩ ⟨lSame_self (by omega) (by omega)⟩ ⟨lSame_self (by omega) (by omega)⟩ ⟨g1⟩ ⟨g2⟩ ⟨g3⟩ ⟨g4⟩

end Go.Proofs.Ytbbkbooiefoihaa.Pure
