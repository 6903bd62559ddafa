/- The program's LoopOfBall returns what the reference's returns, for all arguments. No condition. -/
import Derived.Test.YtlajnkdokmbpeaaPFnExactLoopOfBallx6
namespace Go.Proofs.Ytlajnkdokmbpeaa.Pure
open Go.RowKit Go.Proofs.Ytlajnkdokmbpeaa.PFnExactLoopOfBall Go.Proofs.YtlajnkdokmbpeaaW.PrintWords Go.Proofs.YtlajnkdokmbpeaaW.PrintLast Go.Proofs.YtlajnkdokmbpeaaW.PrintMore
set_option linter.unusedVariables false
set_option linter.unusedSimpArgs false

-- block l1In
theorem l1In_eq (a b c : Int) : spec_l1In.f a b c = some (decide (b ≤ a ∧ a ≤ c)) := by
  unfold spec_l1In.f
  by_cases h : a ≥ b
  · rw [if_pos h]; simp [show b ≤ a from h]
  · rw [if_neg h]; simp [show ¬ b ≤ a from h]

-- block w64
theorem w64 {x : Int} (h : -9223372036854775808 ≤ x ∧ x ≤ 9223372036854775807) : wrap64 x = x := by
  unfold wrap64; omega

-- block l1All
theorem l1All_l0 (lo hi : Int) (l : List Int) (hl : l.length ≤ 1000000000) (d : Nat) : ∀ (k i : Nat), i + d = l.length → d < k → spec_l1All.l0 k lo hi l l.length i = some ((l.drop i).all fun n => decide (lo ≤ n ∧ n ≤ hi)) := by
  induction d with
  | zero =>
    intro k i hd hk
    obtain ⟨k, rfl⟩ : ∃ m, k = m + 1 := ⟨k - 1, by omega⟩
    simp only [spec_l1All.l0]; rw [if_neg (by omega), List.drop_eq_nil_of_le (by omega)]; rfl
  | succ d ih =>
    intro k i hd hk
    obtain ⟨k, rfl⟩ : ∃ m, k = m + 1 := ⟨k - 1, by omega⟩
    simp only [spec_l1All.l0]
    have h : i < l.length := by omega
    have e : rd l i = l[i] := by simp [rd, List.getD_eq_getElem?_getD, List.getElem?_eq_getElem h]
    rw [if_pos (by omega), if_pos (by omega), if_pos (by omega), l1In_eq, Option.bind_some, List.drop_eq_getElem_cons h, e, List.all_cons]
    by_cases g : lo ≤ l[i] ∧ l[i] ≤ hi
    · rw [if_pos (decide_eq_true g), w64 (by omega), decide_eq_true g, Bool.true_and]
      exact ih k (i + 1) (by omega) (by omega)
    · rw [if_neg (by simpa using g), decide_eq_false g, Bool.false_and]
theorem l1All_eq {k : Nat} {l : List Int} (lo hi : Int) (hl : l.length ≤ 1000000000) (hk : l.length < k) : spec_l1All.f k l lo hi = some (l.all fun n => decide (lo ≤ n ∧ n ≤ hi)) := by
  unfold spec_l1All.f
  exact l1All_l0 lo hi l hl l.length k 0 (by omega) (by omega)

-- block within
theorem within_eq (a b c : Int) : impl_within.f a b c = some (decide (b ≤ a ∧ a ≤ c)) := by
  unfold impl_within.f
  by_cases h : b ≤ a
  · rw [if_pos h]; simp [h]
  · rw [if_neg h]; simp [h]

-- block hofAny
theorem hofAny_eq (q : Int → Option Bool) (p : Int → Bool) (h : ∀ n, q n = some (p n)) (l : List Int) : hofAny q l = some (l.any p) := by
  induction l with
  | nil => rfl
  | cons x xs ih =>
    unfold hofAny
    rw [h x, Option.bind_some, ih]
    cases hp : p x
    · rw [if_neg (by decide)]; simp [hp]
    · rw [if_pos rfl]; simp [hp]

-- block jumps
def jumpsB (l : List Int) : Bool := decide (1 ≤ l.length ∧ l.length ≤ 30) && l.all fun n => decide (-30 ≤ n ∧ n ≤ 30)
theorem AreJumps_eq (l : List Int) : impl_AreJumps.f l = some (jumpsB l) := by
  unfold impl_AreJumps.f jumpsB
  have hc : ∀ n, impl_AreJumps_1.f n = some (!decide (-30 ≤ n ∧ n ≤ 30)) := fun n => by unfold impl_AreJumps_1.f; rw [within_eq]; rfl
  have hh := hofAny_eq _ _ hc l
  rw [within_eq, Option.bind_some]
  by_cases h : 1 ≤ l.length ∧ l.length ≤ 30
  · rw [if_pos (by simp; omega), decide_eq_true h, Bool.true_and]
    simp only [slices_ContainsFunc_int_int.f, Array.size_empty, and_self, if_true]
    simp [hh, List.not_any_eq_all_not]
  · rw [if_neg (by simp; omega), decide_eq_false h, Bool.false_and]
theorem baGood_eq {k : Nat} {l : List Int} (hk : 30 < k) : spec_baGood.f k l = some (jumpsB l) := by
  unfold spec_baGood.f jumpsB
  rw [l1In_eq, Option.bind_some]
  by_cases h : 1 ≤ l.length ∧ l.length ≤ 30
  · rw [if_pos (by simp; omega), l1All_eq _ _ (by omega) (by omega), decide_eq_true h, Bool.true_and, Option.bind_some]
  · rw [if_neg (by simp; omega), decide_eq_false h, Bool.false_and]
theorem jumpsB_true {l : List Int} (h : jumpsB l = true) : (1 ≤ l.length ∧ l.length ≤ 30) ∧ ∀ x ∈ l, -30 ≤ x ∧ x ≤ 30 := by
  unfold jumpsB at h
  rw [Bool.and_eq_true, decide_eq_true_eq, List.all_eq_true] at h
  exact ⟨h.1, fun x hx => by simpa using h.2 x hx⟩

-- block haveSteps
theorem haveSteps_l0 (js l : List Int) (hj : js.length ≤ 1048576) (hl : l.length ≤ 100) (d : Nat) : ∀ (k i : Nat), i + d = l.length → d < k → impl_haveSteps.l0 k js l l.length i = some (((l.drop i).all fun n => decide (0 ≤ n ∧ n ≤ js.length - 1)) && jumpsB js) := by
  induction d with
  | zero =>
    intro k i hd hk
    obtain ⟨k, rfl⟩ : ∃ m, k = m + 1 := ⟨k - 1, by omega⟩
    simp only [impl_haveSteps.l0]; rw [if_neg (by omega), List.drop_eq_nil_of_le (by omega), AreJumps_eq]; simp
  | succ d ih =>
    intro k i hd hk
    obtain ⟨k, rfl⟩ : ∃ m, k = m + 1 := ⟨k - 1, by omega⟩
    simp only [impl_haveSteps.l0]
    have h : i < l.length := by omega
    have e : rd l i = l[i] := by simp [rd, List.getD_eq_getElem?_getD, List.getElem?_eq_getElem h]
    rw [if_pos (by omega), if_pos (by omega), if_pos (by omega), within_eq, Option.bind_some, w64 (x := (js.length : Int) - 1) (by omega), List.drop_eq_getElem_cons h, e, List.all_cons]
    by_cases g : 0 ≤ l[i] ∧ l[i] ≤ (js.length : Int) - 1
    · rw [if_pos (decide_eq_true g), w64 (by omega), decide_eq_true g, Bool.true_and]
      exact ih k (i + 1) (by omega) (by omega)
    · rw [if_neg (by simpa using g), decide_eq_false g, Bool.false_and, Bool.false_and]
def onB (js : List Int) (s : Int) : Bool := jumpsB js && decide (0 ≤ s ∧ s ≤ js.length - 1)
theorem onB_true {js : List Int} {s : Int} (h : onB js s = true) : jumpsB js = true ∧ (0 ≤ s ∧ s ≤ js.length - 1) := by
  unfold onB at h; rw [Bool.and_eq_true, decide_eq_true_eq] at h; exact h
theorem have_one {k : Nat} (js : List Int) (s : Int) (hj : js.length ≤ 1048576) (hk : 100 < k) : impl_haveSteps.f k js [s] = some (onB js s) := by
  unfold impl_haveSteps.f onB
  have := haveSteps_l0 js [s] hj (by simp) 1 k 0 (by simp) (by omega)
  rw [show ((0 : Nat) : Int) = 0 from rfl] at this
  rw [this, Bool.and_comm]; simp
theorem have_two {k : Nat} (js : List Int) (s t : Int) (hj : js.length ≤ 1048576) (hk : 100 < k) : impl_haveSteps.f k js [s, t] = some (onB js s && onB js t) := by
  unfold impl_haveSteps.f onB
  have := haveSteps_l0 js [s, t] hj (by simp) 2 k 0 (by simp) (by omega)
  rw [show ((0 : Nat) : Int) = 0 from rfl] at this
  rw [this]
  cases jumpsB js <;> simp

-- block baStep
theorem baStep_eq {k : Nat} (js : List Int) (s : Int) (hj : js.length ≤ 1048576) (hk : 100 < k) : spec_baStep.f k js s = some (onB js s) := by
  unfold spec_baStep.f onB
  rw [baGood_eq (by omega), Option.bind_some]
  cases jumpsB js
  · simp
  · rw [if_pos rfl, l1In_eq, w64 (by omega)]; simp

-- block mxmn
theorem mx_eq (a b : Int) : mx a b = max a b := by unfold mx; omega
theorem mn_eq (a b : Int) : mn a b = min a b := by unfold mn; omega

-- block next
/-- Where a ball on step s is a second later. -/
def nextI (js : List Int) (s : Int) : Int := max (-1) (min (s + rd js s) js.length)
theorem rd_bound {js : List Int} (h : jumpsB js = true) {s : Int} (h0 : 0 ≤ s) (h1 : s < js.length) : -30 ≤ rd js s ∧ rd js s ≤ 30 := by
  have hj := jumpsB_true h
  have hs : s.toNat < js.length := by omega
  have e : rd js s = js[s.toNat] := by simp [rd, List.getD_eq_getElem?_getD, List.getElem?_eq_getElem hs]
  rw [e]; exact hj.2 _ (List.getElem_mem hs)
theorem next_eq {js : List Int} (h : jumpsB js = true) {s : Int} (h0 : 0 ≤ s) (h1 : s < js.length) : impl_next.f js s = some (nextI js s) := by
  have hj := (jumpsB_true h).1
  have hb := rd_bound h h0 h1
  unfold impl_next.f impl_land.f nextI
  rw [if_pos h0, if_pos h1, Option.bind_some, w64 (by omega), mx_eq, mn_eq]
theorem baNext_eq {k : Nat} {js : List Int} (hk : 1 < k) (h : jumpsB js = true) {s : Int} (h0 : 0 ≤ s) (h1 : s < js.length) : spec_baNext.f k js s = some (nextI js s) := by
  have hj := (jumpsB_true h).1
  have hb := rd_bound h h0 h1
  obtain ⟨k, rfl⟩ : ∃ m, k = m + 1 := ⟨k - 1, by omega⟩
  unfold spec_baNext.f nextI
  rw [if_neg (by omega), decide_eq_false (by omega), spec_baNext.j0, if_neg (by decide), if_pos h0, if_pos h1, w64 (by omega)]
  by_cases c : s + rd js s < 0
  · rw [if_pos c]; congr 1; omega
  · rw [if_neg c]
    by_cases c2 : s + rd js s > js.length
    · rw [if_pos c2]; congr 1; omega
    · rw [if_neg c2]; congr 1; omega
theorem nextI_lo (js : List Int) (s : Int) : -1 ≤ nextI js s ∧ nextI js s ≤ js.length := by unfold nextI; omega

-- block pigeon
theorem pigeon_nat (n : Nat) : ∀ (l : List Nat), l.Nodup → (∀ x ∈ l, x < n) → l.length ≤ n := by
  induction n with
  | zero =>
    intro l _ h
    cases l with
    | nil => simp
    | cons x xs => exact absurd (h x (by simp)) (by omega)
  | succ n ih =>
    intro l hn h
    by_cases hm : n ∈ l
    · have h1 := ih (l.erase n) (hn.erase n) (fun x hx => by
        have h2 := (hn.mem_erase_iff).1 hx
        have h3 := h x h2.2
        have h4 := h2.1
        omega)
      have h2 := List.length_erase_of_mem hm
      omega
    · have := ih l hn (fun x hx => by
        have h3 := h x hx
        by_cases e : x = n
        · subst e; exact absurd hx hm
        · omega)
      omega
theorem pigeon (n : Nat) (l : List Int) (hn : l.Nodup) (h : ∀ x ∈ l, 0 ≤ x ∧ x < n) : l.length ≤ n := by
  have h1 := pigeon_nat n (l.map Int.toNat) (by
    rw [List.Nodup, List.pairwise_map]
    exact hn.imp_of_mem (fun {a b} ha hb hab e => hab (by have := h a ha; have := h b hb; omega)))
    (fun x hx => by
      obtain ⟨y, hy, rfl⟩ := List.mem_map.1 hx
      have := h y hy; omega)
  simpa using h1

-- block isOut
theorem isOut_eq (js : List Int) (s : Int) (hj : js.length ≤ 1048576) : impl_isOut.f js s = some (!decide (0 ≤ s ∧ s ≤ js.length - 1)) := by
  unfold impl_isOut.f
  rw [w64 (by omega), within_eq, Option.bind_some]

-- block idx
/-- Where x is first, counted from i; -1 where it is not. -/
def idxI (x : Int) : List Int → Nat → Int
  | [], _ => -1
  | y :: ys, i => if y = x then (i : Int) else idxI x ys (i + 1)
theorem idxI_spec (x : Int) (l : List Int) : ∀ i : Nat, (x ∉ l ∧ idxI x l i = -1) ∨ (∃ n : Nat, n < l.length ∧ idxI x l i = (i : Int) + n ∧ rd l n = x ∧ ∀ m : Nat, m < n → rd l m ≠ x) := by
  induction l with
  | nil => intro i; exact .inl ⟨by simp, rfl⟩
  | cons y ys ih =>
    intro i
    unfold idxI
    by_cases h : y = x
    · subst h
      exact .inr ⟨0, by simp, by simp, by simp [rd], fun m hm => by omega⟩
    · rw [if_neg h]
      rcases ih (i + 1) with ⟨h1, h2⟩ | ⟨n, h1, h2, h3, h4⟩
      · exact .inl ⟨by simp [h1]; exact fun e => h e.symm, h2⟩
      · refine .inr ⟨n + 1, by simp; omega, by rw [h2]; omega, ?_, ?_⟩
        · simpa [rd] using h3
        · intro m hm
          cases m with
          | zero => simpa [rd] using h
          | succ m => have := h4 m (by omega); simpa [rd] using this
theorem idxI_mem (x : Int) (l : List Int) : decide (idxI x l 0 ≥ 0) = decide (x ∈ l) := by
  rw [decide_eq_decide]
  rcases idxI_spec x l 0 with ⟨h1, h2⟩ | ⟨n, h1, h2, h3, h4⟩
  · rw [h2]; constructor
    · intro h; omega
    · intro h; exact absurd h h1
  · rw [h2]; constructor
    · intro _
      have e : rd l n = l[n] := by simp [rd, List.getD_eq_getElem?_getD, List.getElem?_eq_getElem h1]
      rw [← h3, e]; exact List.getElem_mem h1
    · intro _; omega

-- block contains
theorem Index_l0 (x : Int) (l : List Int) (hl : l.length ≤ 1048576) (d : Nat) : ∀ (k i : Nat), i + d = l.length → d < k → slices_Index_int_int.l0 k l x l.length i = some (idxI x (l.drop i) i) := by
  induction d with
  | zero =>
    intro k i hd hk
    obtain ⟨k, rfl⟩ : ∃ m, k = m + 1 := ⟨k - 1, by omega⟩
    simp only [slices_Index_int_int.l0]; rw [if_neg (by omega), List.drop_eq_nil_of_le (by omega)]; rfl
  | succ d ih =>
    intro k i hd hk
    obtain ⟨k, rfl⟩ : ∃ m, k = m + 1 := ⟨k - 1, by omega⟩
    simp only [slices_Index_int_int.l0]
    have h : i < l.length := by omega
    have e : rd l i = l[i] := by simp [rd, List.getD_eq_getElem?_getD, List.getElem?_eq_getElem h]
    rw [if_pos (by omega), if_pos (by omega), if_pos (by omega), e, List.drop_eq_getElem_cons h, idxI]
    by_cases g : l[i] = x
    · rw [if_pos g, if_pos g.symm]
    · rw [if_neg g, if_neg (fun z => g z.symm), w64 (by omega)]
      exact ih k (i + 1) (by omega) (by omega)
theorem Index_eq {k : Nat} {l : List Int} (x : Int) (hl : l.length ≤ 1048576) (hk : l.length < k) : slices_Index_int_int.f k l x = some (idxI x l 0) := by
  unfold slices_Index_int_int.f
  exact Index_l0 x l hl l.length k 0 (by omega) hk

-- block contains2
theorem Contains_eq {k : Nat} {l : List Int} (x : Int) (hl : l.length ≤ 1048576) (hk : l.length < k) : slices_Contains_int_int.f k l x = some (decide (x ∈ l)) := by
  unfold slices_Contains_int_int.f
  rw [Index_eq x hl hk, Option.bind_some, idxI_mem]

-- block path
/-- A path from s on, behind the steps acc: the steps, and where the ball is behind them. -/
def pathF (js : List Int) : Nat → Int → List Int → List Int × Int
  | 0, s, acc => (acc, s)
  | n + 1, s, acc => if 0 ≤ s ∧ s < js.length ∧ s ∉ acc then pathF js n (nextI js s) (acc ++ [s]) else (acc, s)
def pathR (js : List Int) (s : Int) : List Int × Int := pathF js (js.length + 1) s []
theorem nextI_range (js : List Int) (s : Int) : -1 ≤ nextI js s ∧ nextI js s ≤ js.length := by unfold nextI; omega
/-- What a path is: its steps are of the stairs, none twice. -/
structure PathOk (js : List Int) (acc : List Int) : Prop where
  nodup : acc.Nodup
  range : ∀ x ∈ acc, 0 ≤ x ∧ x < js.length
theorem PathOk.len {js acc : List Int} (h : PathOk js acc) : acc.length ≤ js.length := pigeon _ _ h.nodup h.range
theorem PathOk.nil (js : List Int) : PathOk js [] := ⟨List.nodup_nil, by simp⟩
theorem PathOk.snoc {js acc : List Int} (h : PathOk js acc) {s : Int} (h0 : 0 ≤ s) (h1 : s < js.length) (h2 : s ∉ acc) : PathOk js (acc ++ [s]) :=
  ⟨List.nodup_append.2 ⟨h.nodup, by simp, fun a ha b hb => by simp at hb; subst hb; intro e; subst e; exact h2 ha⟩, fun x hx => by
    rcases List.mem_append.1 hx with hx | hx
    · exact h.range x hx
    · simp at hx; subst hx; exact ⟨h0, h1⟩⟩
theorem impl_path_l0 (js : List Int) (hj : jumpsB js = true) (d : Nat) : ∀ (k : Nat) (s : Int) (acc : List Int), js.length + 1 ≤ acc.length + d → d + 100 < k → PathOk js acc →
    impl_path.l0 k js s acc = some (pathF js d s acc) := by
  have hl := (jumpsB_true hj).1
  induction d with
  | zero =>
    intro k s acc hd hk ha
    have := ha.len
    omega
  | succ d ih =>
    intro k s acc hd hk ha
    have hal := ha.len
    obtain ⟨k, rfl⟩ : ∃ m, k = m + 1 := ⟨k - 1, by omega⟩
    simp only [impl_path.l0, pathF]
    rw [isOut_eq js s (by omega), Option.bind_some]
    by_cases h : 0 ≤ s ∧ s ≤ (js.length : Int) - 1
    · rw [if_neg (by simp; omega), Contains_eq s (by omega) (by omega), Option.bind_some]
      by_cases g : s ∈ acc
      · rw [if_pos (decide_eq_true g), if_neg (fun z => z.2.2 g)]
      · rw [if_neg (by simpa using g), if_pos (by omega), next_eq hj h.1 (by omega), Option.bind_some, if_pos ⟨h.1, by omega, g⟩]
        exact ih k _ _ (by simp; omega) (by omega) (ha.snoc h.1 (by omega) g)
    · rw [if_pos (by simp; omega), if_neg (fun z => h ⟨z.1, by omega⟩)]
theorem impl_path_eq {k : Nat} {js : List Int} (hj : jumpsB js = true) (hk : 1000 < k) (s : Int) : impl_path.f k js s = some (pathR js s) := by
  have hl := (jumpsB_true hj).1
  unfold impl_path.f pathR
  exact impl_path_l0 js hj (js.length + 1) k s [] (by simp) (by omega) (PathOk.nil js)
theorem pathF_ok (js : List Int) (d : Nat) : ∀ (s : Int) (acc : List Int), PathOk js acc → -1 ≤ s → s ≤ js.length → PathOk js (pathF js d s acc).1 ∧ -1 ≤ (pathF js d s acc).2 ∧ (pathF js d s acc).2 ≤ js.length := by
  induction d with
  | zero => intro s acc h h0 h1; exact ⟨h, h0, h1⟩
  | succ d ih =>
    intro s acc h h0 h1
    unfold pathF
    by_cases g : 0 ≤ s ∧ s < js.length ∧ s ∉ acc
    · rw [if_pos g]
      have := nextI_range js s
      exact ih _ _ (h.snoc g.1 g.2.1 g.2.2) this.1 this.2
    · rw [if_neg g]; exact ⟨h, h0, h1⟩
theorem pathF_end (js : List Int) (d : Nat) : ∀ (s : Int) (acc : List Int), js.length + 1 ≤ acc.length + d → PathOk js acc →
    0 ≤ (pathF js d s acc).2 → (pathF js d s acc).2 < js.length → (pathF js d s acc).2 ∈ (pathF js d s acc).1 := by
  induction d with
  | zero => intro s acc hd h; have := h.len; omega
  | succ d ih =>
    intro s acc hd h
    unfold pathF
    by_cases g : 0 ≤ s ∧ s < js.length ∧ s ∉ acc
    · rw [if_pos g]
      exact ih _ _ (by simp; omega) (h.snoc g.1 g.2.1 g.2.2)
    · rw [if_neg g]
      intro h0 h1
      by_cases hm : s ∈ acc
      · exact hm
      · exact absurd ⟨h0, h1, hm⟩ g
theorem pathR_ok (js : List Int) (s : Int) (h0 : -1 ≤ s) (h1 : s ≤ js.length) : PathOk js (pathR js s).1 ∧ -1 ≤ (pathR js s).2 ∧ (pathR js s).2 ≤ js.length := pathF_ok js _ s [] (PathOk.nil js) h0 h1
theorem pathR_end (js : List Int) (s : Int) : 0 ≤ (pathR js s).2 → (pathR js s).2 < js.length → (pathR js s).2 ∈ (pathR js s).1 := pathF_end js _ s [] (by simp) (PathOk.nil js)

-- block ends
/-- The end of a ball that is on step s. -/
def endV (js : List Int) (s : Int) : ByteArray := if (pathR js s).2 < 0 then ⟨#[97]⟩ else if (pathR js s).2 ≥ js.length then ⟨#[98]⟩ else ⟨#[108]⟩
theorem endV_l (js : List Int) (s : Int) : (endV js s).toList = [108] ↔ (0 ≤ (pathR js s).2 ∧ (pathR js s).2 < js.length) := by
  unfold endV
  by_cases c : (pathR js s).2 < 0
  · rw [if_pos c]
    constructor
    · intro h; exact absurd h (by decide +kernel)
    · intro h; omega
  · rw [if_neg c]
    by_cases c2 : (pathR js s).2 ≥ js.length
    · rw [if_pos c2]
      constructor
      · intro h; exact absurd h (by decide +kernel)
      · intro h; omega
    · rw [if_neg c2]
      constructor
      · intro _; omega
      · intro _; decide +kernel

-- block l1Has
theorem l1Has_l0 (x : Int) (l : List Int) (hl : l.length ≤ 1048576) (d : Nat) : ∀ (k i : Nat), i + d = l.length → d < k → spec_l1Has.l0 k x l l.length i = some (decide (x ∈ l.drop i)) := by
  induction d with
  | zero =>
    intro k i hd hk
    obtain ⟨k, rfl⟩ : ∃ m, k = m + 1 := ⟨k - 1, by omega⟩
    simp only [spec_l1Has.l0]; rw [if_neg (by omega), List.drop_eq_nil_of_le (by omega)]; simp
  | succ d ih =>
    intro k i hd hk
    obtain ⟨k, rfl⟩ : ∃ m, k = m + 1 := ⟨k - 1, by omega⟩
    simp only [spec_l1Has.l0]
    have h : i < l.length := by omega
    have e : rd l i = l[i] := by simp [rd, List.getD_eq_getElem?_getD, List.getElem?_eq_getElem h]
    rw [if_pos (by omega), if_pos (by omega), if_pos (by omega), e, List.drop_eq_getElem_cons h]
    by_cases g : l[i] = x
    · rw [if_pos g]; congr 1; rw [eq_comm, decide_eq_true_eq, g]; simp
    · rw [if_neg g, w64 (by omega), show (i : Int) + 1 = ((i + 1 : Nat) : Int) from rfl, ih k (i + 1) (by omega) (by omega)]
      congr 1; rw [decide_eq_decide, List.mem_cons]
      exact ⟨fun z => .inr z, fun z => z.resolve_left (fun y => g y.symm)⟩
theorem l1Has_eq {k : Nat} {l : List Int} (x : Int) (hl : l.length ≤ 1048576) (hk : l.length < k) : spec_l1Has.f k l x = some (decide (x ∈ l)) := by
  unfold spec_l1Has.f
  exact l1Has_l0 x l hl l.length k 0 (by omega) hk

-- block baPath
theorem baPath_l0 (js : List Int) (hj : jumpsB js = true) (d : Nat) : ∀ (k : Nat) (s : Int) (acc : List Int), js.length + 1 ≤ acc.length + d → d + 100 < k → PathOk js acc →
    spec_baPath.l0 k js acc s = some (pathF js d s acc) := by
  have hl := (jumpsB_true hj).1
  induction d with
  | zero =>
    intro k s acc hd hk ha
    have := ha.len
    omega
  | succ d ih =>
    intro k s acc hd hk ha
    have hal := ha.len
    obtain ⟨k, rfl⟩ : ∃ m, k = m + 1 := ⟨k - 1, by omega⟩
    simp only [spec_baPath.l0, pathF]
    by_cases h0 : s ≥ 0
    · rw [if_pos h0]
      by_cases h1 : s < (js.length : Int)
      · rw [if_pos h1, l1Has_eq s (by omega) (by omega), Option.bind_some]
        by_cases g : s ∈ acc
        · rw [if_pos (decide_eq_true g), if_neg (fun z => z.2.2 g)]
        · rw [if_neg (by simpa using g), if_pos (by omega), baNext_eq (by omega) hj h0 h1, Option.bind_some, if_pos ⟨h0, h1, g⟩]
          exact ih k _ _ (by simp; omega) (by omega) (ha.snoc h0 h1 g)
      · rw [if_neg h1, if_neg (fun z => h1 z.2.1)]
    · rw [if_neg h0, if_neg (fun z => h0 z.1)]
theorem baPath_eq {k : Nat} {js : List Int} (hj : jumpsB js = true) (hk : 1000 < k) (s : Int) : spec_baPath.f k js s = some (pathR js s) := by
  have hl := (jumpsB_true hj).1
  unfold spec_baPath.f pathR
  exact baPath_l0 js hj (js.length + 1) k s [] (by simp) (by omega) (PathOk.nil js)

-- block baEnd
theorem baEnd_eq {k : Nat} {js : List Int} (hj : jumpsB js = true) (hk : 1000 < k) (s : Int) : spec_baEnd.f k js s = some (endV js s) := by
  unfold spec_baEnd.f endV
  rw [baPath_eq hj hk, Option.bind_some]
  by_cases c : (pathR js s).2 < 0
  · rw [if_pos c, if_pos c]
  · rw [if_neg c, if_neg c]
    by_cases c2 : (pathR js s).2 ≥ js.length
    · rw [if_pos c2, if_pos c2]
    · rw [if_neg c2, if_neg c2]

-- block loops
/-- The loop to which a ball comes, in the order of jumps, and after how many seconds. -/
def firstN (js : List Int) (s : Int) : Nat := (idxI (pathR js s).2 (pathR js s).1 0).toNat
def loopL (js : List Int) (s : Int) : List Int := (pathR js s).1.drop (firstN js s)
theorem first_of (js : List Int) (s : Int) (h : (pathR js s).2 ∈ (pathR js s).1) : idxI (pathR js s).2 (pathR js s).1 0 = (firstN js s : Int) ∧ firstN js s < (pathR js s).1.length := by
  rcases idxI_spec (pathR js s).2 (pathR js s).1 0 with ⟨h1, -⟩ | ⟨n, h1, h2, -, -⟩
  · exact absurd h h1
  · unfold firstN; rw [h2]; omega
theorem idx_none (x : Int) (l : List Int) (h : x ∉ l) : idxI x l 0 = -1 := by
  rcases idxI_spec x l 0 with ⟨-, h2⟩ | ⟨n, h1, -, h3, -⟩
  · exact h2
  · have e : rd l n = l[n] := by simp [rd, List.getD_eq_getElem?_getD, List.getElem?_eq_getElem h1]
    exact absurd (by rw [← h3, e]; exact List.getElem_mem h1) h
/-- A list from its least number on. -/
def isLeast (y : List Int) (m : Nat) : Prop := m < y.length ∧ (∀ j, j < y.length → rd y m ≤ rd y j) ∧ ∀ j, j < m → rd y m < rd y j
theorem isLeast_one {y : List Int} {m n : Nat} (hm : isLeast y m) (hn : isLeast y n) : m = n := by
  obtain ⟨a1, a2, a3⟩ := hm
  obtain ⟨b1, b2, b3⟩ := hn
  rcases Nat.lt_trichotomy m n with h | h | h
  · have := b3 m h; have := a2 n b1; omega
  · exact h
  · have := a3 n h; have := b2 m a1; omega

-- block baPlace
theorem baPlace_l0 (x : Int) (l : List Int) (hl : l.length ≤ 1048576) (d : Nat) : ∀ (k i : Nat), i + d = l.length → d < k → spec_baPlace.l0 k x l l.length i = some (idxI x (l.drop i) i) := by
  induction d with
  | zero =>
    intro k i hd hk
    obtain ⟨k, rfl⟩ : ∃ m, k = m + 1 := ⟨k - 1, by omega⟩
    simp only [spec_baPlace.l0]; rw [if_neg (by omega), List.drop_eq_nil_of_le (by omega)]; rfl
  | succ d ih =>
    intro k i hd hk
    obtain ⟨k, rfl⟩ : ∃ m, k = m + 1 := ⟨k - 1, by omega⟩
    simp only [spec_baPlace.l0]
    have h : i < l.length := by omega
    have e : rd l i = l[i] := by simp [rd, List.getD_eq_getElem?_getD, List.getElem?_eq_getElem h]
    rw [if_pos (by omega), if_pos (by omega), if_pos (by omega), e, List.drop_eq_getElem_cons h, idxI]
    by_cases g : l[i] = x
    · rw [if_pos g, if_pos g]
    · rw [if_neg g, if_neg g, w64 (by omega)]
      exact ih k (i + 1) (by omega) (by omega)
theorem baPlace_eq {k : Nat} {l : List Int} (x : Int) (hl : l.length ≤ 1048576) (hk : l.length < k) : spec_baPlace.f k l x = some (idxI x l 0) := by
  unfold spec_baPlace.f
  exact baPlace_l0 x l hl l.length k 0 (by omega) hk

-- block baLoop
theorem l1Own_eq (l : List Int) (h : l.length ≤ 1000000) : spec_l1Own.f l = some l := by
  unfold spec_l1Own.f
  simp; omega
theorem baLoop_l0 (t : Int) (y : List Int) (hy : y.length ≤ 1000) (d : Nat) : ∀ (k i m : Nat), i + d = y.length → d < k → m < y.length → (∀ j, j < i → rd y m ≤ rd y j) → (∀ j, j < m → rd y m < rd y j) →
    ∃ m', isLeast y m' ∧ spec_baLoop.l0 k t y m y y.length i = some (y.drop m' ++ y.take m', t) := by
  induction d with
  | zero =>
    intro k i m hd hk hm h1 h2
    obtain ⟨k, rfl⟩ : ∃ x, k = x + 1 := ⟨k - 1, by omega⟩
    refine ⟨m, ⟨hm, fun j hj => h1 j (by omega), h2⟩, ?_⟩
    simp only [spec_baLoop.l0]
    rw [if_neg (by omega), if_pos (by omega), if_pos (by omega), Int.toNat_natCast, l1Own_eq _ (by simp; omega), Option.bind_some, if_pos (by simp; omega)]
  | succ d ih =>
    intro k i m hd hk hm h1 h2
    obtain ⟨k, rfl⟩ : ∃ x, k = x + 1 := ⟨k - 1, by omega⟩
    simp only [spec_baLoop.l0]
    rw [if_pos (by omega), if_pos (by omega), if_pos (by omega), if_pos (by omega), if_pos (by omega), w64 (by omega), show (i : Int) + 1 = ((i + 1 : Nat) : Int) from rfl]
    by_cases c : rd y i < rd y m
    · rw [if_pos c]
      have him : m < i ∨ i ≤ m := by omega
      refine ih k (i + 1) i (by omega) (by omega) (by omega) (fun j hj => ?_) (fun j hj => ?_)
      · by_cases e : j = i
        · subst e; omega
        · have := h1 j (by omega); omega
      · have := h1 j (by omega); omega
    · rw [if_neg c]
      refine ih k (i + 1) m (by omega) (by omega) hm (fun j hj => ?_) h2
      by_cases e : j = i
      · subst e; omega
      · exact h1 j (by omega)
theorem baLoop_eq {k : Nat} {js : List Int} (hj : jumpsB js = true) (hk : 2000 < k) {s : Int} (h0 : 0 ≤ s) (h1 : s < js.length) (hm : (pathR js s).2 ∈ (pathR js s).1) :
    ∃ m, isLeast (loopL js s) m ∧ spec_baLoop.f k js s = some ((loopL js s).drop m ++ (loopL js s).take m, (firstN js s : Int)) := by
  have hl := (jumpsB_true hj).1
  have hp := (pathR_ok js s (by omega) (by omega)).1.len
  obtain ⟨e1, e2⟩ := first_of js s hm
  unfold spec_baLoop.f
  rw [baPath_eq hj (by omega), Option.bind_some, baPlace_eq _ (by omega) (by omega), Option.bind_some, e1, if_pos (by omega), if_pos (by omega), Option.bind_some, Int.toNat_natCast]
  have hlen : (loopL js s).length = (pathR js s).1.length - firstN js s := List.length_drop
  exact baLoop_l0 _ (loopL js s) (by omega) _ k 0 0 (by rw [Nat.zero_add]) (by omega) (by omega) (fun j hj => by omega) (fun j hj => by omega)

-- block implLoop
theorem loop_eq {k : Nat} {js : List Int} (hj : jumpsB js = true) (hk : 2000 < k) {s : Int} (h0 : 0 ≤ s) (h1 : s < js.length) :
    impl_loop.f k js s = some (if (pathR js s).2 ∈ (pathR js s).1 then (loopL js s, (firstN js s : Int)) else ([], 0)) := by
  have hl := (jumpsB_true hj).1
  have hp := (pathR_ok js s (by omega) (by omega)).1.len
  unfold impl_loop.f
  rw [impl_path_eq hj (by omega), Option.bind_some, Index_eq _ (by omega) (by omega), Option.bind_some]
  by_cases h : (pathR js s).2 ∈ (pathR js s).1
  · obtain ⟨e1, e2⟩ := first_of js s h
    rw [e1, if_neg (by omega), if_pos (by omega), if_pos (by omega), if_pos h]; rfl
  · rw [idx_none _ _ h, if_pos (by omega), if_neg h]
theorem loop_in {js : List Int} {s : Int} (h0 : 0 ≤ s) (h1 : s < js.length) : (pathR js s).2 ∈ (pathR js s).1 ↔ (0 ≤ (pathR js s).2 ∧ (pathR js s).2 < js.length) := by
  constructor
  · intro h; exact (pathR_ok js s (by omega) (by omega)).1.range _ h
  · intro h; exact pathR_end js s h.1 h.2

-- block fromLeast
theorem Concat2_eq {k : Nat} (a b : List Int) (ha : a.length ≤ 1000000) (hb : b.length ≤ 1000000) (hk : 10 < k) : slices_Concat_int_int.f k [a, b] = some (a ++ b) := by
  obtain ⟨k, rfl⟩ : ∃ m, k = m + 1 + 1 + 1 + 1 + 1 + 1 := ⟨k - 6, by omega⟩
  have r0 : rd_L1 [a, b] 0 = a := rfl
  have r1 : rd_L1 [a, b] 1 = b := rfl
  have hn : (([a, b] : List (List Int)).length : Int) = 2 := rfl
  unfold slices_Concat_int_int.f
  rw [slices_Concat_int_int.l0, hn, if_pos (by omega), if_pos (by omega), if_pos (by omega), r0, w64 (x := 0 + (a.length : Int)) (by omega), if_neg (by omega), w64 (x := (0 : Int) + 1) (by omega), Int.zero_add, Int.zero_add]
  rw [slices_Concat_int_int.l0, hn, if_pos (by omega), if_pos (by omega), if_pos (by omega), r1, w64 (x := (a.length : Int) + (b.length : Int)) (by omega), if_neg (by omega), w64 (x := (1 : Int) + 1) (by omega), show (1 : Int) + 1 = 2 from rfl]
  rw [slices_Concat_int_int.l0, if_neg (by omega)]
  unfold slices_Grow_int_int.f
  rw [if_pos ⟨rfl, by omega, by omega⟩, Option.bind_some]
  rw [slices_Concat_int_int.l1, hn, if_pos (by omega), if_pos (by omega), if_pos (by omega), r0, if_pos (by simp; omega), w64 (x := (0 : Int) + 1) (by omega), Int.zero_add, List.nil_append]
  rw [slices_Concat_int_int.l1, hn, if_pos (by omega), if_pos (by omega), if_pos (by omega), r1, if_pos (by omega), w64 (x := (1 : Int) + 1) (by omega), show (1 : Int) + 1 = 2 from rfl]
  rw [slices_Concat_int_int.l1, if_neg (by omega)]
theorem Min_l0 (l : List Int) (hl : l.length ≤ 1000000) (d : Nat) : ∀ (k i : Nat) (m : Int), i + d = l.length → d < k → (∀ j : Nat, j < i → m ≤ rd l j) → (∃ j : Nat, j < i ∧ rd l j = m) →
    ∃ r, slices_Min_int_int.l0 k l m i = some r ∧ (∀ j : Nat, j < l.length → r ≤ rd l j) ∧ ∃ j : Nat, j < l.length ∧ rd l j = r := by
  induction d with
  | zero =>
    intro k i m hd hk h1 h2
    obtain ⟨k, rfl⟩ : ∃ m, k = m + 1 := ⟨k - 1, by omega⟩
    have e : i = l.length := by omega
    subst e
    exact ⟨m, by rw [slices_Min_int_int.l0, if_neg (by omega)], h1, h2⟩
  | succ d ih =>
    intro k i m hd hk h1 h2
    obtain ⟨k, rfl⟩ : ∃ m, k = m + 1 := ⟨k - 1, by omega⟩
    obtain ⟨j, j1, j2⟩ := h2
    rw [slices_Min_int_int.l0, if_pos (by omega), if_pos (by omega), w64 (by omega), show (i : Int) + 1 = ((i + 1 : Nat) : Int) from rfl]
    refine ih k (i + 1) _ (by omega) (by omega) (fun j hj => ?_) ?_
    · unfold mn
      by_cases e : j = i
      · subst e; split <;> omega
      · have := h1 j (by omega); split <;> omega
    · unfold mn
      split
      · exact ⟨i, by omega, rfl⟩
      · exact ⟨j, by omega, by omega⟩
theorem fromLeast_eq {k : Nat} (hk : 1100000 < k) (l : List Int) (hl : l.length ≤ 1000000) (h0 : 0 < l.length) : ∃ i, isLeast l i ∧ impl_fromLeast.f k l = some (l.drop i ++ l.take i) := by
  have z : rd l ((0 : Nat) : Int) = rd l 0 := rfl
  obtain ⟨r, e, r1, j, r2, r3⟩ := Min_l0 l hl (l.length - 1) k 1 (rd l 0) (by omega) (by omega) (fun j hj => by
    have : j = 0 := by omega
    subst this; exact Int.le_refl _) ⟨0, by omega, rfl⟩
  unfold impl_fromLeast.f slices_Min_int_int.f
  rw [if_neg (by omega), if_pos (by omega)]
  rw [show ((1 : Nat) : Int) = 1 from rfl] at e
  rw [e, Option.bind_some, Index_eq _ (by omega) (by omega), Option.bind_some]
  rcases idxI_spec r l 0 with ⟨h1, -⟩ | ⟨n, h1, h2, h3, h4⟩
  · exact absurd (by
      have q : rd l (j : Int) = l[j] := by simp [rd, List.getD_eq_getElem?_getD, List.getElem?_eq_getElem r2]
      rw [← r3, q]; exact List.getElem_mem r2) h1
  · refine ⟨n, ⟨h1, fun i hi => by rw [h3]; exact r1 i hi, fun i hi => ?_⟩, ?_⟩
    · have a := h4 i hi
      have b := r1 i (by omega)
      rw [h3]; omega
    · rw [h2, if_pos (by omega), if_pos (by omega), show (((0 : Nat) : Int) + (n : Int)).toNat = n from by omega, Concat2_eq _ _ (by simp; omega) (by simp; omega) (by omega), Option.bind_some]

-- block toIntS
theorem toIntS_l0 (l : List Int) (hl : l.length ≤ 1048576) (d : Nat) : ∀ (k i : Nat) (m : List Int), i + d = l.length → d < k → m.length = d → laws_toIntS.l0 k l (l.take i ++ m) i = some l := by
  induction d with
  | zero =>
    intro k i m hd hk hm
    obtain ⟨k, rfl⟩ : ∃ n, k = n + 1 := ⟨k - 1, by omega⟩
    obtain rfl := List.eq_nil_of_length_eq_zero hm
    simp only [laws_toIntS.l0]; rw [if_neg (by omega), List.take_of_length_le (by omega), List.append_nil]
  | succ d ih =>
    intro k i m hd hk hm
    obtain ⟨k, rfl⟩ : ∃ n, k = n + 1 := ⟨k - 1, by omega⟩
    obtain ⟨x, m, rfl⟩ : ∃ x p, m = x :: p := by
      cases m with
      | nil => simp at hm
      | cons x p => exact ⟨x, p, rfl⟩
    simp only [laws_toIntS.l0]
    have hi : i < l.length := by omega
    have hlen : (l.take i ++ x :: m).length = l.length := by simp at hm ⊢; omega
    have e : (l.take i ++ x :: m).set (i : Int).toNat (rd l i) = l.take (i + 1) ++ m := by
      have ht : (l.take i).length = i := by simp; omega
      rw [Int.toNat_natCast, List.set_append_right _ _ (by omega), ht, Nat.sub_self, List.set_cons_zero, List.take_succ_eq_append_getElem hi, List.append_assoc]
      simp [rd, List.getD_eq_getElem?_getD, List.getElem?_eq_getElem hi]
    rw [if_pos (by omega), if_pos (by omega), if_pos (by omega), e, w64 (by omega)]
    exact ih k (i + 1) m (by omega) (by omega) (by simpa using hm)
theorem toIntS_eq {k : Nat} {l : List Int} (hl : l.length ≤ 1048576) (hk : 1048576 < k) : laws_toIntS.f k l = some l := by
  unfold laws_toIntS.f
  rw [if_pos (by omega), if_pos (by omega)]
  have := toIntS_l0 l hl l.length k 0 (List.replicate l.length 0) (by omega) (by omega) (by simp)
  simpa using this

-- block eqIntS
theorem eqIntS_l0 (l : List Int) (hl : l.length ≤ 1000000000) (d : Nat) : ∀ (k i : Nat), i + d = l.length → d < k → laws_eqIntS.l0 k l l i = some true := by
  induction d with
  | zero =>
    intro k i hd hk
    obtain ⟨k, rfl⟩ : ∃ m, k = m + 1 := ⟨k - 1, by omega⟩
    simp only [laws_eqIntS.l0]; rw [if_neg (by omega)]
  | succ d ih =>
    intro k i hd hk
    obtain ⟨k, rfl⟩ : ∃ m, k = m + 1 := ⟨k - 1, by omega⟩
    simp only [laws_eqIntS.l0]
    rw [if_pos (by omega), if_pos (by omega), if_pos (by omega), if_pos trivial, w64 (by omega)]
    exact ih k (i + 1) (by omega) (by omega)
theorem eqIntS_self {k : Nat} {l : List Int} (hl : l.length ≤ 1000000000) (hk : l.length < k) : laws_eqIntS.f k l l = some true := by
  unfold laws_eqIntS.f
  rw [if_pos rfl, show (0 : Int) = ((0 : Nat) : Int) from rfl, eqIntS_l0 l hl l.length k 0 (by omega) hk]

-- block marks
def ups (a : Int) (n : Nat) : List Int := (List.range n).map fun i : Nat => a + (i : Int)
theorem ups_length (a : Int) (n : Nat) : (ups a n).length = n := by simp [ups]
theorem ups_succ (a : Int) (n : Nat) : ups a (n + 1) = ups a n ++ [a + n] := by simp [ups, List.range_succ]
theorem rd_ups (a : Int) (n i : Nat) (h : i < n) : rd (ups a n) i = a + i := by
  unfold rd ups
  rw [List.getD_eq_getElem?_getD, Int.toNat_natCast, List.getElem?_map, List.getElem?_range h]; rfl
theorem markIntS_l0 (a : Int) (ha : 0 ≤ a) (d : Nat) : ∀ (k i : Nat) (post : List Int), post.length = d → a + i + d ≤ 4000000000000 → d < k →
    laws_markIntS.l0 k (ups a i ++ post) (a + i) i = some (a + i + d, ups a (i + d)) := by
  induction d with
  | zero =>
    intro k i post hp hb hk
    obtain ⟨k, rfl⟩ : ∃ m, k = m + 1 := ⟨k - 1, by omega⟩
    obtain rfl := List.eq_nil_of_length_eq_zero hp
    simp only [laws_markIntS.l0]
    rw [if_neg (by simp [ups_length])]
    simp
  | succ d ih =>
    intro k i post hp hb hk
    obtain ⟨k, rfl⟩ : ∃ m, k = m + 1 := ⟨k - 1, by omega⟩
    obtain ⟨x, post, rfl⟩ : ∃ x p, post = x :: p := by
      cases post with
      | nil => simp at hp
      | cons x p => exact ⟨x, p, rfl⟩
    simp only [laws_markIntS.l0]
    rw [if_pos (by simp [ups_length]; omega), if_pos (by omega), w64 (by omega), w64 (by omega)]
    have e : (ups a i ++ x :: post).set (i : Int).toNat (a + i) = ups a (i + 1) ++ post := by
      rw [Int.toNat_natCast, List.set_append_right _ _ (by simp [ups_length]), ups_length, Nat.sub_self, List.set_cons_zero, ups_succ, List.append_assoc]; rfl
    rw [e, show a + (i : Int) + 1 = a + ((i + 1 : Nat) : Int) from by omega, show (i : Int) + 1 = ((i + 1 : Nat) : Int) from rfl]
    rw [ih k (i + 1) post (by simpa using hp) (by omega) (by omega)]
    rw [show i + 1 + d = i + (d + 1) from by omega]
    congr 2; omega
theorem markIntS_eq {k : Nat} {l : List Int} {a : Int} (ha : 0 ≤ a) (hb : a + l.length ≤ 4000000000000) (hk : l.length < k) : laws_markIntS.f k l a = some (a + l.length, ups a l.length) := by
  unfold laws_markIntS.f
  have := markIntS_l0 a ha l.length k 0 l rfl (by omega) hk
  simpa [ups] using this
theorem heldIntS_l0 (a : Int) (ha : 0 ≤ a) (n : Nat) (hb : a + n ≤ 4000000000000) (d : Nat) : ∀ (k i : Nat), i + d = n → d < k → laws_heldIntS.l0 k (ups a n) (a + i) i = some (a + n) := by
  induction d with
  | zero =>
    intro k i hd hk
    obtain ⟨k, rfl⟩ : ∃ m, k = m + 1 := ⟨k - 1, by omega⟩
    simp only [laws_heldIntS.l0]
    rw [if_neg (by rw [ups_length]; omega)]
    congr 1; omega
  | succ d ih =>
    intro k i hd hk
    obtain ⟨k, rfl⟩ : ∃ m, k = m + 1 := ⟨k - 1, by omega⟩
    simp only [laws_heldIntS.l0]
    rw [if_pos (by rw [ups_length]; omega), if_pos (by omega), rd_ups _ _ _ (by omega), if_pos rfl, w64 (by omega), w64 (by omega)]
    rw [show a + (i : Int) + 1 = a + ((i + 1 : Nat) : Int) from by omega, show (i : Int) + 1 = ((i + 1 : Nat) : Int) from rfl]
    exact ih k (i + 1) (by omega) (by omega)
theorem heldIntS_eq {k n : Nat} {a : Int} (ha : 0 ≤ a) (hb : a + n ≤ 4000000000000) (hk : n < k) : laws_heldIntS.f k (ups a n) a = some (a + n) := by
  unfold laws_heldIntS.f
  have := heldIntS_l0 a ha n hb n k 0 (by omega) hk
  simpa using this

theorem LoopOfBall_eq {k : Nat} (hk : 1200000 < k) (l : List Int) (hl : l.length ≤ 1048576) (s : Int) : ∃ r, spec_LoopOfBall.f k l s = some r ∧ impl_LoopOfBall.f k l s = some r ∧ r.1.length ≤ 100 := by
  unfold spec_LoopOfBall.f impl_LoopOfBall.f
  rw [baStep_eq l s hl (by omega), have_one l s hl (by omega), Option.bind_some, Option.bind_some]
  by_cases h : onB l s = true
  · have g := onB_true h
    have gl := (jumpsB_true g.1).1
    have hp := (pathR_ok l s (by omega) (by omega)).1.len
    rw [if_pos h, if_pos h, baEnd_eq g.1 (by omega), Option.bind_some, loop_eq g.1 (by omega) (by omega) (by omega), Option.bind_some]
    have hin := loop_in (js := l) (s := s) (by omega) (by omega)
    by_cases c : (pathR l s).2 ∈ (pathR l s).1
    · obtain ⟨m, m1, m2⟩ := baLoop_eq (k := k) g.1 (by omega) (by omega) (by omega) c
      obtain ⟨e1, e2⟩ := first_of l s c
      have hlen : (loopL l s).length = (pathR l s).1.length - firstN l s := List.length_drop
      obtain ⟨n, n1, n2⟩ := fromLeast_eq (k := k) (by omega) (loopL l s) (by omega) (by omega)
      have e := isLeast_one m1 n1
      subst e
      rw [if_pos ((endV_l l s).2 (hin.1 c)), m2, Option.bind_some, if_pos c]
      refine ⟨_, rfl, ?_, ?_⟩
      · show (if ((loopL l s).length : Int) = 0 then _ else (impl_fromLeast.f k (loopL l s)).bind _) = _
        rw [if_neg (by omega), n2, Option.bind_some]
      · show ((loopL l s).drop m ++ (loopL l s).take m).length ≤ 100
        rw [List.length_append, List.length_drop, List.length_take]; omega
    · rw [if_neg (fun z => c (hin.2 ((endV_l l s).1 z))), if_neg c]
      exact ⟨_, rfl, rfl, by simp⟩
  · rw [if_neg h, if_neg h]; exact ⟨_, rfl, rfl, by simp⟩
theorem FnExactLoopOfBall : laws_FnExactLoopOfBall.Pure := by
  intro l s _ _ _ _ 
  obtain ⟨k, hk⟩ : ∃ k, 2000000 < k := ⟨2000001, by omega⟩
  refine ⟨k + 3, ?_⟩
  unfold laws_FnExactLoopOfBall.f
  by_cases hs : (l.length : Int) > 1048576
  · rw [if_pos hs]
  · obtain ⟨r, h1, h2, hl⟩ := LoopOfBall_eq (k := k + 3) (by omega) l (by omega) s
    obtain ⟨r', h1', h2', -⟩ := LoopOfBall_eq (k := k + 1) (by omega) l (by omega) s
    have e : r' = r := by
      have m := impl_LoopOfBall.mono l s (k + 1 + 1) _ (impl_LoopOfBall.mono l s (k + 1) _ h2')
      rw [h2] at m; exact (Option.some.inj m).symm
    subst e
    rw [if_neg hs, toIntS_eq (by omega) (by omega), Option.bind_some, h1, Option.bind_some, Option.bind_some, h2, Option.bind_some, eqIntS_self (by omega) (by omega), Option.bind_some, if_pos rfl, laws_FnExactLoopOfBall.j0, if_neg (by simp), toIntS_eq (by omega) (by omega), Option.bind_some, eqIntS_self (by omega) (by omega), Option.bind_some, if_pos rfl, markIntS_eq (by omega) (by omega) (by omega), Option.bind_some]
    rw [if_neg (by omega), eqIntS_self (by omega) (by omega), Option.bind_some, if_pos rfl, laws_FnExactLoopOfBall.j1, if_neg (by simp), markIntS_eq (by omega) (by omega) (by omega), Option.bind_some, heldIntS_eq (by omega) (by omega) (by omega), Option.bind_some, if_neg (by omega), if_pos rfl, toIntS_eq (by omega) (by omega), Option.bind_some, h2', Option.bind_some, eqIntS_self (by omega) (by omega), Option.bind_some, if_pos rfl, laws_FnExactLoopOfBall.j2, if_neg (by simp), heldIntS_eq (by omega) (by omega) (by omega), Option.bind_some, if_neg (by omega), if_pos rfl]

end Go.Proofs.Ytlajnkdokmbpeaa.Pure
