/- FnExactAllLoops: proved. No condition. -/
import Derived.Test.YtbbkbooiefoihaaPFnExactAllLoopsx4
import Derived.Test.YtbbkbooiefoihaaLoopsWalk
namespace Go.Proofs.Ytbbkbooiefoihaa.Pure
open Go.RowKit Go.Proofs.Ytbbkbooiefoihaa.PFnExactAllLoops Go.Proofs.YtbbkbooiefoihaaW.PrintWords Go.Proofs.YtbbkbooiefoihaaW.PrintLast Go.Proofs.YtbbkbooiefoihaaW.PrintMore
set_option linter.unusedVariables false
set_option linter.unusedSimpArgs false

-- block l1In
theorem l1In_eq (a b c : Int) : spec_l1In.f a b c = some (decide (b ≤ a ∧ a ≤ c)) := by
  unfold spec_l1In.f
  by_cases h : a ≥ b
  · rw [if_pos h]; simp [show b ≤ a from h]
  · rw [if_neg h]; simp [show ¬ b ≤ a from h]

-- block w64
theorem w64 {x : Int} (h : -9223372036854775808 ≤ x ∧ x ≤ 9223372036854775807) : wrap64 x = x := by
  unfold wrap64; omega

-- block l1All
theorem l1All_l0 (lo hi : Int) (l : List Int) (hl : l.length ≤ 1000000000) (d : Nat) : ∀ (k i : Nat), i + d = l.length → d < k → spec_l1All.l0 k lo hi l l.length i = some ((l.drop i).all fun n => decide (lo ≤ n ∧ n ≤ hi)) := by
  induction d with
  | zero =>
    intro k i hd hk
    obtain ⟨k, rfl⟩ : ∃ m, k = m + 1 := ⟨k - 1, by omega⟩
    simp only [spec_l1All.l0]; rw [if_neg (by omega), List.drop_eq_nil_of_le (by omega)]; rfl
  | succ d ih =>
    intro k i hd hk
    obtain ⟨k, rfl⟩ : ∃ m, k = m + 1 := ⟨k - 1, by omega⟩
    simp only [spec_l1All.l0]
    have h : i < l.length := by omega
    have e : rd l i = l[i] := by simp [rd, List.getD_eq_getElem?_getD, List.getElem?_eq_getElem h]
    rw [if_pos (by omega), if_pos (by omega), if_pos (by omega), l1In_eq, Option.bind_some, List.drop_eq_getElem_cons h, e, List.all_cons]
    by_cases g : lo ≤ l[i] ∧ l[i] ≤ hi
    · rw [if_pos (decide_eq_true g), w64 (by omega), decide_eq_true g, Bool.true_and]
      exact ih k (i + 1) (by omega) (by omega)
    · rw [if_neg (by simpa using g), decide_eq_false g, Bool.false_and]
theorem l1All_eq {k : Nat} {l : List Int} (lo hi : Int) (hl : l.length ≤ 1000000000) (hk : l.length < k) : spec_l1All.f k l lo hi = some (l.all fun n => decide (lo ≤ n ∧ n ≤ hi)) := by
  unfold spec_l1All.f
  exact l1All_l0 lo hi l hl l.length k 0 (by omega) (by omega)

-- block within
theorem within_eq (a b c : Int) : impl_within.f a b c = some (decide (b ≤ a ∧ a ≤ c)) := by
  unfold impl_within.f
  by_cases h : b ≤ a
  · rw [if_pos h]; simp [h]
  · rw [if_neg h]; simp [h]

-- block hofAny
theorem hofAny_eq (q : Int → Option Bool) (p : Int → Bool) (h : ∀ n, q n = some (p n)) (l : List Int) : hofAny q l = some (l.any p) := by
  induction l with
  | nil => rfl
  | cons x xs ih =>
    unfold hofAny
    rw [h x, Option.bind_some, ih]
    cases hp : p x
    · rw [if_neg (by decide)]; simp [hp]
    · rw [if_pos rfl]; simp [hp]

-- block jumps
def jumpsB (l : List Int) : Bool := decide (1 ≤ l.length ∧ l.length ≤ 30) && l.all fun n => decide (-30 ≤ n ∧ n ≤ 30)
theorem AreJumps_eq (l : List Int) : impl_AreJumps.f l = some (jumpsB l) := by
  unfold impl_AreJumps.f jumpsB
  have hc : ∀ n, impl_AreJumps_1.f n = some (!decide (-30 ≤ n ∧ n ≤ 30)) := fun n => by unfold impl_AreJumps_1.f; rw [within_eq]; rfl
  have hh := hofAny_eq _ _ hc l
  rw [within_eq, Option.bind_some]
  by_cases h : 1 ≤ l.length ∧ l.length ≤ 30
  · rw [if_pos (by simp; omega), decide_eq_true h, Bool.true_and]
    simp only [slices_ContainsFunc_int_int.f, Array.size_empty, and_self, if_true]
    simp [hh, List.not_any_eq_all_not]
  · rw [if_neg (by simp; omega), decide_eq_false h, Bool.false_and]
theorem baGood_eq {k : Nat} {l : List Int} (hk : 30 < k) : spec_baGood.f k l = some (jumpsB l) := by
  unfold spec_baGood.f jumpsB
  rw [l1In_eq, Option.bind_some]
  by_cases h : 1 ≤ l.length ∧ l.length ≤ 30
  · rw [if_pos (by simp; omega), l1All_eq _ _ (by omega) (by omega), decide_eq_true h, Bool.true_and, Option.bind_some]
  · rw [if_neg (by simp; omega), decide_eq_false h, Bool.false_and]
theorem jumpsB_true {l : List Int} (h : jumpsB l = true) : (1 ≤ l.length ∧ l.length ≤ 30) ∧ ∀ x ∈ l, -30 ≤ x ∧ x ≤ 30 := by
  unfold jumpsB at h
  rw [Bool.and_eq_true, decide_eq_true_eq, List.all_eq_true] at h
  exact ⟨h.1, fun x hx => by simpa using h.2 x hx⟩

-- block mxmn
theorem mx_eq (a b : Int) : mx a b = max a b := by unfold mx; omega
theorem mn_eq (a b : Int) : mn a b = min a b := by unfold mn; omega

-- block next
/-- Where a ball on step s is a second later. -/
def nextI (js : List Int) (s : Int) : Int := max (-1) (min (s + rd js s) js.length)
theorem rd_bound {js : List Int} (h : jumpsB js = true) {s : Int} (h0 : 0 ≤ s) (h1 : s < js.length) : -30 ≤ rd js s ∧ rd js s ≤ 30 := by
  have hj := jumpsB_true h
  have hs : s.toNat < js.length := by omega
  have e : rd js s = js[s.toNat] := by simp [rd, List.getD_eq_getElem?_getD, List.getElem?_eq_getElem hs]
  rw [e]; exact hj.2 _ (List.getElem_mem hs)
theorem next_eq {js : List Int} (h : jumpsB js = true) {s : Int} (h0 : 0 ≤ s) (h1 : s < js.length) : impl_next.f js s = some (nextI js s) := by
  have hj := (jumpsB_true h).1
  have hb := rd_bound h h0 h1
  unfold impl_next.f impl_land.f nextI
  rw [if_pos h0, if_pos h1, Option.bind_some, w64 (by omega), mx_eq, mn_eq]
theorem baNext_eq {k : Nat} {js : List Int} (hk : 1 < k) (h : jumpsB js = true) {s : Int} (h0 : 0 ≤ s) (h1 : s < js.length) : spec_baNext.f k js s = some (nextI js s) := by
  have hj := (jumpsB_true h).1
  have hb := rd_bound h h0 h1
  obtain ⟨k, rfl⟩ : ∃ m, k = m + 1 := ⟨k - 1, by omega⟩
  unfold spec_baNext.f nextI
  rw [if_neg (by omega), decide_eq_false (by omega), spec_baNext.j0, if_neg (by decide), if_pos h0, if_pos h1, w64 (by omega)]
  by_cases c : s + rd js s < 0
  · rw [if_pos c]; congr 1; omega
  · rw [if_neg c]
    by_cases c2 : s + rd js s > js.length
    · rw [if_pos c2]; congr 1; omega
    · rw [if_neg c2]; congr 1; omega
theorem nextI_lo (js : List Int) (s : Int) : -1 ≤ nextI js s ∧ nextI js s ≤ js.length := by unfold nextI; omega

-- block pigeon
theorem pigeon_nat (n : Nat) : ∀ (l : List Nat), l.Nodup → (∀ x ∈ l, x < n) → l.length ≤ n := by
  induction n with
  | zero =>
    intro l _ h
    cases l with
    | nil => simp
    | cons x xs => exact absurd (h x (by simp)) (by omega)
  | succ n ih =>
    intro l hn h
    by_cases hm : n ∈ l
    · have h1 := ih (l.erase n) (hn.erase n) (fun x hx => by
        have h2 := (hn.mem_erase_iff).1 hx
        have h3 := h x h2.2
        have h4 := h2.1
        omega)
      have h2 := List.length_erase_of_mem hm
      omega
    · have := ih l hn (fun x hx => by
        have h3 := h x hx
        by_cases e : x = n
        · subst e; exact absurd hx hm
        · omega)
      omega
theorem pigeon (n : Nat) (l : List Int) (hn : l.Nodup) (h : ∀ x ∈ l, 0 ≤ x ∧ x < n) : l.length ≤ n := by
  have h1 := pigeon_nat n (l.map Int.toNat) (by
    rw [List.Nodup, List.pairwise_map]
    exact hn.imp_of_mem (fun {a b} ha hb hab e => hab (by have := h a ha; have := h b hb; omega)))
    (fun x hx => by
      obtain ⟨y, hy, rfl⟩ := List.mem_map.1 hx
      have := h y hy; omega)
  simpa using h1

-- block isOut
theorem isOut_eq (js : List Int) (s : Int) (hj : js.length ≤ 1048576) : impl_isOut.f js s = some (!decide (0 ≤ s ∧ s ≤ js.length - 1)) := by
  unfold impl_isOut.f
  rw [w64 (by omega), within_eq, Option.bind_some]

-- block idx
/-- Where x is first, counted from i; -1 where it is not. -/
def idxI (x : Int) : List Int → Nat → Int
  | [], _ => -1
  | y :: ys, i => if y = x then (i : Int) else idxI x ys (i + 1)
theorem idxI_spec (x : Int) (l : List Int) : ∀ i : Nat, (x ∉ l ∧ idxI x l i = -1) ∨ (∃ n : Nat, n < l.length ∧ idxI x l i = (i : Int) + n ∧ rd l n = x ∧ ∀ m : Nat, m < n → rd l m ≠ x) := by
  induction l with
  | nil => intro i; exact .inl ⟨by simp, rfl⟩
  | cons y ys ih =>
    intro i
    unfold idxI
    by_cases h : y = x
    · subst h
      exact .inr ⟨0, by simp, by simp, by simp [rd], fun m hm => by omega⟩
    · rw [if_neg h]
      rcases ih (i + 1) with ⟨h1, h2⟩ | ⟨n, h1, h2, h3, h4⟩
      · exact .inl ⟨by simp [h1]; exact fun e => h e.symm, h2⟩
      · refine .inr ⟨n + 1, by simp; omega, by rw [h2]; omega, ?_, ?_⟩
        · simpa [rd] using h3
        · intro m hm
          cases m with
          | zero => simpa [rd] using h
          | succ m => have := h4 m (by omega); simpa [rd] using this
theorem idxI_mem (x : Int) (l : List Int) : decide (idxI x l 0 ≥ 0) = decide (x ∈ l) := by
  rw [decide_eq_decide]
  rcases idxI_spec x l 0 with ⟨h1, h2⟩ | ⟨n, h1, h2, h3, h4⟩
  · rw [h2]; constructor
    · intro h; omega
    · intro h; exact absurd h h1
  · rw [h2]; constructor
    · intro _
      have e : rd l n = l[n] := by simp [rd, List.getD_eq_getElem?_getD, List.getElem?_eq_getElem h1]
      rw [← h3, e]; exact List.getElem_mem h1
    · intro _; omega

-- block contains
theorem Index_l0 (x : Int) (l : List Int) (hl : l.length ≤ 1048576) (d : Nat) : ∀ (k i : Nat), i + d = l.length → d < k → slices_Index_int_int.l0 k l x l.length i = some (idxI x (l.drop i) i) := by
  induction d with
  | zero =>
    intro k i hd hk
    obtain ⟨k, rfl⟩ : ∃ m, k = m + 1 := ⟨k - 1, by omega⟩
    simp only [slices_Index_int_int.l0]; rw [if_neg (by omega), List.drop_eq_nil_of_le (by omega)]; rfl
  | succ d ih =>
    intro k i hd hk
    obtain ⟨k, rfl⟩ : ∃ m, k = m + 1 := ⟨k - 1, by omega⟩
    simp only [slices_Index_int_int.l0]
    have h : i < l.length := by omega
    have e : rd l i = l[i] := by simp [rd, List.getD_eq_getElem?_getD, List.getElem?_eq_getElem h]
    rw [if_pos (by omega), if_pos (by omega), if_pos (by omega), e, List.drop_eq_getElem_cons h, idxI]
    by_cases g : l[i] = x
    · rw [if_pos g, if_pos g.symm]
    · rw [if_neg g, if_neg (fun z => g z.symm), w64 (by omega)]
      exact ih k (i + 1) (by omega) (by omega)
theorem Index_eq {k : Nat} {l : List Int} (x : Int) (hl : l.length ≤ 1048576) (hk : l.length < k) : slices_Index_int_int.f k l x = some (idxI x l 0) := by
  unfold slices_Index_int_int.f
  exact Index_l0 x l hl l.length k 0 (by omega) hk

-- block contains2
theorem Contains_eq {k : Nat} {l : List Int} (x : Int) (hl : l.length ≤ 1048576) (hk : l.length < k) : slices_Contains_int_int.f k l x = some (decide (x ∈ l)) := by
  unfold slices_Contains_int_int.f
  rw [Index_eq x hl hk, Option.bind_some, idxI_mem]

-- block path
/-- A path from s on, behind the steps acc: the steps, and where the ball is behind them. -/
def pathF (js : List Int) : Nat → Int → List Int → List Int × Int
  | 0, s, acc => (acc, s)
  | n + 1, s, acc => if 0 ≤ s ∧ s < js.length ∧ s ∉ acc then pathF js n (nextI js s) (acc ++ [s]) else (acc, s)
def pathR (js : List Int) (s : Int) : List Int × Int := pathF js (js.length + 1) s []
theorem nextI_range (js : List Int) (s : Int) : -1 ≤ nextI js s ∧ nextI js s ≤ js.length := by unfold nextI; omega
/-- What a path is: its steps are of the stairs, none twice. -/
structure PathOk (js : List Int) (acc : List Int) : Prop where
  nodup : acc.Nodup
  range : ∀ x ∈ acc, 0 ≤ x ∧ x < js.length
theorem PathOk.len {js acc : List Int} (h : PathOk js acc) : acc.length ≤ js.length := pigeon _ _ h.nodup h.range
theorem PathOk.nil (js : List Int) : PathOk js [] := ⟨List.nodup_nil, by simp⟩
theorem PathOk.snoc {js acc : List Int} (h : PathOk js acc) {s : Int} (h0 : 0 ≤ s) (h1 : s < js.length) (h2 : s ∉ acc) : PathOk js (acc ++ [s]) :=
  ⟨List.nodup_append.2 ⟨h.nodup, by simp, fun a ha b hb => by simp at hb; subst hb; intro e; subst e; exact h2 ha⟩, fun x hx => by
    rcases List.mem_append.1 hx with hx | hx
    · exact h.range x hx
    · simp at hx; subst hx; exact ⟨h0, h1⟩⟩
theorem impl_path_l0 (js : List Int) (hj : jumpsB js = true) (d : Nat) : ∀ (k : Nat) (s : Int) (acc : List Int), js.length + 1 ≤ acc.length + d → d + 100 < k → PathOk js acc →
    impl_path.l0 k js s acc = some (pathF js d s acc) := by
  have hl := (jumpsB_true hj).1
  induction d with
  | zero =>
    intro k s acc hd hk ha
    have := ha.len
    omega
  | succ d ih =>
    intro k s acc hd hk ha
    have hal := ha.len
    obtain ⟨k, rfl⟩ : ∃ m, k = m + 1 := ⟨k - 1, by omega⟩
    simp only [impl_path.l0, pathF]
    rw [isOut_eq js s (by omega), Option.bind_some]
    by_cases h : 0 ≤ s ∧ s ≤ (js.length : Int) - 1
    · rw [if_neg (by simp; omega), Contains_eq s (by omega) (by omega), Option.bind_some]
      by_cases g : s ∈ acc
      · rw [if_pos (decide_eq_true g), if_neg (fun z => z.2.2 g)]
      · rw [if_neg (by simpa using g), if_pos (by omega), next_eq hj h.1 (by omega), Option.bind_some, if_pos ⟨h.1, by omega, g⟩]
        exact ih k _ _ (by simp; omega) (by omega) (ha.snoc h.1 (by omega) g)
    · rw [if_pos (by simp; omega), if_neg (fun z => h ⟨z.1, by omega⟩)]
theorem impl_path_eq {k : Nat} {js : List Int} (hj : jumpsB js = true) (hk : 1000 < k) (s : Int) : impl_path.f k js s = some (pathR js s) := by
  have hl := (jumpsB_true hj).1
  unfold impl_path.f pathR
  exact impl_path_l0 js hj (js.length + 1) k s [] (by simp) (by omega) (PathOk.nil js)
theorem pathF_ok (js : List Int) (d : Nat) : ∀ (s : Int) (acc : List Int), PathOk js acc → -1 ≤ s → s ≤ js.length → PathOk js (pathF js d s acc).1 ∧ -1 ≤ (pathF js d s acc).2 ∧ (pathF js d s acc).2 ≤ js.length := by
  induction d with
  | zero => intro s acc h h0 h1; exact ⟨h, h0, h1⟩
  | succ d ih =>
    intro s acc h h0 h1
    unfold pathF
    by_cases g : 0 ≤ s ∧ s < js.length ∧ s ∉ acc
    · rw [if_pos g]
      have := nextI_range js s
      exact ih _ _ (h.snoc g.1 g.2.1 g.2.2) this.1 this.2
    · rw [if_neg g]; exact ⟨h, h0, h1⟩
theorem pathF_end (js : List Int) (d : Nat) : ∀ (s : Int) (acc : List Int), js.length + 1 ≤ acc.length + d → PathOk js acc →
    0 ≤ (pathF js d s acc).2 → (pathF js d s acc).2 < js.length → (pathF js d s acc).2 ∈ (pathF js d s acc).1 := by
  induction d with
  | zero => intro s acc hd h; have := h.len; omega
  | succ d ih =>
    intro s acc hd h
    unfold pathF
    by_cases g : 0 ≤ s ∧ s < js.length ∧ s ∉ acc
    · rw [if_pos g]
      exact ih _ _ (by simp; omega) (h.snoc g.1 g.2.1 g.2.2)
    · rw [if_neg g]
      intro h0 h1
      by_cases hm : s ∈ acc
      · exact hm
      · exact absurd ⟨h0, h1, hm⟩ g
theorem pathR_ok (js : List Int) (s : Int) (h0 : -1 ≤ s) (h1 : s ≤ js.length) : PathOk js (pathR js s).1 ∧ -1 ≤ (pathR js s).2 ∧ (pathR js s).2 ≤ js.length := pathF_ok js _ s [] (PathOk.nil js) h0 h1
theorem pathR_end (js : List Int) (s : Int) : 0 ≤ (pathR js s).2 → (pathR js s).2 < js.length → (pathR js s).2 ∈ (pathR js s).1 := pathF_end js _ s [] (by simp) (PathOk.nil js)

-- block ends
/-- The end of a ball that is on step s. -/
def endV (js : List Int) (s : Int) : ByteArray := if (pathR js s).2 < 0 then ⟨#[97]⟩ else if (pathR js s).2 ≥ js.length then ⟨#[98]⟩ else ⟨#[108]⟩
theorem endV_l (js : List Int) (s : Int) : (endV js s).toList = [108] ↔ (0 ≤ (pathR js s).2 ∧ (pathR js s).2 < js.length) := by
  unfold endV
  by_cases c : (pathR js s).2 < 0
  · rw [if_pos c]
    constructor
    · intro h; exact absurd h (by decide +kernel)
    · intro h; omega
  · rw [if_neg c]
    by_cases c2 : (pathR js s).2 ≥ js.length
    · rw [if_pos c2]
      constructor
      · intro h; exact absurd h (by decide +kernel)
      · intro h; omega
    · rw [if_neg c2]
      constructor
      · intro _; omega
      · intro _; decide +kernel

-- block l1Has
theorem l1Has_l0 (x : Int) (l : List Int) (hl : l.length ≤ 1048576) (d : Nat) : ∀ (k i : Nat), i + d = l.length → d < k → spec_l1Has.l0 k x l l.length i = some (decide (x ∈ l.drop i)) := by
  induction d with
  | zero =>
    intro k i hd hk
    obtain ⟨k, rfl⟩ : ∃ m, k = m + 1 := ⟨k - 1, by omega⟩
    simp only [spec_l1Has.l0]; rw [if_neg (by omega), List.drop_eq_nil_of_le (by omega)]; simp
  | succ d ih =>
    intro k i hd hk
    obtain ⟨k, rfl⟩ : ∃ m, k = m + 1 := ⟨k - 1, by omega⟩
    simp only [spec_l1Has.l0]
    have h : i < l.length := by omega
    have e : rd l i = l[i] := by simp [rd, List.getD_eq_getElem?_getD, List.getElem?_eq_getElem h]
    rw [if_pos (by omega), if_pos (by omega), if_pos (by omega), e, List.drop_eq_getElem_cons h]
    by_cases g : l[i] = x
    · rw [if_pos g]; congr 1; rw [eq_comm, decide_eq_true_eq, g]; simp
    · rw [if_neg g, w64 (by omega), show (i : Int) + 1 = ((i + 1 : Nat) : Int) from rfl, ih k (i + 1) (by omega) (by omega)]
      congr 1; rw [decide_eq_decide, List.mem_cons]
      exact ⟨fun z => .inr z, fun z => z.resolve_left (fun y => g y.symm)⟩
theorem l1Has_eq {k : Nat} {l : List Int} (x : Int) (hl : l.length ≤ 1048576) (hk : l.length < k) : spec_l1Has.f k l x = some (decide (x ∈ l)) := by
  unfold spec_l1Has.f
  exact l1Has_l0 x l hl l.length k 0 (by omega) hk

-- block baPath
theorem baPath_l0 (js : List Int) (hj : jumpsB js = true) (d : Nat) : ∀ (k : Nat) (s : Int) (acc : List Int), js.length + 1 ≤ acc.length + d → d + 100 < k → PathOk js acc →
    spec_baPath.l0 k js acc s = some (pathF js d s acc) := by
  have hl := (jumpsB_true hj).1
  induction d with
  | zero =>
    intro k s acc hd hk ha
    have := ha.len
    omega
  | succ d ih =>
    intro k s acc hd hk ha
    have hal := ha.len
    obtain ⟨k, rfl⟩ : ∃ m, k = m + 1 := ⟨k - 1, by omega⟩
    simp only [spec_baPath.l0, pathF]
    by_cases h0 : s ≥ 0
    · rw [if_pos h0]
      by_cases h1 : s < (js.length : Int)
      · rw [if_pos h1, l1Has_eq s (by omega) (by omega), Option.bind_some]
        by_cases g : s ∈ acc
        · rw [if_pos (decide_eq_true g), if_neg (fun z => z.2.2 g)]
        · rw [if_neg (by simpa using g), if_pos (by omega), baNext_eq (by omega) hj h0 h1, Option.bind_some, if_pos ⟨h0, h1, g⟩]
          exact ih k _ _ (by simp; omega) (by omega) (ha.snoc h0 h1 g)
      · rw [if_neg h1, if_neg (fun z => h1 z.2.1)]
    · rw [if_neg h0, if_neg (fun z => h0 z.1)]
theorem baPath_eq {k : Nat} {js : List Int} (hj : jumpsB js = true) (hk : 1000 < k) (s : Int) : spec_baPath.f k js s = some (pathR js s) := by
  have hl := (jumpsB_true hj).1
  unfold spec_baPath.f pathR
  exact baPath_l0 js hj (js.length + 1) k s [] (by simp) (by omega) (PathOk.nil js)

-- block baEnd
theorem baEnd_eq {k : Nat} {js : List Int} (hj : jumpsB js = true) (hk : 1000 < k) (s : Int) : spec_baEnd.f k js s = some (endV js s) := by
  unfold spec_baEnd.f endV
  rw [baPath_eq hj hk, Option.bind_some]
  by_cases c : (pathR js s).2 < 0
  · rw [if_pos c, if_pos c]
  · rw [if_neg c, if_neg c]
    by_cases c2 : (pathR js s).2 ≥ js.length
    · rw [if_pos c2, if_pos c2]
    · rw [if_neg c2, if_neg c2]

-- block loops
/-- The loop to which a ball comes, in the order of jumps, and after how many seconds. -/
def firstN (js : List Int) (s : Int) : Nat := (idxI (pathR js s).2 (pathR js s).1 0).toNat
def loopL (js : List Int) (s : Int) : List Int := (pathR js s).1.drop (firstN js s)
theorem first_of (js : List Int) (s : Int) (h : (pathR js s).2 ∈ (pathR js s).1) : idxI (pathR js s).2 (pathR js s).1 0 = (firstN js s : Int) ∧ firstN js s < (pathR js s).1.length := by
  rcases idxI_spec (pathR js s).2 (pathR js s).1 0 with ⟨h1, -⟩ | ⟨n, h1, h2, -, -⟩
  · exact absurd h h1
  · unfold firstN; rw [h2]; omega
theorem idx_none (x : Int) (l : List Int) (h : x ∉ l) : idxI x l 0 = -1 := by
  rcases idxI_spec x l 0 with ⟨-, h2⟩ | ⟨n, h1, -, h3, -⟩
  · exact h2
  · have e : rd l n = l[n] := by simp [rd, List.getD_eq_getElem?_getD, List.getElem?_eq_getElem h1]
    exact absurd (by rw [← h3, e]; exact List.getElem_mem h1) h
/-- A list from its least number on. -/
def isLeast (y : List Int) (m : Nat) : Prop := m < y.length ∧ (∀ j, j < y.length → rd y m ≤ rd y j) ∧ ∀ j, j < m → rd y m < rd y j
theorem isLeast_one {y : List Int} {m n : Nat} (hm : isLeast y m) (hn : isLeast y n) : m = n := by
  obtain ⟨a1, a2, a3⟩ := hm
  obtain ⟨b1, b2, b3⟩ := hn
  rcases Nat.lt_trichotomy m n with h | h | h
  · have := b3 m h; have := a2 n b1; omega
  · exact h
  · have := a3 n h; have := b2 m a1; omega

-- block baPlace
theorem baPlace_l0 (x : Int) (l : List Int) (hl : l.length ≤ 1048576) (d : Nat) : ∀ (k i : Nat), i + d = l.length → d < k → spec_baPlace.l0 k x l l.length i = some (idxI x (l.drop i) i) := by
  induction d with
  | zero =>
    intro k i hd hk
    obtain ⟨k, rfl⟩ : ∃ m, k = m + 1 := ⟨k - 1, by omega⟩
    simp only [spec_baPlace.l0]; rw [if_neg (by omega), List.drop_eq_nil_of_le (by omega)]; rfl
  | succ d ih =>
    intro k i hd hk
    obtain ⟨k, rfl⟩ : ∃ m, k = m + 1 := ⟨k - 1, by omega⟩
    simp only [spec_baPlace.l0]
    have h : i < l.length := by omega
    have e : rd l i = l[i] := by simp [rd, List.getD_eq_getElem?_getD, List.getElem?_eq_getElem h]
    rw [if_pos (by omega), if_pos (by omega), if_pos (by omega), e, List.drop_eq_getElem_cons h, idxI]
    by_cases g : l[i] = x
    · rw [if_pos g, if_pos g]
    · rw [if_neg g, if_neg g, w64 (by omega)]
      exact ih k (i + 1) (by omega) (by omega)
theorem baPlace_eq {k : Nat} {l : List Int} (x : Int) (hl : l.length ≤ 1048576) (hk : l.length < k) : spec_baPlace.f k l x = some (idxI x l 0) := by
  unfold spec_baPlace.f
  exact baPlace_l0 x l hl l.length k 0 (by omega) hk

-- block baLoop
theorem l1Own_eq (l : List Int) (h : l.length ≤ 1000000) : spec_l1Own.f l = some l := by
  unfold spec_l1Own.f
  simp; omega
theorem baLoop_l0 (t : Int) (y : List Int) (hy : y.length ≤ 1000) (d : Nat) : ∀ (k i m : Nat), i + d = y.length → d < k → m < y.length → (∀ j, j < i → rd y m ≤ rd y j) → (∀ j, j < m → rd y m < rd y j) →
    ∃ m', isLeast y m' ∧ spec_baLoop.l0 k t y m y y.length i = some (y.drop m' ++ y.take m', t) := by
  induction d with
  | zero =>
    intro k i m hd hk hm h1 h2
    obtain ⟨k, rfl⟩ : ∃ x, k = x + 1 := ⟨k - 1, by omega⟩
    refine ⟨m, ⟨hm, fun j hj => h1 j (by omega), h2⟩, ?_⟩
    simp only [spec_baLoop.l0]
    rw [if_neg (by omega), if_pos (by omega), if_pos (by omega), Int.toNat_natCast, l1Own_eq _ (by simp; omega), Option.bind_some, if_pos (by simp; omega)]
  | succ d ih =>
    intro k i m hd hk hm h1 h2
    obtain ⟨k, rfl⟩ : ∃ x, k = x + 1 := ⟨k - 1, by omega⟩
    simp only [spec_baLoop.l0]
    rw [if_pos (by omega), if_pos (by omega), if_pos (by omega), if_pos (by omega), if_pos (by omega), w64 (by omega), show (i : Int) + 1 = ((i + 1 : Nat) : Int) from rfl]
    by_cases c : rd y i < rd y m
    · rw [if_pos c]
      have him : m < i ∨ i ≤ m := by omega
      refine ih k (i + 1) i (by omega) (by omega) (by omega) (fun j hj => ?_) (fun j hj => ?_)
      · by_cases e : j = i
        · subst e; omega
        · have := h1 j (by omega); omega
      · have := h1 j (by omega); omega
    · rw [if_neg c]
      refine ih k (i + 1) m (by omega) (by omega) hm (fun j hj => ?_) h2
      by_cases e : j = i
      · subst e; omega
      · exact h1 j (by omega)
theorem baLoop_eq {k : Nat} {js : List Int} (hj : jumpsB js = true) (hk : 2000 < k) {s : Int} (h0 : 0 ≤ s) (h1 : s < js.length) (hm : (pathR js s).2 ∈ (pathR js s).1) :
    ∃ m, isLeast (loopL js s) m ∧ spec_baLoop.f k js s = some ((loopL js s).drop m ++ (loopL js s).take m, (firstN js s : Int)) := by
  have hl := (jumpsB_true hj).1
  have hp := (pathR_ok js s (by omega) (by omega)).1.len
  obtain ⟨e1, e2⟩ := first_of js s hm
  unfold spec_baLoop.f
  rw [baPath_eq hj (by omega), Option.bind_some, baPlace_eq _ (by omega) (by omega), Option.bind_some, e1, if_pos (by omega), if_pos (by omega), Option.bind_some, Int.toNat_natCast]
  have hlen : (loopL js s).length = (pathR js s).1.length - firstN js s := List.length_drop
  exact baLoop_l0 _ (loopL js s) (by omega) _ k 0 0 (by rw [Nat.zero_add]) (by omega) (by omega) (fun j hj => by omega) (fun j hj => by omega)

-- block implLoop
theorem loop_eq {k : Nat} {js : List Int} (hj : jumpsB js = true) (hk : 2000 < k) {s : Int} (h0 : 0 ≤ s) (h1 : s < js.length) :
    impl_loop.f k js s = some (if (pathR js s).2 ∈ (pathR js s).1 then (loopL js s, (firstN js s : Int)) else ([], 0)) := by
  have hl := (jumpsB_true hj).1
  have hp := (pathR_ok js s (by omega) (by omega)).1.len
  unfold impl_loop.f
  rw [impl_path_eq hj (by omega), Option.bind_some, Index_eq _ (by omega) (by omega), Option.bind_some]
  by_cases h : (pathR js s).2 ∈ (pathR js s).1
  · obtain ⟨e1, e2⟩ := first_of js s h
    rw [e1, if_neg (by omega), if_pos (by omega), if_pos (by omega), if_pos h]; rfl
  · rw [idx_none _ _ h, if_pos (by omega), if_neg h]
theorem loop_in {js : List Int} {s : Int} (h0 : 0 ≤ s) (h1 : s < js.length) : (pathR js s).2 ∈ (pathR js s).1 ↔ (0 ≤ (pathR js s).2 ∧ (pathR js s).2 < js.length) := by
  constructor
  · intro h; exact (pathR_ok js s (by omega) (by omega)).1.range _ h
  · intro h; exact pathR_end js s h.1 h.2

-- block minL0
theorem Min_l0 (l : List Int) (hl : l.length ≤ 1000000) (d : Nat) : ∀ (k i : Nat) (m : Int), i + d = l.length → d < k → (∀ j : Nat, j < i → m ≤ rd l j) → (∃ j : Nat, j < i ∧ rd l j = m) →
    ∃ r, slices_Min_int_int.l0 k l m i = some r ∧ (∀ j : Nat, j < l.length → r ≤ rd l j) ∧ ∃ j : Nat, j < l.length ∧ rd l j = r := by
  induction d with
  | zero =>
    intro k i m hd hk h1 h2
    obtain ⟨k, rfl⟩ : ∃ m, k = m + 1 := ⟨k - 1, by omega⟩
    have e : i = l.length := by omega
    subst e
    exact ⟨m, by rw [slices_Min_int_int.l0, if_neg (by omega)], h1, h2⟩
  | succ d ih =>
    intro k i m hd hk h1 h2
    obtain ⟨k, rfl⟩ : ∃ m, k = m + 1 := ⟨k - 1, by omega⟩
    obtain ⟨j, j1, j2⟩ := h2
    rw [slices_Min_int_int.l0, if_pos (by omega), if_pos (by omega), w64 (by omega), show (i : Int) + 1 = ((i + 1 : Nat) : Int) from rfl]
    refine ih k (i + 1) _ (by omega) (by omega) (fun j hj => ?_) ?_
    · unfold mn
      by_cases e : j = i
      · subst e; split <;> omega
      · have := h1 j (by omega); split <;> omega
    · unfold mn
      split
      · exact ⟨i, by omega, rfl⟩
      · exact ⟨j, by omega, by omega⟩

-- block minLeast
theorem Min_least {k : Nat} (l : List Int) (hl : l.length ≤ 1000000) (hk : l.length < k) {m : Nat} (hm : isLeast l m) : slices_Min_int_int.f k l = some (rd l m) := by
  have z : rd l ((0 : Nat) : Int) = rd l 0 := rfl
  have h0 : 0 < l.length := by have := hm.1; omega
  obtain ⟨r, e, r1, j, r2, r3⟩ := Min_l0 l hl (l.length - 1) k 1 (rd l 0) (by omega) (by omega) (fun j hj => by
    have : j = 0 := by omega
    subst this; exact Int.le_refl _) ⟨0, by omega, rfl⟩
  unfold slices_Min_int_int.f
  rw [if_neg (by omega), if_pos (by omega)]
  rw [show ((1 : Nat) : Int) = 1 from rfl] at e
  rw [e]
  have a := hm.2.1 j r2
  have b := r1 m hm.1
  congr 1; omega

-- block iter
def iterN (js : List Int) : Nat → Int → Int
  | 0, s => s
  | m + 1, s => iterN js m (nextI js s)
theorem iterN_add (js : List Int) (x y : Nat) : ∀ s, iterN js (x + y) s = iterN js x (iterN js y s) := by
  induction y with
  | zero => intro s; rfl
  | succ y ih => intro s; show iterN js (x + y) (nextI js s) = _; rw [ih]; rfl
/-- Two balls are on two steps. -/
def goodP (js : List Int) (a b : Int) : Prop := (0 ≤ a ∧ a < js.length) ∧ (0 ≤ b ∧ b < js.length) ∧ a ≠ b
theorem pairs_again (js : List Int) (a b : Int) (h : ∀ m, m ≤ js.length * js.length → goodP js (iterN js m a) (iterN js m b)) : ∀ m, goodP js (iterN js m a) (iterN js m b) := by
  have hex : ∃ i j, i < j ∧ j ≤ js.length * js.length ∧ iterN js i a = iterN js j a ∧ iterN js i b = iterN js j b := by
    apply Classical.byContradiction
    intro hno
    have hn := pigeon_nat (js.length * js.length) ((List.range (js.length * js.length + 1)).map fun m => js.length * (iterN js m a).toNat + (iterN js m b).toNat) (by
      rw [List.Nodup, List.pairwise_map]
      refine List.pairwise_lt_range.imp_of_mem (fun {i j} hi hj hij e => hno ⟨i, j, hij, ?_, ?_⟩)
      · have := List.mem_range.1 hj; omega
      · have hi' := h i (by have := List.mem_range.1 hi; omega)
        have hj' := h j (by have := List.mem_range.1 hj; omega)
        obtain ⟨⟨a1, a2⟩, ⟨a3, a4⟩, -⟩ := hi'
        obtain ⟨⟨b1, b2⟩, ⟨b3, b4⟩, -⟩ := hj'
        have hpos : 0 < js.length := by omega
        have q := congrArg (· / js.length) e
        have r := congrArg (· % js.length) e
        try simp only at q r
        rw [Nat.mul_add_div hpos, Nat.mul_add_div hpos, Nat.div_eq_of_lt (by omega), Nat.div_eq_of_lt (by omega)] at q
        rw [Nat.mul_add_mod, Nat.mul_add_mod, Nat.mod_eq_of_lt (by omega), Nat.mod_eq_of_lt (by omega)] at r
        omega) (by
      intro x hx
      obtain ⟨m, hm, rfl⟩ := List.mem_map.1 hx
      obtain ⟨⟨a1, a2⟩, ⟨a3, a4⟩, -⟩ := h m (by have := List.mem_range.1 hm; omega)
      have : js.length * ((iterN js m a).toNat + 1) ≤ js.length * js.length := Nat.mul_le_mul_left _ (by omega)
      rw [Nat.mul_add] at this
      omega)
    rw [List.length_map, List.length_range] at hn
    omega
  obtain ⟨i, j, hij, hj, ea, eb⟩ := hex
  intro m
  induction m using Nat.strongRecOn with
  | _ m ih =>
    by_cases hm : m ≤ js.length * js.length
    · exact h m hm
    · have e : m = (m - j) + j := by omega
      rw [e, iterN_add, iterN_add, ← ea, ← eb, ← iterN_add, ← iterN_add]
      exact ih (m - j + i) (by omega)

-- block pathIt
theorem pathF_it (js : List Int) (d : Nat) : ∀ (s : Int) (acc : List Int), ∃ t : List Int, (pathF js d s acc).1 = acc ++ t ∧ (∀ i : Nat, i < t.length → rd t i = iterN js i s) ∧ (pathF js d s acc).2 = iterN js t.length s ∧ (0 < d → 0 ≤ s → s < js.length → s ∉ acc → 0 < t.length) := by
  induction d with
  | zero => intro s acc; exact ⟨[], by simp [pathF], by simp, rfl, by omega⟩
  | succ d ih =>
    intro s acc
    unfold pathF
    by_cases g : 0 ≤ s ∧ s < js.length ∧ s ∉ acc
    · rw [if_pos g]
      obtain ⟨t, t1, t2, t3, -⟩ := ih (nextI js s) (acc ++ [s])
      refine ⟨s :: t, by rw [t1]; simp, fun i hi => ?_, by rw [t3]; rfl, fun _ _ _ _ => by simp⟩
      cases i with
      | zero => simp [rd, iterN]
      | succ i =>
        have := t2 i (by simpa using hi)
        rw [show iterN js (i + 1) s = iterN js i (nextI js s) from rfl, ← this]; simp [rd]
    · rw [if_neg g]; exact ⟨[], by simp, by simp, rfl, fun _ a b c => absurd ⟨a, b, c⟩ g⟩
/-- A path tells where the ball is, second by second. -/
theorem pathR_it (js : List Int) (s : Int) (h0 : 0 ≤ s) (h1 : s < js.length) : (∀ i : Nat, i < (pathR js s).1.length → rd (pathR js s).1 i = iterN js i s) ∧ (pathR js s).2 = iterN js (pathR js s).1.length s ∧ 0 < (pathR js s).1.length := by
  obtain ⟨t, t1, t2, t3, t4⟩ := pathF_it js (js.length + 1) s []
  have e : (pathR js s).1 = t := by unfold pathR; rw [t1]; rfl
  rw [e]
  exact ⟨t2, t3, t4 (by omega) h0 h1 (by simp)⟩
theorem rdget {l : List Int} {i : Nat} (h : i < l.length) : rd l (i : Int) = l[i] := by simp [rd, List.getD_eq_getElem?_getD, List.getElem?_eq_getElem h]
theorem rd_drop (l : List Int) (n i : Nat) : rd (l.drop n) (i : Int) = rd l ((n + i : Nat) : Int) := by
  unfold rd
  rw [List.getD_eq_getElem?_getD, List.getD_eq_getElem?_getD, Int.toNat_natCast, Int.toNat_natCast, List.getElem?_drop]
theorem nodup_rd {l : List Int} (h : l.Nodup) {i j : Nat} (hi : i < l.length) (hj : j < l.length) (e : rd l (i : Int) = rd l (j : Int)) : i = j := by
  rw [rdget hi, rdget hj] at e
  exact (List.getElem_inj h).1 e

-- block toIntS
theorem toIntS_l0 (l : List Int) (hl : l.length ≤ 1048576) (d : Nat) : ∀ (k i : Nat) (m : List Int), i + d = l.length → d < k → m.length = d → laws_toIntS.l0 k l (l.take i ++ m) i = some l := by
  induction d with
  | zero =>
    intro k i m hd hk hm
    obtain ⟨k, rfl⟩ : ∃ n, k = n + 1 := ⟨k - 1, by omega⟩
    obtain rfl := List.eq_nil_of_length_eq_zero hm
    simp only [laws_toIntS.l0]; rw [if_neg (by omega), List.take_of_length_le (by omega), List.append_nil]
  | succ d ih =>
    intro k i m hd hk hm
    obtain ⟨k, rfl⟩ : ∃ n, k = n + 1 := ⟨k - 1, by omega⟩
    obtain ⟨x, m, rfl⟩ : ∃ x p, m = x :: p := by
      cases m with
      | nil => simp at hm
      | cons x p => exact ⟨x, p, rfl⟩
    simp only [laws_toIntS.l0]
    have hi : i < l.length := by omega
    have hlen : (l.take i ++ x :: m).length = l.length := by simp at hm ⊢; omega
    have e : (l.take i ++ x :: m).set (i : Int).toNat (rd l i) = l.take (i + 1) ++ m := by
      have ht : (l.take i).length = i := by simp; omega
      rw [Int.toNat_natCast, List.set_append_right _ _ (by omega), ht, Nat.sub_self, List.set_cons_zero, List.take_succ_eq_append_getElem hi, List.append_assoc]
      simp [rd, List.getD_eq_getElem?_getD, List.getElem?_eq_getElem hi]
    rw [if_pos (by omega), if_pos (by omega), if_pos (by omega), e, w64 (by omega)]
    exact ih k (i + 1) m (by omega) (by omega) (by simpa using hm)
theorem toIntS_eq {k : Nat} {l : List Int} (hl : l.length ≤ 1048576) (hk : 1048576 < k) : laws_toIntS.f k l = some l := by
  unfold laws_toIntS.f
  rw [if_pos (by omega), if_pos (by omega)]
  have := toIntS_l0 l hl l.length k 0 (List.replicate l.length 0) (by omega) (by omega) (by simp)
  simpa using this

-- block eqIntS
theorem eqIntS_l0 (l : List Int) (hl : l.length ≤ 1000000000) (d : Nat) : ∀ (k i : Nat), i + d = l.length → d < k → laws_eqIntS.l0 k l l i = some true := by
  induction d with
  | zero =>
    intro k i hd hk
    obtain ⟨k, rfl⟩ : ∃ m, k = m + 1 := ⟨k - 1, by omega⟩
    simp only [laws_eqIntS.l0]; rw [if_neg (by omega)]
  | succ d ih =>
    intro k i hd hk
    obtain ⟨k, rfl⟩ : ∃ m, k = m + 1 := ⟨k - 1, by omega⟩
    simp only [laws_eqIntS.l0]
    rw [if_pos (by omega), if_pos (by omega), if_pos (by omega), if_pos trivial, w64 (by omega)]
    exact ih k (i + 1) (by omega) (by omega)
theorem eqIntS_self {k : Nat} {l : List Int} (hl : l.length ≤ 1000000000) (hk : l.length < k) : laws_eqIntS.f k l l = some true := by
  unfold laws_eqIntS.f
  rw [if_pos rfl, show (0 : Int) = ((0 : Nat) : Int) from rfl, eqIntS_l0 l hl l.length k 0 (by omega) hk]

-- block marks
def ups (a : Int) (n : Nat) : List Int := (List.range n).map fun i : Nat => a + (i : Int)
theorem ups_length (a : Int) (n : Nat) : (ups a n).length = n := by simp [ups]
theorem ups_succ (a : Int) (n : Nat) : ups a (n + 1) = ups a n ++ [a + n] := by simp [ups, List.range_succ]
theorem rd_ups (a : Int) (n i : Nat) (h : i < n) : rd (ups a n) i = a + i := by
  unfold rd ups
  rw [List.getD_eq_getElem?_getD, Int.toNat_natCast, List.getElem?_map, List.getElem?_range h]; rfl
theorem markIntS_l0 (a : Int) (ha : 0 ≤ a) (d : Nat) : ∀ (k i : Nat) (post : List Int), post.length = d → a + i + d ≤ 4000000000000 → d < k →
    laws_markIntS.l0 k (ups a i ++ post) (a + i) i = some (a + i + d, ups a (i + d)) := by
  induction d with
  | zero =>
    intro k i post hp hb hk
    obtain ⟨k, rfl⟩ : ∃ m, k = m + 1 := ⟨k - 1, by omega⟩
    obtain rfl := List.eq_nil_of_length_eq_zero hp
    simp only [laws_markIntS.l0]
    rw [if_neg (by simp [ups_length])]
    simp
  | succ d ih =>
    intro k i post hp hb hk
    obtain ⟨k, rfl⟩ : ∃ m, k = m + 1 := ⟨k - 1, by omega⟩
    obtain ⟨x, post, rfl⟩ : ∃ x p, post = x :: p := by
      cases post with
      | nil => simp at hp
      | cons x p => exact ⟨x, p, rfl⟩
    simp only [laws_markIntS.l0]
    rw [if_pos (by simp [ups_length]; omega), if_pos (by omega), w64 (by omega), w64 (by omega)]
    have e : (ups a i ++ x :: post).set (i : Int).toNat (a + i) = ups a (i + 1) ++ post := by
      rw [Int.toNat_natCast, List.set_append_right _ _ (by simp [ups_length]), ups_length, Nat.sub_self, List.set_cons_zero, ups_succ, List.append_assoc]; rfl
    rw [e, show a + (i : Int) + 1 = a + ((i + 1 : Nat) : Int) from by omega, show (i : Int) + 1 = ((i + 1 : Nat) : Int) from rfl]
    rw [ih k (i + 1) post (by simpa using hp) (by omega) (by omega)]
    rw [show i + 1 + d = i + (d + 1) from by omega]
    congr 2; omega
theorem markIntS_eq {k : Nat} {l : List Int} {a : Int} (ha : 0 ≤ a) (hb : a + l.length ≤ 4000000000000) (hk : l.length < k) : laws_markIntS.f k l a = some (a + l.length, ups a l.length) := by
  unfold laws_markIntS.f
  have := markIntS_l0 a ha l.length k 0 l rfl (by omega) hk
  simpa [ups] using this
theorem heldIntS_l0 (a : Int) (ha : 0 ≤ a) (n : Nat) (hb : a + n ≤ 4000000000000) (d : Nat) : ∀ (k i : Nat), i + d = n → d < k → laws_heldIntS.l0 k (ups a n) (a + i) i = some (a + n) := by
  induction d with
  | zero =>
    intro k i hd hk
    obtain ⟨k, rfl⟩ : ∃ m, k = m + 1 := ⟨k - 1, by omega⟩
    simp only [laws_heldIntS.l0]
    rw [if_neg (by rw [ups_length]; omega)]
    congr 1; omega
  | succ d ih =>
    intro k i hd hk
    obtain ⟨k, rfl⟩ : ∃ m, k = m + 1 := ⟨k - 1, by omega⟩
    simp only [laws_heldIntS.l0]
    rw [if_pos (by rw [ups_length]; omega), if_pos (by omega), rd_ups _ _ _ (by omega), if_pos rfl, w64 (by omega), w64 (by omega)]
    rw [show a + (i : Int) + 1 = a + ((i + 1 : Nat) : Int) from by omega, show (i : Int) + 1 = ((i + 1 : Nat) : Int) from rfl]
    exact ih k (i + 1) (by omega) (by omega)
theorem heldIntS_eq {k n : Nat} {a : Int} (ha : 0 ≤ a) (hb : a + n ≤ 4000000000000) (hk : n < k) : laws_heldIntS.f k (ups a n) a = some (a + n) := by
  unfold laws_heldIntS.f
  have := heldIntS_l0 a ha n hb n k 0 (by omega) hk
  simpa using this

-- import Derived.Test.YtbbkbooiefoihaaLoopsWalk
/- The program's AllLoops returns what the reference's returns, for all arguments. No condition. -/
theorem AllLoops_l0 (js : List Int) (hj : jumpsB js = true) (d : Nat) : ∀ (k i : Nat) (acc : List (List Int)), i + d = js.length → 3000 + d < k → acc.length ≤ i → (∀ y ∈ acc, y.length ≤ 30) →
    ∃ out, spec_AllLoops.l0 k js acc js.length i = some (out, true) ∧ impl_AllLoops.l0 k js acc js.length i = some (out, true) ∧ out.length ≤ 30 ∧ ∀ y ∈ out, y.length ≤ 30 := by
  have hl := (jumpsB_true hj).1
  induction d with
  | zero =>
    intro k i acc hd hk ha hy
    obtain ⟨k, rfl⟩ : ∃ m, k = m + 1 := ⟨k - 1, by omega⟩
    refine ⟨acc, ?_, ?_, by omega, hy⟩
    · rw [spec_AllLoops.l0, if_neg (by omega)]
    · rw [impl_AllLoops.l0, if_neg (by omega)]
  | succ d ih =>
    intro k i acc hd hk ha hy
    obtain ⟨k, rfl⟩ : ∃ m, k = m + 1 := ⟨k - 1, by omega⟩
    have hi : i < js.length := by omega
    have go := ih k (i + 1)
    have hP := pathR_ok js (i : Int) (by omega) (by omega)
    have hp := hP.1.len
    rw [spec_AllLoops.l0, impl_AllLoops.l0, if_pos (by omega), if_pos (by omega), baEnd_eq hj (by omega), loop_eq hj (by omega) (by omega) (by omega), Option.bind_some, Option.bind_some, w64 (by omega), show (i : Int) + 1 = ((i + 1 : Nat) : Int) from rfl]
    have hin := loop_in (js := js) (s := (i : Int)) (by omega) (by omega)
    by_cases c : (pathR js i).2 ∈ (pathR js i).1
    · obtain ⟨m, m1, m2⟩ := baLoop_eq (k := k) hj (by omega) (s := (i : Int)) (by omega) (by omega) c
      obtain ⟨e1, e2⟩ := first_of js i c
      have hlen : (loopL js i).length = (pathR js i).1.length - firstN js i := List.length_drop
      have hmin := Min_least (k := k) (loopL js i) (by omega) (by omega) m1
      have hrd : rd ((loopL js i).drop m ++ (loopL js i).take m) 0 = rd (loopL js i) m := by
        have hm := m1.1
        have a : 0 < (loopL js i).length - m := by omega
        simp only [rd, List.getD_eq_getElem?_getD]
        rw [show (0 : Int).toNat = 0 from rfl, List.getElem?_append_left (by rw [List.length_drop]; exact a), List.getElem?_drop, Nat.add_zero, Int.toNat_natCast]
      have hL : ((loopL js i).drop m ++ (loopL js i).take m).length = (loopL js i).length := by
        have := m1.1
        rw [List.length_append, List.length_drop, List.length_take]; omega
      rw [if_pos ((endV_l js i).2 (hin.1 c)), m2, Option.bind_some, if_pos c]
      dsimp only
      rw [if_pos (show (0 : Int) < (((loopL js i).drop m ++ (loopL js i).take m).length : Int) by omega), hrd, if_pos (show ((loopL js i).length : Int) > 0 by omega), hmin, Option.bind_some]
      by_cases e : rd (loopL js i) m = i
      · obtain ⟨q1, q2, q3⟩ := pathR_it js i (by omega) (by omega)
        have z0 : rd (pathR js i).1 ((0 : Nat) : Int) = i := q1 0 q3
        have zm : rd (pathR js i).1 ((firstN js i + m : Nat) : Int) = i := by rw [← rd_drop]; exact e
        have hm := m1.1
        have z := nodup_rd hP.1.nodup (i := firstN js i + m) (j := 0) (by omega) (by omega) (by rw [zm, z0])
        have f0 : firstN js i = 0 := by omega
        have g0 : m = 0 := by omega
        subst g0
        have hx : (loopL js i).drop 0 ++ (loopL js i).take 0 = loopL js i := by simp
        rw [hx, if_pos e, f0, if_pos (show acc.length < 5864062014805 by omega), if_pos (show ((0 : Nat) : Int) = 0 from rfl), if_pos e]
        unfold slices_Clone_int_int.f
        rw [if_pos (by omega), Option.bind_some, if_pos (by omega)]
        exact go _ (by omega) (by omega) (by simp; omega) (fun y h => by
          rcases List.mem_append.1 h with h | h
          · exact hy y h
          · simp at h; subst h; omega)
      · rw [if_neg e]
        obtain ⟨out, o1, o2, o3⟩ := go acc (by omega) (by omega) (by omega) hy
        refine ⟨out, o1, ?_, o3⟩
        by_cases f : (firstN js i : Int) = 0
        · rw [if_pos f, if_neg e]; exact o2
        · rw [if_neg f]; exact o2
    · rw [if_neg (fun z => c (hin.2 ((endV_l js i).1 z))), if_neg c]
      dsimp only
      rw [if_neg (by simp)]
      exact go acc (by omega) (by omega) (by omega) hy
theorem AllLoops_eq {k : Nat} (hk : 1200000 < k) (l : List Int) (hl : l.length ≤ 1048576) : ∃ x b, spec_AllLoops.f k l = some (x, b) ∧ impl_AllLoops.f k l = some (x, b) ∧ x.length ≤ 30 ∧ ∀ y ∈ x, y.length ≤ 30 := by
  unfold spec_AllLoops.f impl_AllLoops.f
  rw [baGood_eq (by omega), AreJumps_eq, Option.bind_some, Option.bind_some]
  by_cases h : jumpsB l = true
  · rw [if_pos h, if_pos h]
    obtain ⟨out, o1, o2, o3, o4⟩ := AllLoops_l0 l h l.length k 0 [] (by omega) (by have := (jumpsB_true h).1; omega) (by simp) (by simp)
    exact ⟨out, true, o1, o2, o3, o4⟩
  · rw [if_neg h, if_neg h]; exact ⟨[], false, rfl, rfl, by simp, by simp⟩
/-! rows of rows: alike, marked, held -/
theorem rdL1_mem {x : List (List Int)} {i : Nat} (h : i < x.length) : rd_L1 x (i : Int) = x[i] := by simp [rd_L1, List.getD_eq_getElem?_getD, List.getElem?_eq_getElem h]
theorem eqIntSS_l0 (x : List (List Int)) (hx : x.length ≤ 1000) (hy : ∀ y ∈ x, y.length ≤ 1000) (d : Nat) : ∀ (k i : Nat), i + d = x.length → 1000 + d < k → laws_eqIntSS.l0 k x x i = some true := by
  induction d with
  | zero =>
    intro k i hd hk
    obtain ⟨k, rfl⟩ : ∃ m, k = m + 1 := ⟨k - 1, by omega⟩
    simp only [laws_eqIntSS.l0]; rw [if_neg (by omega)]
  | succ d ih =>
    intro k i hd hk
    obtain ⟨k, rfl⟩ : ∃ m, k = m + 1 := ⟨k - 1, by omega⟩
    have h : i < x.length := by omega
    have hl := hy _ (List.getElem_mem h)
    simp only [laws_eqIntSS.l0]
    rw [if_pos (by omega), if_pos (by omega), if_pos (by omega), rdL1_mem h, eqIntS_self (by omega) (by omega), Option.bind_some, if_pos rfl, w64 (by omega)]
    exact ih k (i + 1) (by omega) (by omega)
theorem eqIntSS_self {k : Nat} (x : List (List Int)) (hx : x.length ≤ 1000) (hy : ∀ y ∈ x, y.length ≤ 1000) (hk : 3000 < k) : laws_eqIntSS.f k x x = some true := by
  unfold laws_eqIntSS.f
  rw [if_pos rfl, show (0 : Int) = ((0 : Nat) : Int) from rfl, eqIntSS_l0 x hx hy x.length k 0 (by omega) (by omega)]
/-- The rows, marked from a on, and what comes behind. -/
def upsS : Int → List (List Int) → List (List Int)
  | _, [] => []
  | a, y :: ys => ups a y.length :: upsS (a + y.length) ys
def sumL : List (List Int) → Nat
  | [] => 0
  | y :: ys => y.length + sumL ys
theorem sumL_le (n : Nat) : ∀ (x : List (List Int)), (∀ y ∈ x, y.length ≤ n) → sumL x ≤ x.length * n := by
  intro x
  induction x with
  | nil => intro _; simp [sumL]
  | cons y ys ih =>
    intro h
    have a := h y (by simp)
    have b := ih (fun z hz => h z (by simp [hz]))
    unfold sumL
    rw [List.length_cons, Nat.succ_mul]; omega
theorem markSS_l0 (d : Nat) : ∀ (k : Nat) (pre post : List (List Int)) (a : Int), 0 ≤ a → a + sumL post ≤ 4000000000 → post.length = d → (∀ y ∈ post, y.length ≤ 1000) → pre.length + d ≤ 1000 → 1000 + d < k →
    laws_markIntSS.l0 k (pre ++ post) a pre.length = some (a + sumL post, pre ++ upsS a post) := by
  induction d with
  | zero =>
    intro k pre post a _ _ hp _ _ hk
    obtain ⟨k, rfl⟩ : ∃ m, k = m + 1 := ⟨k - 1, by omega⟩
    obtain rfl := List.eq_nil_of_length_eq_zero hp
    simp only [laws_markIntSS.l0]; rw [if_neg (by simp)]; simp [sumL, upsS]
  | succ d ih =>
    intro k pre post a h0 h1 hp hy hq hk
    obtain ⟨k, rfl⟩ : ∃ m, k = m + 1 := ⟨k - 1, by omega⟩
    obtain ⟨y, ys, rfl⟩ : ∃ y ys, post = y :: ys := by
      cases post with
      | nil => simp at hp
      | cons y ys => exact ⟨y, ys, rfl⟩
    have hyl := hy y (by simp)
    simp only [sumL] at h1
    simp only [laws_markIntSS.l0]
    have hrow : rd_L1 (pre ++ y :: ys) (pre.length : Int) = y := by simp [rd_L1, List.getD_eq_getElem?_getD]
    rw [if_pos (show (pre.length : Int) < ((pre ++ y :: ys).length : Int) by rw [List.length_append, List.length_cons]; omega), if_pos (by omega), hrow, markIntS_eq h0 (by omega) (by omega), Option.bind_some]
    have hset : (pre ++ y :: ys).set (pre.length : Int).toNat (ups a y.length) = (pre ++ [ups a y.length]) ++ ys := by
      rw [Int.toNat_natCast, List.set_append_right _ _ (Nat.le_refl _), Nat.sub_self, List.set_cons_zero, List.append_assoc]; rfl
    dsimp only
    rw [hset, w64 (by omega), show (pre.length : Int) + 1 = (((pre ++ [ups a y.length]).length : Nat) : Int) from by simp]
    simp only [List.length_cons] at hp
    rw [ih k (pre ++ [ups a y.length]) ys (a + y.length) (by omega) (by omega) (by omega) (fun z hz => hy z (by simp [hz])) (by simp; omega) (by omega)]
    simp only [sumL, upsS, List.append_assoc, List.singleton_append]
    congr 2; omega
theorem upsS_length (x : List (List Int)) : ∀ a, (upsS a x).length = x.length := by
  induction x with
  | nil => intro a; rfl
  | cons y ys ih => intro a; simp [upsS, ih]
theorem heldSS_l0 (d : Nat) : ∀ (k : Nat) (pre post : List (List Int)) (a : Int), 0 ≤ a → a + sumL post ≤ 4000000000 → post.length = d → (∀ y ∈ post, y.length ≤ 1000) → pre.length + d ≤ 1000 → 1000 + d < k →
    laws_heldIntSS.l0 k (pre ++ upsS a post) a pre.length = some (a + sumL post) := by
  induction d with
  | zero =>
    intro k pre post a _ _ hp _ _ hk
    obtain ⟨k, rfl⟩ : ∃ m, k = m + 1 := ⟨k - 1, by omega⟩
    obtain rfl := List.eq_nil_of_length_eq_zero hp
    simp only [laws_heldIntSS.l0]; rw [if_neg (by simp [upsS])]; simp [sumL]
  | succ d ih =>
    intro k pre post a h0 h1 hp hy hq hk
    obtain ⟨k, rfl⟩ : ∃ m, k = m + 1 := ⟨k - 1, by omega⟩
    obtain ⟨y, ys, rfl⟩ : ∃ y ys, post = y :: ys := by
      cases post with
      | nil => simp at hp
      | cons y ys => exact ⟨y, ys, rfl⟩
    have hyl := hy y (by simp)
    simp only [sumL] at h1
    rw [show upsS a (y :: ys) = ups a y.length :: upsS (a + y.length) ys from rfl, laws_heldIntSS.l0]
    have hrow : rd_L1 (pre ++ ups a y.length :: upsS (a + y.length) ys) (pre.length : Int) = ups a y.length := by simp [rd_L1, List.getD_eq_getElem?_getD]
    rw [if_pos (show (pre.length : Int) < ((pre ++ ups a y.length :: upsS (a + y.length) ys).length : Int) by rw [List.length_append, List.length_cons]; omega), if_pos (by omega), hrow, heldIntS_eq h0 (by omega) (by omega), Option.bind_some, if_neg (by omega)]
    have hset : pre ++ ups a y.length :: upsS (a + y.length) ys = (pre ++ [ups a y.length]) ++ upsS (a + y.length) ys := by simp
    rw [hset, w64 (by omega), show (pre.length : Int) + 1 = (((pre ++ [ups a y.length]).length : Nat) : Int) from by simp]
    simp only [List.length_cons] at hp
    rw [ih k (pre ++ [ups a y.length]) ys (a + y.length) (by omega) (by omega) (by omega) (fun z hz => hy z (by simp [hz])) (by simp; omega) (by omega)]
    simp only [sumL]
    congr 1; omega
theorem FnExactAllLoops (a0 : Option Addr) (len0 cap0 : Nat) (z0 : List Int) (w : World) (w0 : (a0 = none ∧ len0 = 0 ∧ cap0 = 0 ∧ z0 = []) ∨ ∃ x, a0 = some x ∧ len0 ≤ cap0 ∧ cap0 ≤ maxLen ∧ z0.length = cap0 ∧ (∀ i, i < z0.length → w.cell? (x.add i) = some (.int .i64 (z0.getD i 0))) ∧ ∀ n ∈ z0, (Lit.int .i64 n).wf = true) (y0 : len0 * 8 ≤ 140737488351232) :
    Calls Try.prog 3 #[.slice a0 len0 cap0] w fun e w' => e = .returned (.bool true) ∧ Below w.heap.size w w' := by
  obtain ⟨l0, rfl, hr0, hm0, hw0, hc0⟩ := ReadsInt.ofRowC w0
  have hr := Kd.C_of_reads (d := (0 : Int)) (h1 := fun _ => rfl) hr0
  by_cases hs : (l0.length : Int) > 1048576
  · exact loops_long _ _ l0 w hs
  · obtain ⟨x, b, x1, x2, x3, x4⟩ := AllLoops_eq (k := 2000000) (by omega) l0 (by omega)
    have hsum := sumL_le 30 x x4
    have hsm : sumL x ≤ 900 := Nat.le_trans hsum (by omega)
    have mk := markSS_l0 x.length 2000000 [] x 1 (by omega) (by omega) rfl (fun y hy => by have := x4 y hy; omega) (by simp; omega) (by omega)
    have hd := heldSS_l0 x.length 2000000 [] x 1 (by omega) (by omega) rfl (fun y hy => by have := x4 y hy; omega) (by simp; omega) (by omega)
    exact loops_walk 2000000 _ _ l0 w x (upsS 1 x) b (1 + l0.length) (1 + sumL x) (ups 1 l0.length) hr hc0 (by omega) ⟨toIntS_eq (by omega) (by omega)⟩ ⟨x1⟩ ⟨x2⟩ ⟨eqIntSS_self x (by omega) (fun y hy => by have := x4 y hy; omega) (by omega)⟩ ⟨eqIntS_self (by omega) (by omega)⟩ ⟨markIntS_eq (by omega) (by omega) (by omega)⟩ ⟨mk⟩ ⟨hd⟩ (by omega) (by omega)

end Go.Proofs.Ytbbkbooiefoihaa.Pure
