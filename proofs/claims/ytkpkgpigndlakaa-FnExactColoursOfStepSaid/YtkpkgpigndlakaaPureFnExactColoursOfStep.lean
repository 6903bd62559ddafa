/- The program's ColoursOfStep returns what the reference's returns, for all arguments. No condition. -/
import Derived.Test.YtkpkgpigndlakaaPFnExactColoursOfStepx2
namespace Go.Proofs.Ytkpkgpigndlakaa.Pure
open Go.RowKit Go.Proofs.Ytkpkgpigndlakaa.PFnExactColoursOfStep Go.Proofs.YtkpkgpigndlakaaW.PrintWords Go.Proofs.YtkpkgpigndlakaaW.PrintLast

-- block within
theorem within_eq (a b c : Int) : impl_within.f a b c = some (decide (b ≤ a ∧ a ≤ c)) := by
  unfold impl_within.f
  by_cases h : b ≤ a
  · rw [if_pos h]; simp [h]
  · rw [if_neg h]; simp [h]

-- block l1In
theorem l1In_eq (a b c : Int) : spec_l1In.f a b c = some (decide (b ≤ a ∧ a ≤ c)) := by
  unfold spec_l1In.f
  by_cases h : a ≥ b
  · rw [if_pos h]; simp [show b ≤ a from h]
  · rw [if_neg h]; simp [show ¬ b ≤ a from h]

-- block w64
theorem w64 {x : Int} (h : -9223372036854775808 ≤ x ∧ x ≤ 9223372036854775807) : wrap64 x = x := by
  unfold wrap64; omega

-- block striped
abbrev low (s : ByteArray) : Prop := ∀ j : Nat, j < s.size → 97 ≤ bt s j ∧ bt s j ≤ 122
theorem cpStripes_good (s : ByteArray) (hs : s.size ≤ 1048576) (h : low s) (d : Nat) : ∀ (k i : Nat), i + d = s.size → d < k → spec_cpStripes.l0 k s i = some true := by
  induction d with
  | zero =>
    intro k i hd hk
    obtain ⟨k, rfl⟩ : ∃ m, k = m + 1 := ⟨k - 1, by omega⟩
    simp only [spec_cpStripes.l0]; rw [if_neg (by omega)]
  | succ d ih =>
    intro k i hd hk
    obtain ⟨k, rfl⟩ : ∃ m, k = m + 1 := ⟨k - 1, by omega⟩
    simp only [spec_cpStripes.l0]
    have := h i (by omega)
    rw [if_pos (by omega), if_pos (by omega), if_neg (by omega), if_neg (by omega), w64 (by omega)]
    exact ih k (i + 1) (by omega) (by omega)
theorem cpStripes_bad (s : ByteArray) (hs : s.size ≤ 1048576) (j : Nat) (hj : j < s.size) (h : ¬ (97 ≤ bt s j ∧ bt s j ≤ 122)) (d : Nat) : ∀ (k i : Nat), i ≤ j → i + d = s.size → d < k → spec_cpStripes.l0 k s i = some false := by
  induction d with
  | zero => intro k i hi hd hk; omega
  | succ d ih =>
    intro k i hi hd hk
    obtain ⟨k, rfl⟩ : ∃ m, k = m + 1 := ⟨k - 1, by omega⟩
    simp only [spec_cpStripes.l0]
    rw [if_pos (by omega), if_pos (by omega)]
    by_cases h1 : bt s (i : Int) < 97
    · rw [if_pos h1]
    · by_cases h2 : bt s (i : Int) > 122
      · rw [if_neg h1, if_pos h2]
      · rw [if_neg h1, if_neg h2, w64 (by omega)]
        have hne : i ≠ j := by rintro rfl; exact h ⟨by omega, by omega⟩
        exact ih k (i + 1) (by omega) (by omega) (by omega)
theorem cpStripes_eq {k : Nat} {s : ByteArray} (hs : s.size ≤ 1048576) (hk : 1048576 < k) : spec_cpStripes.f k s = some (decide ((1 ≤ s.size ∧ s.size ≤ 10) ∧ low s)) := by
  unfold spec_cpStripes.f
  rw [l1In_eq, Option.bind_some]
  by_cases h : 1 ≤ s.size ∧ s.size ≤ 10
  · rw [if_pos (by simp; omega)]
    by_cases g : low s
    · rw [show (0 : Int) = ((0 : Nat) : Int) from rfl, cpStripes_good s hs g s.size k 0 (by omega) (by omega), decide_eq_true ⟨h, g⟩]
    · have g' := g
      simp only [low, Classical.not_forall] at g
      obtain ⟨j, hj, hb⟩ := g
      rw [show (0 : Int) = ((0 : Nat) : Int) from rfl, cpStripes_bad s hs j hj hb s.size k 0 (by omega) (by omega) (by omega), decide_eq_false (fun z => g' z.2)]
  · rw [if_neg (by simp; omega), decide_eq_false (fun z => h z.1)]
theorem IsStriped_good (s : ByteArray) (hs : s.size ≤ 1048576) (h : low s) (d : Nat) : ∀ (k i : Nat), i + d = s.size → d < k → impl_IsStriped.l0 k s s.size i = some (decide (1 ≤ s.size ∧ s.size ≤ 10)) := by
  induction d with
  | zero =>
    intro k i hd hk
    obtain ⟨k, rfl⟩ : ∃ m, k = m + 1 := ⟨k - 1, by omega⟩
    simp only [impl_IsStriped.l0]; rw [if_neg (by omega), within_eq, Option.bind_some]
    congr 1; rw [decide_eq_decide]; omega
  | succ d ih =>
    intro k i hd hk
    obtain ⟨k, rfl⟩ : ∃ m, k = m + 1 := ⟨k - 1, by omega⟩
    simp only [impl_IsStriped.l0]
    have := h i (by omega)
    rw [if_pos (by omega), if_pos (by omega), if_pos (by omega), if_neg (by omega), if_neg (by omega), w64 (by omega)]
    exact ih k (i + 1) (by omega) (by omega)
theorem IsStriped_bad (s : ByteArray) (hs : s.size ≤ 1048576) (j : Nat) (hj : j < s.size) (h : ¬ (97 ≤ bt s j ∧ bt s j ≤ 122)) (d : Nat) : ∀ (k i : Nat), i ≤ j → i + d = s.size → d < k → impl_IsStriped.l0 k s s.size i = some false := by
  induction d with
  | zero => intro k i hi hd hk; omega
  | succ d ih =>
    intro k i hi hd hk
    obtain ⟨k, rfl⟩ : ∃ m, k = m + 1 := ⟨k - 1, by omega⟩
    simp only [impl_IsStriped.l0]
    rw [if_pos (by omega), if_pos (by omega), if_pos (by omega)]
    by_cases h1 : bt s (i : Int) < 97
    · rw [if_pos h1]
    · by_cases h2 : bt s (i : Int) > 122
      · rw [if_neg h1, if_pos h2]
      · rw [if_neg h1, if_neg h2, w64 (by omega)]
        have hne : i ≠ j := by rintro rfl; exact h ⟨by omega, by omega⟩
        exact ih k (i + 1) (by omega) (by omega) (by omega)
theorem IsStriped_eq {k : Nat} {s : ByteArray} (hs : s.size ≤ 1048576) (hk : 1048576 < k) : impl_IsStriped.f k s = some (decide ((1 ≤ s.size ∧ s.size ≤ 10) ∧ low s)) := by
  unfold impl_IsStriped.f
  by_cases g : low s
  · rw [show (0 : Int) = ((0 : Nat) : Int) from rfl, IsStriped_good s hs g s.size k 0 (by omega) (by omega)]
    congr 1; rw [decide_eq_decide]; exact ⟨fun h => ⟨h, g⟩, fun h => h.1⟩
  · have g' := g
    simp only [low, Classical.not_forall] at g
    obtain ⟨j, hj, hb⟩ := g
    rw [show (0 : Int) = ((0 : Nat) : Int) from rfl, IsStriped_bad s hs j hj hb s.size k 0 (by omega) (by omega) (by omega), decide_eq_false (fun z => g' z.2)]

-- block cpNeed
theorem cpNeed_eq (a : Int) : spec_cpNeed.f a = some (decide (1 ≤ a ∧ a ≤ 100)) := by
  unfold spec_cpNeed.f; rw [l1In_eq]; rfl

-- block cpSteps
theorem cpSteps_eq (a b : Int) : spec_cpSteps.f a b = some (decide ((1 ≤ a ∧ a ≤ 100) ∧ (1 ≤ b ∧ b ≤ 100))) := by
  unfold spec_cpSteps.f; rw [l1In_eq, Option.bind_some]
  by_cases h : 1 ≤ a ∧ a ≤ 100
  · rw [if_pos (decide_eq_true h), cpNeed_eq]; simp [h]
  · rw [if_neg (by simp; omega)]; simp [h]

-- block isNeed
theorem isNeed_eq (a : Int) : impl_isNeed.f a = some (decide (1 ≤ a ∧ a ≤ 100)) := by
  unfold impl_isNeed.f; rw [within_eq]; rfl

-- block isCover
theorem isCover_eq (a : Int) : impl_isCover.f a = some (decide (1 ≤ a ∧ a ≤ 100)) := by
  unfold impl_isCover.f; rw [within_eq]; rfl

-- block sons
theorem son_app (l m : List Int) : strOfNums (l ++ m) = strOfNums l ++ strOfNums m := by
  apply ByteArray.ext
  rw [ByteArray.data_append]
  simp [strOfNums]
theorem son_nil : strOfNums [] = (⟨#[]⟩ : ByteArray) := rfl
theorem extract_one (s : ByteArray) (j : Nat) (h : j < s.size) : s.extract j (j + 1) = strOfNums [bt s j] := by
  apply ByteArray.ext
  rw [ByteArray.data_extract]
  apply Array.ext'
  have h' : j < s.data.toList.length := by simpa using h
  have e : s.data.toList[j] = s[j] := rfl
  have hb : bt s j = ((s[j]'h).toNat : Int) := by simp [bt, h]
  rw [Array.toList_extract, List.extract_eq_take_drop, show j + 1 - j = 1 from by omega, List.drop_eq_getElem_cons h', e]
  simp [strOfNums, hb]

-- block tdiv
theorem tdiv_nat (a b : Nat) : Int.tdiv (a : Int) (b : Int) = ((a / b : Nat) : Int) := rfl
theorem tmod_nat (a b : Nat) : Int.tmod (a : Int) (b : Int) = ((a % b : Nat) : Int) := rfl
theorem tdiv_pos {a b : Int} (ha : 0 ≤ a) : Int.tdiv a b = a / b := Int.tdiv_eq_ediv_of_nonneg ha
theorem tmod_pos {a b : Int} (ha : 0 ≤ a) : Int.tmod a b = a % b := Int.tmod_eq_emod_of_nonneg ha

-- block cols
def cols (s : ByteArray) (i d : Nat) : List Int := (List.range' i d).map fun j => bt s ((j % s.size : Nat) : Int)
theorem cols_cons (s : ByteArray) (i d : Nat) : cols s i (d + 1) = bt s ((i % s.size : Nat) : Int) :: cols s (i + 1) d := by simp [cols, List.range'_succ]
theorem cols_length (s : ByteArray) (i d : Nat) : (cols s i d).length = d := by simp [cols]
theorem spec_cols_l0 (s : ByteArray) (w n B q : Nat) (hs : 0 < s.size) (hs2 : s.size ≤ 10) (hw : 0 < w) (hw2 : w ≤ 100) (hn : 0 < n) (hn2 : n ≤ 100) (hB : B ≤ 10000) (hq : q = (B + n - 1) / w) (d : Nat) : ∀ (k i : Nat) (acc : List Int), i + d = q + 1 → d < k → acc.length ≤ i →
    spec_ColoursOfStep.l0 k s w n (strOfNums acc) B i = some (strOfNums (acc ++ cols s i d), true) := by
  have hq2 : q ≤ 10100 := by rw [hq]; exact Nat.le_trans (Nat.div_le_self _ _) (by omega)
  have key : ∀ i : Nat, i ≤ q ↔ i * w < B + n := by
    intro i; rw [hq, Nat.le_div_iff_mul_le hw]; omega
  induction d with
  | zero =>
    intro k i acc hd hk ha
    obtain ⟨k, rfl⟩ : ∃ m, k = m + 1 := ⟨k - 1, by omega⟩
    simp only [spec_ColoursOfStep.l0]
    have hm : (i : Int) * w ≤ 10101 * 100 := Int.mul_le_mul (by omega) (by omega) (by omega) (by omega)
    have h0 : (0 : Int) ≤ (i : Int) * w := Int.mul_nonneg (by omega) (by omega)
    have hnot : ¬ i * w < B + n := fun h => by have := (key i).2 h; omega
    rw [w64 (by omega), w64 (by omega), if_neg (by rw [← Int.natCast_mul]; omega)]; simp [cols]
  | succ d ih =>
    intro k i acc hd hk ha
    obtain ⟨k, rfl⟩ : ∃ m, k = m + 1 := ⟨k - 1, by omega⟩
    simp only [spec_ColoursOfStep.l0]
    have hm : (i : Int) * w ≤ 10101 * 100 := Int.mul_le_mul (by omega) (by omega) (by omega) (by omega)
    have h0 : (0 : Int) ≤ (i : Int) * w := Int.mul_nonneg (by omega) (by omega)
    have hlt : i * w < B + n := (key i).1 (by omega)
    have hmod := Nat.mod_lt i hs
    have ex := extract_one s (i % s.size) hmod
    rw [w64 (x := (i : Int) * w) (by omega), w64 (x := (B : Int) + n) (by omega), if_pos (by rw [← Int.natCast_mul]; omega), if_neg (by omega), tmod_nat, w64 (x := ((i % s.size : Nat) : Int) + 1) (by omega), w64 (by omega)]
    rw [if_pos (by omega), if_pos (by omega), if_pos (by omega)]
    rw [show (((i % s.size : Nat) : Int) + 1).toNat = i % s.size + 1 from by omega, Int.toNat_natCast, ex, ← son_app, if_pos (by rw [strOfNums_size, strOfNums_size]; simp; omega)]
    rw [show (i : Int) + 1 = ((i + 1 : Nat) : Int) from rfl, ih k (i + 1) _ (by omega) (by omega) (by simp; omega), cols_cons]; simp
theorem impl_cols_l0 (s : ByteArray) (w n t q : Nat) (hs : 0 < s.size) (hs2 : s.size ≤ 10) (hw : 0 < w) (hw2 : w ≤ 100) (hn : 0 < n) (hn2 : n ≤ 100) (ht : 0 < t) (ht2 : t ≤ 100) (hq : q = (t * n - 1) / w) (d : Nat) : ∀ (k i : Nat) (acc : List Int), i + d = q + 1 → d < k → acc.length ≤ i →
    impl_ColoursOfStep.l0 k s w n t acc i = some (strOfNums (acc ++ cols s i d), true) := by
  have hm : t * n ≤ 100 * 100 := Nat.mul_le_mul ht2 hn2
  have h1 : 1 ≤ t * n := Nat.mul_le_mul ht hn
  have hq2 : q ≤ 10100 := by rw [hq]; exact Nat.le_trans (Nat.div_le_self _ _) (by omega)
  have e : wrap64 (Int.tdiv (wrap64 ((wrap64 ((t : Int) * n)) - 1)) w) = (q : Int) := by
    rw [← Int.natCast_mul, w64 (x := ((t * n : Nat) : Int)) (by omega), w64 (x := ((t * n : Nat) : Int) - 1) (by omega), show ((t * n : Nat) : Int) - 1 = ((t * n - 1 : Nat) : Int) from by omega, tdiv_nat, ← hq, w64 (by omega)]
  induction d with
  | zero =>
    intro k i acc hd hk ha
    obtain ⟨k, rfl⟩ : ∃ m, k = m + 1 := ⟨k - 1, by omega⟩
    simp only [impl_ColoursOfStep.l0]
    rw [e, if_neg (by omega), if_neg (by omega)]; simp [cols]
  | succ d ih =>
    intro k i acc hd hk ha
    obtain ⟨k, rfl⟩ : ∃ m, k = m + 1 := ⟨k - 1, by omega⟩
    simp only [impl_ColoursOfStep.l0]
    have hmod := Nat.mod_lt i hs
    rw [e, if_neg (by omega), if_pos (by omega), if_neg (by omega), tmod_nat, if_pos (by omega), if_pos (by omega), if_pos (by omega), w64 (by omega)]
    rw [show (i : Int) + 1 = ((i + 1 : Nat) : Int) from rfl, ih k (i + 1) _ (by omega) (by omega) (by simp; omega), cols_cons]; simp
abbrev colsOK (s : ByteArray) (w n t : Int) : Prop := ((1 ≤ s.size ∧ s.size ≤ 10) ∧ low s) ∧ (1 ≤ w ∧ w ≤ 100) ∧ (1 ≤ n ∧ n ≤ 100) ∧ (1 ≤ t ∧ t ≤ 100)
/-- What both return. -/
noncomputable def colsR (s : ByteArray) (w n t : Int) : ByteArray × Bool :=
  if colsOK s w n t then
    (strOfNums (cols s ((t.toNat - 1) * n.toNat / w.toNat) ((t.toNat * n.toNat - 1) / w.toNat + 1 - (t.toNat - 1) * n.toNat / w.toNat)), true)
  else (⟨#[]⟩, false)
theorem cpWide_eq {k : Nat} {s : ByteArray} (hs : s.size ≤ 1048576) (hk : 1048576 < k) (w : Int) : spec_cpWide.f k s w = some (decide (((1 ≤ s.size ∧ s.size ≤ 10) ∧ low s) ∧ (1 ≤ w ∧ w ≤ 100))) := by
  unfold spec_cpWide.f
  rw [cpStripes_eq hs hk, Option.bind_some, cpNeed_eq]
  by_cases h : (1 ≤ s.size ∧ s.size ≤ 10) ∧ low s
  · rw [if_pos (decide_eq_true h), Option.bind_some]; congr 1; rw [decide_eq_decide]; exact ⟨fun g => ⟨h, g⟩, fun g => g.2⟩
  · rw [if_neg (by simpa using h), decide_eq_false (fun g => h g.1)]
theorem spec_cols_eq {k : Nat} {s : ByteArray} (hs : s.size ≤ 1048576) (hk : 1048578 < k) (w n t : Int) : spec_ColoursOfStep.f k s w n t = some (colsR s w n t) := by
  obtain ⟨k, rfl⟩ : ∃ m, k = m + 1 := ⟨k - 1, by omega⟩
  unfold spec_ColoursOfStep.f colsR
  rw [cpWide_eq hs (by omega), Option.bind_some, cpSteps_eq]
  simp only [Option.bind_some, spec_ColoursOfStep.j0]
  by_cases h : ((1 ≤ s.size ∧ s.size ≤ 10) ∧ low s) ∧ (1 ≤ w ∧ w ≤ 100)
  · rw [if_pos (decide_eq_true h)]
    by_cases g : (1 ≤ t ∧ t ≤ 100) ∧ (1 ≤ n ∧ n ≤ 100)
    · rw [if_pos (show colsOK s w n t from ⟨h.1, h.2, g.2, g.1⟩), if_neg (by simp; omega), if_neg (by omega)]
      obtain ⟨w, rfl⟩ := Int.eq_ofNat_of_zero_le (show 0 ≤ w by omega)
      obtain ⟨n, rfl⟩ := Int.eq_ofNat_of_zero_le (show 0 ≤ n by omega)
      obtain ⟨t, rfl⟩ := Int.eq_ofNat_of_zero_le (show 0 ≤ t by omega)
      simp only [Int.toNat_natCast]
      have hm : (t - 1) * n ≤ 99 * 100 := Nat.mul_le_mul (by omega) (by omega)
      have hs' : t * n = (t - 1) * n + n := by rw [← Nat.succ_mul, Nat.succ_eq_add_one, Nat.sub_add_cancel (by omega)]
      have hd0 := Nat.div_le_self ((t - 1) * n) w
      have hqq : (t - 1) * n / w ≤ (t * n - 1) / w := Nat.div_le_div_right (by omega)
      have hq3 := Nat.div_le_self (t * n - 1) w
      rw [w64 (x := (t : Int) - 1) (by omega), show (t : Int) - 1 = ((t - 1 : Nat) : Int) from by omega, ← Int.natCast_mul, w64 (x := (((t - 1) * n : Nat) : Int)) (by omega), tdiv_nat, ← son_nil]
      have hq1 : (t * n - 1) / w = ((t - 1) * n + n - 1) / w := by rw [hs']
      generalize (t * n - 1) / w = q1 at *
      generalize (t - 1) * n / w = q0 at *
      rw [w64 (by omega), spec_cols_l0 s w n ((t - 1) * n) q1 (by omega) (by omega) (by omega) (by omega) (by omega) (by omega) (by omega) hq1 (q1 + 1 - q0) k _ [] (by omega) (by omega) (by simp)]
      simp
    · rw [if_neg (show ¬ colsOK s w n t from fun z => g ⟨z.2.2.2, z.2.2.1⟩), if_pos (by simp; omega)]
  · rw [if_neg (by simpa using h), if_pos trivial, if_neg (show ¬ colsOK s w n t from fun z => h ⟨z.1, z.2.1⟩)]
theorem impl_cols_eq {k : Nat} {s : ByteArray} (hs : s.size ≤ 1048576) (hk : 1048578 < k) (w n t : Int) : impl_ColoursOfStep.f k s w n t = some (colsR s w n t) := by
  obtain ⟨k, rfl⟩ : ∃ m, k = m + 1 := ⟨k - 1, by omega⟩
  unfold impl_ColoursOfStep.f colsR
  rw [IsStriped_eq hs (by omega), Option.bind_some, isNeed_eq, isNeed_eq, isCover_eq]
  simp only [Option.bind_some, impl_ColoursOfStep.j0]
  by_cases h : (1 ≤ s.size ∧ s.size ≤ 10) ∧ low s
  · rw [if_pos (decide_eq_true h)]
    by_cases g1 : 1 ≤ w ∧ w ≤ 100
    · rw [if_pos (decide_eq_true g1)]
      by_cases g2 : 1 ≤ n ∧ n ≤ 100
      · rw [if_pos (decide_eq_true g2)]
        by_cases g3 : 1 ≤ t ∧ t ≤ 100
        · rw [if_neg (by simp; omega), if_neg (by omega), if_pos (show colsOK s w n t from ⟨h, g1, g2, g3⟩)]
          obtain ⟨w, rfl⟩ := Int.eq_ofNat_of_zero_le (show 0 ≤ w by omega)
          obtain ⟨n, rfl⟩ := Int.eq_ofNat_of_zero_le (show 0 ≤ n by omega)
          obtain ⟨t, rfl⟩ := Int.eq_ofNat_of_zero_le (show 0 ≤ t by omega)
          simp only [Int.toNat_natCast]
          have hm : (t - 1) * n ≤ 99 * 100 := Nat.mul_le_mul (by omega) (by omega)
          have hs' : t * n = (t - 1) * n + n := by rw [← Nat.succ_mul, Nat.succ_eq_add_one, Nat.sub_add_cancel (by omega)]
          have hd0 := Nat.div_le_self ((t - 1) * n) w
          have hqq : (t - 1) * n / w ≤ (t * n - 1) / w := Nat.div_le_div_right (by omega)
          have hq3 := Nat.div_le_self (t * n - 1) w
          rw [w64 (x := (t : Int) - 1) (by omega), show (t : Int) - 1 = ((t - 1 : Nat) : Int) from by omega, ← Int.natCast_mul, w64 (x := (((t - 1) * n : Nat) : Int)) (by omega), tdiv_nat]
          obtain ⟨q1, hq1⟩ : ∃ q1, q1 = (t * n - 1) / w := ⟨_, rfl⟩
          rw [← hq1] at hqq hq3 ⊢
          generalize (t - 1) * n / w = q0 at *
          rw [w64 (by omega), impl_cols_l0 s w n t q1 (by omega) (by omega) (by omega) (by omega) (by omega) (by omega) (by omega) (by omega) hq1 (q1 + 1 - q0) k _ [] (by omega) (by omega) (by simp)]
          simp
        · rw [if_pos (by simp; omega), if_neg (show ¬ colsOK s w n t from fun z => g3 z.2.2.2)]
      · rw [if_neg (by simpa using g2), if_pos trivial, if_neg (show ¬ colsOK s w n t from fun z => g2 z.2.2.1)]
    · rw [if_neg (by simpa using g1), if_pos trivial, if_neg (show ¬ colsOK s w n t from fun z => g1 z.2.1)]
  · rw [if_neg (by simpa using h), if_pos trivial, if_neg (show ¬ colsOK s w n t from fun z => h z.1)]

theorem FnExactColoursOfStep : laws_FnExactColoursOfStep.Pure := by
  intro s w n t _ _ _ _
  obtain ⟨k, hk⟩ : ∃ k, 1048578 < k := ⟨1048579, by omega⟩
  refine ⟨k, ?_⟩
  unfold laws_FnExactColoursOfStep.f
  by_cases hs : (s.size : Int) > 1048576
  · rw [if_pos hs]
  · rw [if_neg hs, spec_cols_eq (by omega) hk, impl_cols_eq (by omega) hk]
    simp

end Go.Proofs.Ytkpkgpigndlakaa.Pure
