/- The program's ColourAt returns what the reference's returns, for all arguments. No condition. -/
import Derived.Test.YtkpkgpigndlakaaPFnExactColourAtx1
namespace Go.Proofs.Ytkpkgpigndlakaa.Pure
open Go.RowKit Go.Proofs.Ytkpkgpigndlakaa.PFnExactColourAt Go.Proofs.YtkpkgpigndlakaaW.PrintWords Go.Proofs.YtkpkgpigndlakaaW.PrintLast Go.Proofs.YtkpkgpigndlakaaW.PrintMore
set_option linter.unusedVariables false
set_option linter.unusedSimpArgs false

-- block within
theorem within_eq (a b c : Int) : impl_within.f a b c = some (decide (b ≤ a ∧ a ≤ c)) := by
  unfold impl_within.f
  by_cases h : b ≤ a
  · rw [if_pos h]; simp [h]
  · rw [if_neg h]; simp [h]

-- block l1In
theorem l1In_eq (a b c : Int) : spec_l1In.f a b c = some (decide (b ≤ a ∧ a ≤ c)) := by
  unfold spec_l1In.f
  by_cases h : a ≥ b
  · rw [if_pos h]; simp [show b ≤ a from h]
  · rw [if_neg h]; simp [show ¬ b ≤ a from h]

-- block w64
theorem w64 {x : Int} (h : -9223372036854775808 ≤ x ∧ x ≤ 9223372036854775807) : wrap64 x = x := by
  unfold wrap64; omega

-- block striped
abbrev low (s : ByteArray) : Prop := ∀ j : Nat, j < s.size → 97 ≤ bt s j ∧ bt s j ≤ 122
theorem cpStripes_good (s : ByteArray) (hs : s.size ≤ 1048576) (h : low s) (d : Nat) : ∀ (k i : Nat), i + d = s.size → d < k → spec_cpStripes.l0 k s i = some true := by
  induction d with
  | zero =>
    intro k i hd hk
    obtain ⟨k, rfl⟩ : ∃ m, k = m + 1 := ⟨k - 1, by omega⟩
    simp only [spec_cpStripes.l0]; rw [if_neg (by omega)]
  | succ d ih =>
    intro k i hd hk
    obtain ⟨k, rfl⟩ : ∃ m, k = m + 1 := ⟨k - 1, by omega⟩
    simp only [spec_cpStripes.l0]
    have := h i (by omega)
    rw [if_pos (by omega), if_pos (by omega), if_neg (by omega), if_neg (by omega), w64 (by omega)]
    exact ih k (i + 1) (by omega) (by omega)
theorem cpStripes_bad (s : ByteArray) (hs : s.size ≤ 1048576) (j : Nat) (hj : j < s.size) (h : ¬ (97 ≤ bt s j ∧ bt s j ≤ 122)) (d : Nat) : ∀ (k i : Nat), i ≤ j → i + d = s.size → d < k → spec_cpStripes.l0 k s i = some false := by
  induction d with
  | zero => intro k i hi hd hk; omega
  | succ d ih =>
    intro k i hi hd hk
    obtain ⟨k, rfl⟩ : ∃ m, k = m + 1 := ⟨k - 1, by omega⟩
    simp only [spec_cpStripes.l0]
    rw [if_pos (by omega), if_pos (by omega)]
    by_cases h1 : bt s (i : Int) < 97
    · rw [if_pos h1]
    · by_cases h2 : bt s (i : Int) > 122
      · rw [if_neg h1, if_pos h2]
      · rw [if_neg h1, if_neg h2, w64 (by omega)]
        have hne : i ≠ j := by rintro rfl; exact h ⟨by omega, by omega⟩
        exact ih k (i + 1) (by omega) (by omega) (by omega)
theorem cpStripes_eq {k : Nat} {s : ByteArray} (hs : s.size ≤ 1048576) (hk : 1048576 < k) : spec_cpStripes.f k s = some (decide ((1 ≤ s.size ∧ s.size ≤ 10) ∧ low s)) := by
  unfold spec_cpStripes.f
  rw [l1In_eq, Option.bind_some]
  by_cases h : 1 ≤ s.size ∧ s.size ≤ 10
  · rw [if_pos (by simp; omega)]
    by_cases g : low s
    · rw [show (0 : Int) = ((0 : Nat) : Int) from rfl, cpStripes_good s hs g s.size k 0 (by omega) (by omega), decide_eq_true ⟨h, g⟩]
    · have g' := g
      simp only [low, Classical.not_forall] at g
      obtain ⟨j, hj, hb⟩ := g
      rw [show (0 : Int) = ((0 : Nat) : Int) from rfl, cpStripes_bad s hs j hj hb s.size k 0 (by omega) (by omega) (by omega), decide_eq_false (fun z => g' z.2)]
  · rw [if_neg (by simp; omega), decide_eq_false (fun z => h z.1)]
theorem IsStriped_good (s : ByteArray) (hs : s.size ≤ 1048576) (h : low s) (d : Nat) : ∀ (k i : Nat), i + d = s.size → d < k → impl_IsStriped.l0 k s s.size i = some (decide (1 ≤ s.size ∧ s.size ≤ 10)) := by
  induction d with
  | zero =>
    intro k i hd hk
    obtain ⟨k, rfl⟩ : ∃ m, k = m + 1 := ⟨k - 1, by omega⟩
    simp only [impl_IsStriped.l0]; rw [if_neg (by omega), within_eq, Option.bind_some]
    congr 1; rw [decide_eq_decide]; omega
  | succ d ih =>
    intro k i hd hk
    obtain ⟨k, rfl⟩ : ∃ m, k = m + 1 := ⟨k - 1, by omega⟩
    simp only [impl_IsStriped.l0]
    have := h i (by omega)
    rw [if_pos (by omega), if_pos (by omega), if_pos (by omega), if_neg (by omega), if_neg (by omega), w64 (by omega)]
    exact ih k (i + 1) (by omega) (by omega)
theorem IsStriped_bad (s : ByteArray) (hs : s.size ≤ 1048576) (j : Nat) (hj : j < s.size) (h : ¬ (97 ≤ bt s j ∧ bt s j ≤ 122)) (d : Nat) : ∀ (k i : Nat), i ≤ j → i + d = s.size → d < k → impl_IsStriped.l0 k s s.size i = some false := by
  induction d with
  | zero => intro k i hi hd hk; omega
  | succ d ih =>
    intro k i hi hd hk
    obtain ⟨k, rfl⟩ : ∃ m, k = m + 1 := ⟨k - 1, by omega⟩
    simp only [impl_IsStriped.l0]
    rw [if_pos (by omega), if_pos (by omega), if_pos (by omega)]
    by_cases h1 : bt s (i : Int) < 97
    · rw [if_pos h1]
    · by_cases h2 : bt s (i : Int) > 122
      · rw [if_neg h1, if_pos h2]
      · rw [if_neg h1, if_neg h2, w64 (by omega)]
        have hne : i ≠ j := by rintro rfl; exact h ⟨by omega, by omega⟩
        exact ih k (i + 1) (by omega) (by omega) (by omega)
theorem IsStriped_eq {k : Nat} {s : ByteArray} (hs : s.size ≤ 1048576) (hk : 1048576 < k) : impl_IsStriped.f k s = some (decide ((1 ≤ s.size ∧ s.size ≤ 10) ∧ low s)) := by
  unfold impl_IsStriped.f
  by_cases g : low s
  · rw [show (0 : Int) = ((0 : Nat) : Int) from rfl, IsStriped_good s hs g s.size k 0 (by omega) (by omega)]
    congr 1; rw [decide_eq_decide]; exact ⟨fun h => ⟨h, g⟩, fun h => h.1⟩
  · have g' := g
    simp only [low, Classical.not_forall] at g
    obtain ⟨j, hj, hb⟩ := g
    rw [show (0 : Int) = ((0 : Nat) : Int) from rfl, IsStriped_bad s hs j hj hb s.size k 0 (by omega) (by omega) (by omega), decide_eq_false (fun z => g' z.2)]

-- block cpNeed
theorem cpNeed_eq (a : Int) : spec_cpNeed.f a = some (decide (1 ≤ a ∧ a ≤ 100)) := by
  unfold spec_cpNeed.f; rw [l1In_eq]; rfl

-- block cpWide
theorem cpWide_eq {k : Nat} {s : ByteArray} (hs : s.size ≤ 1048576) (hk : 1048576 < k) (w : Int) : spec_cpWide.f k s w = some (decide (((1 ≤ s.size ∧ s.size ≤ 10) ∧ low s) ∧ (1 ≤ w ∧ w ≤ 100))) := by
  unfold spec_cpWide.f
  rw [cpStripes_eq hs hk, Option.bind_some, cpNeed_eq]
  by_cases h : (1 ≤ s.size ∧ s.size ≤ 10) ∧ low s
  · rw [if_pos (decide_eq_true h), Option.bind_some]; congr 1; rw [decide_eq_decide]; exact ⟨fun g => ⟨h, g⟩, fun g => g.2⟩
  · rw [if_neg (by simpa using h), decide_eq_false (fun g => h g.1)]

-- block isNeed
theorem isNeed_eq (a : Int) : impl_isNeed.f a = some (decide (1 ≤ a ∧ a ≤ 100)) := by
  unfold impl_isNeed.f; rw [within_eq]; rfl

-- block sons
theorem son_app (l m : List Int) : strOfNums (l ++ m) = strOfNums l ++ strOfNums m := by
  apply ByteArray.ext
  rw [ByteArray.data_append]
  simp [strOfNums]
theorem son_nil : strOfNums [] = (⟨#[]⟩ : ByteArray) := rfl
theorem extract_one (s : ByteArray) (j : Nat) (h : j < s.size) : s.extract j (j + 1) = strOfNums [bt s j] := by
  apply ByteArray.ext
  rw [ByteArray.data_extract]
  apply Array.ext'
  have h' : j < s.data.toList.length := by simpa using h
  have e : s.data.toList[j] = s[j] := rfl
  have hb : bt s j = ((s[j]'h).toNat : Int) := by simp [bt, h]
  rw [Array.toList_extract, List.extract_eq_take_drop, show j + 1 - j = 1 from by omega, List.drop_eq_getElem_cons h', e]
  simp [strOfNums, hb]
theorem strOfNums_toListN (l : List Int) : (strOfNums l).toList = (strOfNums l).data.toList := ByteArray.toList_eq _

-- block tdiv
theorem tdiv_nat (a b : Nat) : Int.tdiv (a : Int) (b : Int) = ((a / b : Nat) : Int) := rfl
theorem tmod_nat (a b : Nat) : Int.tmod (a : Int) (b : Int) = ((a % b : Nat) : Int) := rfl
theorem tdiv_pos {a b : Int} (ha : 0 ≤ a) : Int.tdiv a b = a / b := Int.tdiv_eq_ediv_of_nonneg ha
theorem tmod_pos {a b : Int} (ha : 0 ≤ a) : Int.tmod a b = a % b := Int.tmod_eq_emod_of_nonneg ha

theorem encode_low (n : Int) (h1 : 97 ≤ n) (h2 : n ≤ 122) : Go.Utf8.encode (wrap32 n) = strOfNums [n] := by
  have e : wrap32 n = n := by unfold wrap32; omega
  have hv : Go.Utf8.valid n = true := by unfold Go.Utf8.valid; simp; omega
  rw [e]
  unfold Go.Utf8.encode
  simp only [hv, if_true]
  rw [if_pos (by omega)]
  simp [strOfNums]
theorem ColourAt_eq {k : Nat} {s : ByteArray} (hs : s.size ≤ 1048576) (hk : 1048578 < k) (w n : Int) : ∃ r, spec_ColourAt.f k s w n = some r ∧ impl_ColourAt.f k s w n = some r := by
  unfold spec_ColourAt.f impl_ColourAt.f
  rw [cpWide_eq hs (by omega), IsStriped_eq hs (by omega), isNeed_eq, within_eq, l1In_eq]
  simp only [Option.bind_some]
  by_cases h : (1 ≤ s.size ∧ s.size ≤ 10) ∧ low s
  · by_cases hw : 1 ≤ w ∧ w ≤ 100
    · by_cases hn : 0 ≤ n ∧ n ≤ 2000
      · rw [decide_eq_true h, decide_eq_true hw, decide_eq_true hn, decide_eq_true (show ((1 ≤ s.size ∧ s.size ≤ 10) ∧ low s) ∧ (1 ≤ w ∧ w ≤ 100) from ⟨h, hw⟩)]
        simp only [if_true]
        obtain ⟨w, rfl⟩ := Int.eq_ofNat_of_zero_le (show 0 ≤ w by omega)
        obtain ⟨n, rfl⟩ := Int.eq_ofNat_of_zero_le (show 0 ≤ n by omega)
        unfold impl_colour.f
        have hq := Nat.div_le_self n w
        simp only [if_neg (show ¬ (w : Int) = 0 by omega), if_neg (show ¬ (s.size : Int) = 0 by omega), tdiv_nat]
        generalize n / w = q at *
        rw [w64 (x := (q : Int)) (by omega), tmod_nat]
        have hm := Nat.mod_lt q (show 0 < s.size by omega)
        generalize q % s.size = j at *
        have hl := h.2 j hm
        rw [w64 (x := (j : Int) + 1) (by omega)]
        simp only [if_pos (show (0 : Int) ≤ (j : Int) by omega), if_pos (show (j : Int) < (s.size : Int) by omega), if_pos (show (j : Int) ≤ (j : Int) + 1 by omega), if_pos (show (j : Int) + 1 ≤ (s.size : Int) by omega)]
        rw [Option.bind_some, encode_low _ hl.1 hl.2, show ((j : Int) + 1).toNat = j + 1 from by omega, Int.toNat_natCast, extract_one s j hm]
        exact ⟨_, rfl, rfl⟩
      · rw [decide_eq_true h, decide_eq_true hw, decide_eq_false hn, decide_eq_true (show ((1 ≤ s.size ∧ s.size ≤ 10) ∧ low s) ∧ (1 ≤ w ∧ w ≤ 100) from ⟨h, hw⟩)]
        exact ⟨_, rfl, rfl⟩
    · rw [decide_eq_true h, decide_eq_false hw, decide_eq_false (show ¬ (((1 ≤ s.size ∧ s.size ≤ 10) ∧ low s) ∧ (1 ≤ w ∧ w ≤ 100)) from fun z => hw z.2)]
      exact ⟨_, rfl, rfl⟩
  · rw [decide_eq_false h, decide_eq_false (show ¬ (((1 ≤ s.size ∧ s.size ≤ 10) ∧ low s) ∧ (1 ≤ w ∧ w ≤ 100)) from fun z => h z.1)]
    exact ⟨_, rfl, rfl⟩
theorem FnExactColourAt : laws_FnExactColourAt.Pure := by
  intro s w n _ _ _
  obtain ⟨k, hk⟩ : ∃ k, 1048578 < k := ⟨1048579, by omega⟩
  refine ⟨k, ?_⟩
  unfold laws_FnExactColourAt.f
  by_cases hs : (s.size : Int) > 1048576
  · rw [if_pos hs]
  · obtain ⟨r, h1, h2⟩ := ColourAt_eq (k := k) (s := s) (by omega) hk w n
    rw [if_neg hs, h1, h2]
    simp

end Go.Proofs.Ytkpkgpigndlakaa.Pure
