/- The program's AlikeSteps returns what the reference's returns, for all arguments. No condition. -/
import Derived.Test.YtflagakoikgkhaaPFnExactAlikeStepsx3
namespace Go.Proofs.Ytflagakoikgkhaa.Pure
open Go.RowKit Go.Proofs.Ytflagakoikgkhaa.PFnExactAlikeSteps Go.Proofs.YtflagakoikgkhaaW.PrintWords Go.Proofs.YtflagakoikgkhaaW.PrintLast Go.Proofs.YtflagakoikgkhaaW.PrintMore
set_option linter.unusedVariables false
set_option linter.unusedSimpArgs false

-- block within
theorem within_eq (a b c : Int) : impl_within.f a b c = some (decide (b ≤ a ∧ a ≤ c)) := by
  unfold impl_within.f
  by_cases h : b ≤ a
  · rw [if_pos h]; simp [h]
  · rw [if_neg h]; simp [h]

-- block l1In
theorem l1In_eq (a b c : Int) : spec_l1In.f a b c = some (decide (b ≤ a ∧ a ≤ c)) := by
  unfold spec_l1In.f
  by_cases h : a ≥ b
  · rw [if_pos h]; simp [show b ≤ a from h]
  · rw [if_neg h]; simp [show ¬ b ≤ a from h]

-- block w64
theorem w64 {x : Int} (h : -9223372036854775808 ≤ x ∧ x ≤ 9223372036854775807) : wrap64 x = x := by
  unfold wrap64; omega

-- block striped
abbrev low (s : ByteArray) : Prop := ∀ j : Nat, j < s.size → 97 ≤ bt s j ∧ bt s j ≤ 122
theorem cpStripes_good (s : ByteArray) (hs : s.size ≤ 1048576) (h : low s) (d : Nat) : ∀ (k i : Nat), i + d = s.size → d < k → spec_cpStripes.l0 k s i = some true := by
  induction d with
  | zero =>
    intro k i hd hk
    obtain ⟨k, rfl⟩ : ∃ m, k = m + 1 := ⟨k - 1, by omega⟩
    simp only [spec_cpStripes.l0]; rw [if_neg (by omega)]
  | succ d ih =>
    intro k i hd hk
    obtain ⟨k, rfl⟩ : ∃ m, k = m + 1 := ⟨k - 1, by omega⟩
    simp only [spec_cpStripes.l0]
    have := h i (by omega)
    rw [if_pos (by omega), if_pos (by omega), if_neg (by omega), if_neg (by omega), w64 (by omega)]
    exact ih k (i + 1) (by omega) (by omega)
theorem cpStripes_bad (s : ByteArray) (hs : s.size ≤ 1048576) (j : Nat) (hj : j < s.size) (h : ¬ (97 ≤ bt s j ∧ bt s j ≤ 122)) (d : Nat) : ∀ (k i : Nat), i ≤ j → i + d = s.size → d < k → spec_cpStripes.l0 k s i = some false := by
  induction d with
  | zero => intro k i hi hd hk; omega
  | succ d ih =>
    intro k i hi hd hk
    obtain ⟨k, rfl⟩ : ∃ m, k = m + 1 := ⟨k - 1, by omega⟩
    simp only [spec_cpStripes.l0]
    rw [if_pos (by omega), if_pos (by omega)]
    by_cases h1 : bt s (i : Int) < 97
    · rw [if_pos h1]
    · by_cases h2 : bt s (i : Int) > 122
      · rw [if_neg h1, if_pos h2]
      · rw [if_neg h1, if_neg h2, w64 (by omega)]
        have hne : i ≠ j := by rintro rfl; exact h ⟨by omega, by omega⟩
        exact ih k (i + 1) (by omega) (by omega) (by omega)
theorem cpStripes_eq {k : Nat} {s : ByteArray} (hs : s.size ≤ 1048576) (hk : 1048576 < k) : spec_cpStripes.f k s = some (decide ((1 ≤ s.size ∧ s.size ≤ 10) ∧ low s)) := by
  unfold spec_cpStripes.f
  rw [l1In_eq, Option.bind_some]
  by_cases h : 1 ≤ s.size ∧ s.size ≤ 10
  · rw [if_pos (by simp; omega)]
    by_cases g : low s
    · rw [show (0 : Int) = ((0 : Nat) : Int) from rfl, cpStripes_good s hs g s.size k 0 (by omega) (by omega), decide_eq_true ⟨h, g⟩]
    · have g' := g
      simp only [low, Classical.not_forall] at g
      obtain ⟨j, hj, hb⟩ := g
      rw [show (0 : Int) = ((0 : Nat) : Int) from rfl, cpStripes_bad s hs j hj hb s.size k 0 (by omega) (by omega) (by omega), decide_eq_false (fun z => g' z.2)]
  · rw [if_neg (by simp; omega), decide_eq_false (fun z => h z.1)]
theorem IsStriped_good (s : ByteArray) (hs : s.size ≤ 1048576) (h : low s) (d : Nat) : ∀ (k i : Nat), i + d = s.size → d < k → impl_IsStriped.l0 k s s.size i = some (decide (1 ≤ s.size ∧ s.size ≤ 10)) := by
  induction d with
  | zero =>
    intro k i hd hk
    obtain ⟨k, rfl⟩ : ∃ m, k = m + 1 := ⟨k - 1, by omega⟩
    simp only [impl_IsStriped.l0]; rw [if_neg (by omega), within_eq, Option.bind_some]
    congr 1; rw [decide_eq_decide]; omega
  | succ d ih =>
    intro k i hd hk
    obtain ⟨k, rfl⟩ : ∃ m, k = m + 1 := ⟨k - 1, by omega⟩
    simp only [impl_IsStriped.l0]
    have := h i (by omega)
    rw [if_pos (by omega), if_pos (by omega), if_pos (by omega), if_neg (by omega), if_neg (by omega), w64 (by omega)]
    exact ih k (i + 1) (by omega) (by omega)
theorem IsStriped_bad (s : ByteArray) (hs : s.size ≤ 1048576) (j : Nat) (hj : j < s.size) (h : ¬ (97 ≤ bt s j ∧ bt s j ≤ 122)) (d : Nat) : ∀ (k i : Nat), i ≤ j → i + d = s.size → d < k → impl_IsStriped.l0 k s s.size i = some false := by
  induction d with
  | zero => intro k i hi hd hk; omega
  | succ d ih =>
    intro k i hi hd hk
    obtain ⟨k, rfl⟩ : ∃ m, k = m + 1 := ⟨k - 1, by omega⟩
    simp only [impl_IsStriped.l0]
    rw [if_pos (by omega), if_pos (by omega), if_pos (by omega)]
    by_cases h1 : bt s (i : Int) < 97
    · rw [if_pos h1]
    · by_cases h2 : bt s (i : Int) > 122
      · rw [if_neg h1, if_pos h2]
      · rw [if_neg h1, if_neg h2, w64 (by omega)]
        have hne : i ≠ j := by rintro rfl; exact h ⟨by omega, by omega⟩
        exact ih k (i + 1) (by omega) (by omega) (by omega)
theorem IsStriped_eq {k : Nat} {s : ByteArray} (hs : s.size ≤ 1048576) (hk : 1048576 < k) : impl_IsStriped.f k s = some (decide ((1 ≤ s.size ∧ s.size ≤ 10) ∧ low s)) := by
  unfold impl_IsStriped.f
  by_cases g : low s
  · rw [show (0 : Int) = ((0 : Nat) : Int) from rfl, IsStriped_good s hs g s.size k 0 (by omega) (by omega)]
    congr 1; rw [decide_eq_decide]; exact ⟨fun h => ⟨h, g⟩, fun h => h.1⟩
  · have g' := g
    simp only [low, Classical.not_forall] at g
    obtain ⟨j, hj, hb⟩ := g
    rw [show (0 : Int) = ((0 : Nat) : Int) from rfl, IsStriped_bad s hs j hj hb s.size k 0 (by omega) (by omega) (by omega), decide_eq_false (fun z => g' z.2)]

-- block cpNeed
theorem cpNeed_eq (a : Int) : spec_cpNeed.f a = some (decide (1 ≤ a ∧ a ≤ 100)) := by
  unfold spec_cpNeed.f; rw [l1In_eq]; rfl

-- block cpSteps
theorem cpSteps_eq (a b : Int) : spec_cpSteps.f a b = some (decide ((1 ≤ a ∧ a ≤ 100) ∧ (1 ≤ b ∧ b ≤ 100))) := by
  unfold spec_cpSteps.f; rw [l1In_eq, Option.bind_some]
  by_cases h : 1 ≤ a ∧ a ≤ 100
  · rw [if_pos (decide_eq_true h), cpNeed_eq]; simp [h]
  · rw [if_neg (by simp; omega)]; simp [h]

-- block isNeed
theorem isNeed_eq (a : Int) : impl_isNeed.f a = some (decide (1 ≤ a ∧ a ≤ 100)) := by
  unfold impl_isNeed.f; rw [within_eq]; rfl

-- block isCover
theorem isCover_eq (a : Int) : impl_isCover.f a = some (decide (1 ≤ a ∧ a ≤ 100)) := by
  unfold impl_isCover.f; rw [within_eq]; rfl

-- block sons
theorem son_app (l m : List Int) : strOfNums (l ++ m) = strOfNums l ++ strOfNums m := by
  apply ByteArray.ext
  rw [ByteArray.data_append]
  simp [strOfNums]
theorem son_nil : strOfNums [] = (⟨#[]⟩ : ByteArray) := rfl
theorem extract_one (s : ByteArray) (j : Nat) (h : j < s.size) : s.extract j (j + 1) = strOfNums [bt s j] := by
  apply ByteArray.ext
  rw [ByteArray.data_extract]
  apply Array.ext'
  have h' : j < s.data.toList.length := by simpa using h
  have e : s.data.toList[j] = s[j] := rfl
  have hb : bt s j = ((s[j]'h).toNat : Int) := by simp [bt, h]
  rw [Array.toList_extract, List.extract_eq_take_drop, show j + 1 - j = 1 from by omega, List.drop_eq_getElem_cons h', e]
  simp [strOfNums, hb]
theorem strOfNums_toListN (l : List Int) : (strOfNums l).toList = (strOfNums l).data.toList := ByteArray.toList_eq _

-- block tdiv
theorem tdiv_nat (a b : Nat) : Int.tdiv (a : Int) (b : Int) = ((a / b : Nat) : Int) := rfl
theorem tmod_nat (a b : Nat) : Int.tmod (a : Int) (b : Int) = ((a % b : Nat) : Int) := rfl
theorem tdiv_pos {a b : Int} (ha : 0 ≤ a) : Int.tdiv a b = a / b := Int.tdiv_eq_ediv_of_nonneg ha
theorem tmod_pos {a b : Int} (ha : 0 ≤ a) : Int.tmod a b = a % b := Int.tmod_eq_emod_of_nonneg ha

-- block eqIntS
theorem eqIntS_l0 (l : List Int) (hl : l.length ≤ 1000000000) (d : Nat) : ∀ (k i : Nat), i + d = l.length → d < k → laws_eqIntS.l0 k l l i = some true := by
  induction d with
  | zero =>
    intro k i hd hk
    obtain ⟨k, rfl⟩ : ∃ m, k = m + 1 := ⟨k - 1, by omega⟩
    simp only [laws_eqIntS.l0]; rw [if_neg (by omega)]
  | succ d ih =>
    intro k i hd hk
    obtain ⟨k, rfl⟩ : ∃ m, k = m + 1 := ⟨k - 1, by omega⟩
    simp only [laws_eqIntS.l0]
    rw [if_pos (by omega), if_pos (by omega), if_pos (by omega), if_pos trivial, w64 (by omega)]
    exact ih k (i + 1) (by omega) (by omega)
theorem eqIntS_self {k : Nat} {l : List Int} (hl : l.length ≤ 1000000000) (hk : l.length < k) : laws_eqIntS.f k l l = some true := by
  unfold laws_eqIntS.f
  rw [if_pos rfl, show (0 : Int) = ((0 : Nat) : Int) from rfl, eqIntS_l0 l hl l.length k 0 (by omega) hk]

-- block marks
def ups (a : Int) (n : Nat) : List Int := (List.range n).map fun i : Nat => a + (i : Int)
theorem ups_length (a : Int) (n : Nat) : (ups a n).length = n := by simp [ups]
theorem ups_succ (a : Int) (n : Nat) : ups a (n + 1) = ups a n ++ [a + n] := by simp [ups, List.range_succ]
theorem rd_ups (a : Int) (n i : Nat) (h : i < n) : rd (ups a n) i = a + i := by
  unfold rd ups
  rw [List.getD_eq_getElem?_getD, Int.toNat_natCast, List.getElem?_map, List.getElem?_range h]; rfl
theorem markIntS_l0 (a : Int) (ha : 0 ≤ a) (d : Nat) : ∀ (k i : Nat) (post : List Int), post.length = d → a + i + d ≤ 4000000000000 → d < k →
    laws_markIntS.l0 k (ups a i ++ post) (a + i) i = some (a + i + d, ups a (i + d)) := by
  induction d with
  | zero =>
    intro k i post hp hb hk
    obtain ⟨k, rfl⟩ : ∃ m, k = m + 1 := ⟨k - 1, by omega⟩
    obtain rfl := List.eq_nil_of_length_eq_zero hp
    simp only [laws_markIntS.l0]
    rw [if_neg (by simp [ups_length])]
    simp
  | succ d ih =>
    intro k i post hp hb hk
    obtain ⟨k, rfl⟩ : ∃ m, k = m + 1 := ⟨k - 1, by omega⟩
    obtain ⟨x, post, rfl⟩ : ∃ x p, post = x :: p := by
      cases post with
      | nil => simp at hp
      | cons x p => exact ⟨x, p, rfl⟩
    simp only [laws_markIntS.l0]
    rw [if_pos (by simp [ups_length]; omega), if_pos (by omega), w64 (by omega), w64 (by omega)]
    have e : (ups a i ++ x :: post).set (i : Int).toNat (a + i) = ups a (i + 1) ++ post := by
      rw [Int.toNat_natCast, List.set_append_right _ _ (by simp [ups_length]), ups_length, Nat.sub_self, List.set_cons_zero, ups_succ, List.append_assoc]; rfl
    rw [e, show a + (i : Int) + 1 = a + ((i + 1 : Nat) : Int) from by omega, show (i : Int) + 1 = ((i + 1 : Nat) : Int) from rfl]
    rw [ih k (i + 1) post (by simpa using hp) (by omega) (by omega)]
    rw [show i + 1 + d = i + (d + 1) from by omega]
    congr 2; omega
theorem markIntS_eq {k : Nat} {l : List Int} {a : Int} (ha : 0 ≤ a) (hb : a + l.length ≤ 4000000000000) (hk : l.length < k) : laws_markIntS.f k l a = some (a + l.length, ups a l.length) := by
  unfold laws_markIntS.f
  have := markIntS_l0 a ha l.length k 0 l rfl (by omega) hk
  simpa [ups] using this
theorem heldIntS_l0 (a : Int) (ha : 0 ≤ a) (n : Nat) (hb : a + n ≤ 4000000000000) (d : Nat) : ∀ (k i : Nat), i + d = n → d < k → laws_heldIntS.l0 k (ups a n) (a + i) i = some (a + n) := by
  induction d with
  | zero =>
    intro k i hd hk
    obtain ⟨k, rfl⟩ : ∃ m, k = m + 1 := ⟨k - 1, by omega⟩
    simp only [laws_heldIntS.l0]
    rw [if_neg (by rw [ups_length]; omega)]
    congr 1; omega
  | succ d ih =>
    intro k i hd hk
    obtain ⟨k, rfl⟩ : ∃ m, k = m + 1 := ⟨k - 1, by omega⟩
    simp only [laws_heldIntS.l0]
    rw [if_pos (by rw [ups_length]; omega), if_pos (by omega), rd_ups _ _ _ (by omega), if_pos rfl, w64 (by omega), w64 (by omega)]
    rw [show a + (i : Int) + 1 = a + ((i + 1 : Nat) : Int) from by omega, show (i : Int) + 1 = ((i + 1 : Nat) : Int) from rfl]
    exact ih k (i + 1) (by omega) (by omega)
theorem heldIntS_eq {k n : Nat} {a : Int} (ha : 0 ≤ a) (hb : a + n ≤ 4000000000000) (hk : n < k) : laws_heldIntS.f k (ups a n) a = some (a + n) := by
  unfold laws_heldIntS.f
  have := heldIntS_l0 a ha n hb n k 0 (by omega) hk
  simpa using this

theorem cpWide_eq {k : Nat} {s : ByteArray} (hs : s.size ≤ 1048576) (hk : 1048576 < k) (w : Int) : spec_cpWide.f k s w = some (decide (((1 ≤ s.size ∧ s.size ≤ 10) ∧ low s) ∧ (1 ≤ w ∧ w ≤ 100))) := by
  unfold spec_cpWide.f
  rw [cpStripes_eq hs hk, Option.bind_some, cpNeed_eq]
  by_cases h : (1 ≤ s.size ∧ s.size ≤ 10) ∧ low s
  · rw [if_pos (decide_eq_true h), Option.bind_some]; congr 1; rw [decide_eq_decide]; exact ⟨fun g => ⟨h, g⟩, fun g => g.2⟩
  · rw [if_neg (by simpa using h), decide_eq_false (fun g => h g.1)]
/-- The colour at a place. -/
def colN (s : ByteArray) (w p : Nat) : Int := bt s ((p / w % s.size : Nat) : Int)
theorem colour_eq (s : ByteArray) (w p : Nat) (hs : 0 < s.size) (hw : 0 < w) (hp : p ≤ 1000000) : impl_colour.f s w p = some (colN s w p) := by
  unfold impl_colour.f colN
  have := Nat.div_le_self p w
  have hm := Nat.mod_lt (p / w) hs
  rw [if_neg (by omega), if_neg (by omega), tdiv_nat]
  generalize p / w = q at *
  rw [w64 (by omega), tmod_nat, if_pos (by omega), if_pos (by omega)]
def ofL (s : ByteArray) (w i d : Nat) : List Int := (List.range' i d).map fun p => colN s w p
theorem ofL_cons (s : ByteArray) (w i d : Nat) : ofL s w i (d + 1) = colN s w i :: ofL s w (i + 1) d := by simp [ofL, List.range'_succ]
theorem cpOf_l0 (s : ByteArray) (w n t : Nat) (hs : 0 < s.size) (hs2 : s.size ≤ 1000) (hw : 0 < w) (ht : t * n ≤ 100000) (d : Nat) : ∀ (k i : Nat) (acc : List Int), i + d = t * n → d < k → acc.length ≤ i →
    spec_cpOf.l0 k s w n t (strOfNums acc) i = some (strOfNums (acc ++ ofL s w i d)) := by
  have ew : wrap64 ((t : Int) * (n : Int)) = ((t * n : Nat) : Int) := by rw [← Int.natCast_mul, w64 (by omega)]
  induction d with
  | zero =>
    intro k i acc hd hk ha
    obtain ⟨k, rfl⟩ : ∃ m, k = m + 1 := ⟨k - 1, by omega⟩
    simp only [spec_cpOf.l0]
    rw [ew, if_neg (by omega)]; simp [ofL]
  | succ d ih =>
    intro k i acc hd hk ha
    obtain ⟨k, rfl⟩ : ∃ m, k = m + 1 := ⟨k - 1, by omega⟩
    simp only [spec_cpOf.l0]
    have hq := Nat.div_le_self i w
    have hm := Nat.mod_lt (i / w) hs
    have ex := extract_one s (i / w % s.size) hm
    rw [ew, if_pos (by omega), if_neg (by omega), if_neg (by omega), tdiv_nat]
    have hc : colN s w i = bt s ((i / w % s.size : Nat) : Int) := rfl
    rw [ofL_cons, hc]
    have hcs : s.size ≤ 1000 := hs2
    generalize i / w = q at *
    rw [w64 (x := (q : Int)) (by omega), tmod_nat]
    generalize q % s.size = c at *
    rw [w64 (x := (c : Int) + 1) (by omega), if_pos (by omega), if_pos (by omega), if_pos (by omega), show ((c : Int) + 1).toNat = c + 1 from by omega, Int.toNat_natCast, ex, ← son_app, if_pos (by rw [strOfNums_size, strOfNums_size]; simp; omega), w64 (by omega), show (i : Int) + 1 = ((i + 1 : Nat) : Int) from rfl]
    rw [ih k (i + 1) _ (by omega) (by omega) (by simp; omega)]; simp
theorem cpOf_eq {k : Nat} (s : ByteArray) (w n t : Nat) (hs : 0 < s.size) (hs2 : s.size ≤ 1000) (hw : 0 < w) (hn : n ≤ 100) (ht : 0 < t) (ht2 : t ≤ 100) (hk : 200 < k) : spec_cpOf.f k s w n t = some (strOfNums (ofL s w ((t - 1) * n) n)) := by
  unfold spec_cpOf.f
  have hm : t * n ≤ 100 * 100 := Nat.mul_le_mul ht2 hn
  have hs' : t * n = (t - 1) * n + n := by rw [← Nat.succ_mul, Nat.succ_eq_add_one, Nat.sub_add_cancel (by omega)]
  rw [w64 (x := (t : Int) - 1) (by omega), show (t : Int) - 1 = ((t - 1 : Nat) : Int) from by omega, ← Int.natCast_mul, w64 (by omega), ← son_nil, cpOf_l0 s w n t hs hs2 hw (by omega) n k ((t - 1) * n) [] (by omega) (by omega) (by simp)]
  simp
theorem col_range (s : ByteArray) (w p : Nat) : 0 ≤ colN s w p ∧ colN s w p ≤ 255 := bt_range s _
/-- Two steps are alike. -/
def alikeP (s : ByteArray) (w n k : Nat) : Prop := ∀ x, x < n → colN s w (k * n + x) = colN s w x
theorem son_inj {l m : List Int} (hl : ∀ x ∈ l, 0 ≤ x ∧ x ≤ 255) (hm : ∀ x ∈ m, 0 ≤ x ∧ x ≤ 255) (h : strOfNums l = strOfNums m) : l = m := by
  have h2 : (strOfNums l).data.toList = (strOfNums m).data.toList := by rw [h]
  rw [strOfNums_data, strOfNums_data] at h2
  clear h
  induction l generalizing m with
  | nil => cases m with
    | nil => rfl
    | cons y ys => simp at h2
  | cons x xs ih =>
    cases m with
    | nil => simp at h2
    | cons y ys =>
      simp only [List.map_cons, List.cons.injEq] at h2
      have a := hl x (by simp)
      have b := hm y (by simp)
      have e := congrArg UInt8.toNat h2.1
      rw [UInt8.toNat_ofNat', UInt8.toNat_ofNat'] at e
      rw [ih (fun z hz => hl z (by simp [hz])) (fun z hz => hm z (by simp [hz])) h2.2, show x = y from by omega]
theorem ofL_at (s : ByteArray) (w i d x : Nat) (h : x < d) : (ofL s w i d)[x]'(by simpa [ofL] using h) = colN s w (i + x) := by simp [ofL]
theorem ofL_alike (s : ByteArray) (w n k : Nat) : ofL s w (k * n) n = ofL s w 0 n ↔ alikeP s w n k := by
  constructor
  · intro h x hx
    have h1 := ofL_at s w (k * n) n x hx
    have h2 := ofL_at s w 0 n x hx
    rw [Nat.zero_add] at h2
    rw [← h1, ← h2]
    congr 1
  · intro h
    apply List.ext_getElem (by simp [ofL])
    intro x h1 h2
    have hx : x < n := by simpa [ofL] using h1
    rw [ofL_at s w (k * n) n x hx, ofL_at s w 0 n x hx, h x hx, Nat.zero_add]
theorem alike_l1 (s : ByteArray) (w n t : Nat) (hs : 0 < s.size) (hw : 0 < w) (hn : n ≤ 100) (kk : Nat) (hkk : kk ≤ 100) (acc : List Int) (ha : acc.length ≤ 1000) (d : Nat) : ∀ (k x : Nat) (b : Bool), x + d = n → d < k →
    ∃ j, j < k ∧ k ≤ j + d + 1 ∧ ∀ (_ : (b = true ↔ ∀ y, y < x → colN s w (kk * n + y) = colN s w y)), 
      (alikeP s w n kk → impl_AlikeSteps.l1 k s w n t acc kk b n x = impl_AlikeSteps.l0 j s w n t (acc ++ [(kk : Int) + 1]) ((kk : Int) + 1)) ∧
      (¬ alikeP s w n kk → impl_AlikeSteps.l1 k s w n t acc kk b n x = impl_AlikeSteps.l0 j s w n t acc ((kk : Int) + 1)) := by
  have hm : kk * n ≤ 100 * 100 := Nat.mul_le_mul hkk hn
  induction d with
  | zero =>
    intro k x b hd hk
    obtain ⟨k, rfl⟩ : ∃ m, k = m + 1 := ⟨k - 1, by omega⟩
    refine ⟨k, by omega, by omega, fun hb => ?_⟩
    simp only [impl_AlikeSteps.l1]
    rw [if_neg (show ¬ (x : Int) < (n : Int) by omega), w64 (x := (kk : Int) + 1) (by omega)]
    have hx : x = n := by omega
    subst hx
    refine ⟨fun h => ?_, fun h => ?_⟩
    · rw [if_pos (hb.2 h), if_pos (by omega)]
    · rw [if_neg (fun z => h (hb.1 z))]
  | succ d ih =>
    intro k x b hd hk
    obtain ⟨k, rfl⟩ : ∃ m, k = m + 1 := ⟨k - 1, by omega⟩
    simp only [impl_AlikeSteps.l1]
    rw [if_pos (show (x : Int) < (n : Int) by omega), w64 (x := (x : Int) + 1) (by omega), show (x : Int) + 1 = ((x + 1 : Nat) : Int) from rfl]
    cases b with
    | true =>
      rw [if_pos rfl, ← Int.natCast_mul, w64 (x := ((kk * n : Nat) : Int)) (by omega), show ((kk * n : Nat) : Int) + (x : Int) = ((kk * n + x : Nat) : Int) from by omega, w64 (by omega), colour_eq s w _ hs hw (by omega), colour_eq s w x hs hw (by omega), Option.bind_some, Option.bind_some]
      obtain ⟨j, h1, h2, h3⟩ := ih k (x + 1) (colN s w (kk * n + x) == colN s w x) (by omega) (by omega)
      refine ⟨j, by omega, by omega, fun hb => h3 ?_⟩
      rw [beq_iff_eq]
      constructor
      · intro h y hy
        by_cases e : y = x
        · subst e; exact h
        · exact hb.1 rfl y (by omega)
      · intro h; exact h x (by omega)
    | false =>
      rw [if_neg (by decide)]
      obtain ⟨j, h1, h2, h3⟩ := ih k (x + 1) false (by omega) (by omega)
      refine ⟨j, by omega, by omega, fun hb => h3 ⟨fun h => absurd h (by decide), fun h => ?_⟩⟩
      exact hb.2 (fun y hy => h y (by omega))
theorem alike_l0 (s : ByteArray) (w n t : Nat) (hs : 0 < s.size) (hs2 : s.size ≤ 1000) (hw : 0 < w) (hn : n ≤ 100) (ht : t ≤ 100) (d : Nat) : ∀ (i : Nat) (acc : List Int), i + d = t → 0 < i → acc.length ≤ i →
    ∃ r, r.length ≤ t ∧ ∀ k, 300 * d + 300 < k → spec_AlikeSteps.l0 k s w n t acc (strOfNums (ofL s w 0 n)) ((i + 1 : Nat) : Int) = some (r, true) ∧ impl_AlikeSteps.l0 k s w n t acc i = some (r, true) := by
  induction d with
  | zero =>
    intro i acc hd hi ha
    refine ⟨acc, by omega, fun k hk => ?_⟩
    obtain ⟨k, rfl⟩ : ∃ m, k = m + 1 := ⟨k - 1, by omega⟩
    simp only [spec_AlikeSteps.l0, impl_AlikeSteps.l0]
    exact ⟨by rw [if_neg (by omega)], by rw [if_neg (by omega)]⟩
  | succ d ih =>
    intro i acc hd hi ha
    have hbt : ∀ (a b : Nat) (x : Int), x ∈ ofL s w a b → 0 ≤ x ∧ x ≤ 255 := fun a b x hx => by
      obtain ⟨p, -, rfl⟩ := List.mem_map.1 hx
      exact col_range s w p
    have key : (strOfNums (ofL s w (i * n) n)).toList = (strOfNums (ofL s w 0 n)).toList ↔ alikeP s w n i := by
      rw [← ofL_alike]
      constructor
      · intro h
        rw [strOfNums_toListN, strOfNums_toListN] at h
        exact son_inj (hbt _ _) (hbt _ _) (by apply ByteArray.ext; apply Array.ext'; exact h)
      · intro h; rw [h]
    by_cases h : alikeP s w n i
    · obtain ⟨r, hr, hh⟩ := ih (i + 1) (acc ++ [((i + 1 : Nat) : Int)]) (by omega) (by omega) (by simp; omega)
      refine ⟨r, hr, fun k hk => ?_⟩
      obtain ⟨k, rfl⟩ : ∃ m, k = m + 1 := ⟨k - 1, by omega⟩
      obtain ⟨j, j1, j2, j3⟩ := alike_l1 s w n t hs hw hn i (by omega) acc (by omega) n k 0 true (by omega) (by omega)
      have j4 := (j3 ⟨fun _ y hy => by omega, fun _ => rfl⟩).1 h
      simp only [spec_AlikeSteps.l0, impl_AlikeSteps.l0]
      refine ⟨?_, ?_⟩
      · rw [if_pos (by omega), cpOf_eq s w n (i + 1) hs hs2 hw hn (by omega) (by omega) (by omega), Option.bind_some, show i + 1 - 1 = i from by omega, if_pos (key.2 h), if_pos (by omega), w64 (by omega)]
        exact (hh k (by omega)).1
      · rw [if_pos (by omega)]
        refine j4.trans ?_
        exact (hh j (by omega)).2
    · obtain ⟨r, hr, hh⟩ := ih (i + 1) acc (by omega) (by omega) (by omega)
      refine ⟨r, hr, fun k hk => ?_⟩
      obtain ⟨k, rfl⟩ : ∃ m, k = m + 1 := ⟨k - 1, by omega⟩
      obtain ⟨j, j1, j2, j3⟩ := alike_l1 s w n t hs hw hn i (by omega) acc (by omega) n k 0 true (by omega) (by omega)
      have j4 := (j3 ⟨fun _ y hy => by omega, fun _ => rfl⟩).2 h
      simp only [spec_AlikeSteps.l0, impl_AlikeSteps.l0]
      refine ⟨?_, ?_⟩
      · rw [if_pos (by omega), cpOf_eq s w n (i + 1) hs hs2 hw hn (by omega) (by omega) (by omega), Option.bind_some, show i + 1 - 1 = i from by omega, if_neg (fun z => h (key.1 z)), w64 (by omega)]
        exact (hh k (by omega)).1
      · rw [if_pos (by omega)]
        refine j4.trans ?_
        exact (hh j (by omega)).2
theorem AlikeSteps_eq {k : Nat} {s : ByteArray} (hs : s.size ≤ 1048576) (hk : 1200000 < k) (w n t : Int) : ∃ r, spec_AlikeSteps.f k s w n t = some r ∧ impl_AlikeSteps.f k s w n t = some r ∧ r.1.length ≤ 100 := by
  obtain ⟨k, rfl⟩ : ∃ m, k = m + 1 := ⟨k - 1, by omega⟩
  unfold spec_AlikeSteps.f impl_AlikeSteps.f
  rw [cpWide_eq hs (by omega), IsStriped_eq hs (by omega), Option.bind_some, Option.bind_some, cpSteps_eq, isNeed_eq, isNeed_eq, isCover_eq]
  simp only [Option.bind_some]
  have it : impl_AlikeSteps.j0 (k + 1) s w n t true = some ([], false) := by rw [impl_AlikeSteps.j0, if_pos rfl]
  have st : spec_AlikeSteps.j0 (k + 1) s w n t true = some ([], false) := by rw [spec_AlikeSteps.j0, if_pos rfl]
  by_cases h : (1 ≤ s.size ∧ s.size ≤ 10) ∧ low s
  · rw [decide_eq_true h, if_pos (show true = true from rfl)]
    by_cases g1 : 1 ≤ w ∧ w ≤ 100
    · rw [decide_eq_true (show ((1 ≤ s.size ∧ s.size ≤ 10) ∧ low s) ∧ (1 ≤ w ∧ w ≤ 100) from ⟨h, g1⟩), decide_eq_true g1]
      by_cases g2 : 1 ≤ n ∧ n ≤ 100
      · by_cases g3 : 1 ≤ t ∧ t ≤ 100
        · rw [decide_eq_true (show (1 ≤ t ∧ t ≤ 100) ∧ (1 ≤ n ∧ n ≤ 100) from ⟨g3, g2⟩), decide_eq_true g2, decide_eq_true g3]
          obtain ⟨w, rfl⟩ := Int.eq_ofNat_of_zero_le (show 0 ≤ w by omega)
          obtain ⟨n, rfl⟩ := Int.eq_ofNat_of_zero_le (show 0 ≤ n by omega)
          obtain ⟨t, rfl⟩ := Int.eq_ofNat_of_zero_le (show 0 ≤ t by omega)
          obtain ⟨r, hr, hh⟩ := alike_l0 s w n t (by omega) (by omega) (by omega) (by omega) (by omega) (t - 1) 1 [] (by omega) (by omega) (by simp)
          have a := (hh k (by omega)).1
          have b := (hh k (by omega)).2
          refine ⟨(r, true), ?_, ?_, by show r.length ≤ 100; omega⟩
          · rw [if_pos rfl, spec_AlikeSteps.j0, if_neg (by decide), show (1 : Int) = ((1 : Nat) : Int) from rfl, cpOf_eq s w n 1 (by omega) (by omega) (by omega) (by omega) (by omega) (by omega) (by omega), Option.bind_some, Nat.sub_self, Nat.zero_mul]
            exact a
          · rw [if_pos rfl, if_pos rfl, impl_AlikeSteps.j0, if_neg (by decide)]
            exact b
        · rw [decide_eq_false (show ¬ ((1 ≤ t ∧ t ≤ 100) ∧ (1 ≤ n ∧ n ≤ 100)) from fun z => g3 z.1), decide_eq_true g2, decide_eq_false g3]
          exact ⟨_, st, it, by simp⟩
      · rw [decide_eq_false (show ¬ ((1 ≤ t ∧ t ≤ 100) ∧ (1 ≤ n ∧ n ≤ 100)) from fun z => g2 z.2), decide_eq_false g2]
        exact ⟨_, st, it, by simp⟩
    · rw [decide_eq_false (show ¬ (((1 ≤ s.size ∧ s.size ≤ 10) ∧ low s) ∧ (1 ≤ w ∧ w ≤ 100)) from fun z => g1 z.2), decide_eq_false g1]
      exact ⟨_, st, it, by simp⟩
  · rw [decide_eq_false h, decide_eq_false (show ¬ (((1 ≤ s.size ∧ s.size ≤ 10) ∧ low s) ∧ (1 ≤ w ∧ w ≤ 100)) from fun z => h z.1)]
    exact ⟨_, st, it, by simp⟩
theorem FnExactAlikeSteps : laws_FnExactAlikeSteps.Pure := by
  intro s w n t _ _ _ _
  obtain ⟨k, hk⟩ : ∃ k, 1200005 < k := ⟨1200006, by omega⟩
  refine ⟨k + 2, ?_⟩
  unfold laws_FnExactAlikeSteps.f
  by_cases hs : (s.size : Int) > 1048576
  · rw [if_pos hs]
  · obtain ⟨r, h1, h2, hl⟩ := AlikeSteps_eq (k := k + 2) (s := s) (by omega) (by omega) w n t
    obtain ⟨r', h1', h2', -⟩ := AlikeSteps_eq (k := k + 1) (s := s) (by omega) (by omega) w n t
    have e : r' = r := by
      have m := impl_AlikeSteps.mono s w n t (k + 1) _ h2'
      rw [h2] at m; exact (Option.some.inj m).symm
    subst e
    rw [if_neg hs, h1, Option.bind_some, h2, Option.bind_some, eqIntS_self (by omega) (by omega), Option.bind_some, if_pos rfl, laws_FnExactAlikeSteps.j0, if_neg (by simp), markIntS_eq (by omega) (by omega) (by omega), Option.bind_some, heldIntS_eq (by omega) (by omega) (by omega), Option.bind_some, if_neg (by omega), if_pos rfl, h2', Option.bind_some, eqIntS_self (by omega) (by omega), Option.bind_some]
    rw [if_pos rfl, laws_FnExactAlikeSteps.j1, if_neg (by simp), heldIntS_eq (by omega) (by omega) (by omega), Option.bind_some, if_neg (by omega), if_pos rfl]

end Go.Proofs.Ytflagakoikgkhaa.Pure
