/- Idle bears, the worst step to lose, and the least reach, in the program and in the reference (StepsMended). No condition but that the bears are few. -/
import Derived.Test.YtalnjklklpnnhaaSmpd
namespace Go.Proofs.Ytalnjklklpnnhaa.Pure
open Go.RowKit Go.Proofs.Ytalnjklklpnnhaa.PFnStepsMended Go.Proofs.YtalnjklklpnnhaaW.PrintWords Go.Proofs.YtalnjklklpnnhaaW.PrintLast Go.Proofs.YtalnjklklpnnhaaW.PrintMore
set_option linter.unusedVariables false
set_option linter.unusedSimpArgs false

def filt (p : Nat → Bool) (i d : Nat) : List Int := ((List.range' i d).filter p).map fun j : Nat => (j : Int)
theorem filt_succ (p : Nat → Bool) (i d : Nat) : filt p i (d + 1) = if p i = true then (i : Int) :: filt p (i + 1) d else filt p (i + 1) d := by
  unfold filt
  rw [List.range'_succ, List.filter_cons]
  by_cases h : p i = true
  · rw [if_pos h, if_pos h]; rfl
  · rw [if_neg h, if_neg h]
theorem filt_zero (p : Nat → Bool) (i : Nat) : filt p i 0 = [] := by simp [filt]
theorem filt_length (p : Nat → Bool) (i d : Nat) : (filt p i d).length ≤ d := by
  unfold filt; rw [List.length_map]; exact Nat.le_trans (List.length_filter_le _ _) (by simp)
theorem wRises_l0 (l : List Int) (hl : l.length ≤ 1000000) (h : ∀ j : Nat, j + 1 < l.length → rd l (j : Int) < rd l ((j + 1 : Nat) : Int)) (d : Nat) : ∀ (k i : Nat), 1 ≤ i → l.length ≤ i + d → d < k → laws_wRises.l0 k l i = some true := by
  induction d with
  | zero =>
    intro k i h1 hd hk
    obtain ⟨k, rfl⟩ : ∃ m, k = m + 1 := ⟨k - 1, by omega⟩
    simp only [laws_wRises.l0]; rw [if_neg (by omega)]
  | succ d ih =>
    intro k i h1 hd hk
    obtain ⟨k, rfl⟩ : ∃ m, k = m + 1 := ⟨k - 1, by omega⟩
    simp only [laws_wRises.l0]
    by_cases c : i < l.length
    · obtain ⟨j, rfl⟩ : ∃ j, i = j + 1 := ⟨i - 1, by omega⟩
      have hj := h j c
      have e : wrap64 (((j + 1 : Nat) : Int) - 1) = (j : Int) := by rw [w64 (by omega)]; omega
      rw [if_pos (by omega), e, if_pos (by omega), if_pos (by omega), if_pos (by omega), if_neg (by omega), w64 (by omega), show ((j + 1 : Nat) : Int) + 1 = ((j + 1 + 1 : Nat) : Int) from rfl]
      exact ih k (j + 1 + 1) (by omega) (by omega) (by omega)
    · rw [if_neg (by omega)]
theorem wRises_eq {k : Nat} {l : List Int} (hl : l.length ≤ 1000) (hk : 1000 < k) (h : ∀ j : Nat, j + 1 < l.length → rd l (j : Int) < rd l ((j + 1 : Nat) : Int)) : laws_wRises.f k l = some true := by
  unfold laws_wRises.f
  exact wRises_l0 l (by omega) h l.length k 1 (by omega) (by omega) (by omega)
theorem filt_pair (p : Nat → Bool) (i d : Nat) : (filt p i d).Pairwise (· < ·) := by
  unfold filt
  rw [List.pairwise_map]
  refine List.Pairwise.imp ?_ (List.Pairwise.filter p (List.pairwise_lt_range' (s := i) (n := d) (step := 1)))
  intro a b h; omega
theorem filt_rise (p : Nat → Bool) (i d : Nat) (j : Nat) (h : j + 1 < (filt p i d).length) : rd (filt p i d) (j : Int) < rd (filt p i d) ((j + 1 : Nat) : Int) := by
  rw [rd_get (by omega), rd_get h]
  exact List.pairwise_iff_getElem.1 (filt_pair p i d) j (j + 1) (by omega) h (by omega)
theorem filt_mem (p : Nat → Bool) (i d n : Nat) : ((n : Int) ∈ filt p i d) ↔ (i ≤ n ∧ n < i + d ∧ p n = true) := by
  unfold filt
  rw [List.mem_map]
  constructor
  · rintro ⟨a, h1, h2⟩
    rw [List.mem_filter, List.mem_range'_1] at h1
    have : a = n := by omega
    subst this
    exact ⟨h1.1.1, h1.1.2, h1.2⟩
  · rintro ⟨h1, h2, h3⟩
    exact ⟨n, by rw [List.mem_filter, List.mem_range'_1]; exact ⟨⟨h1, h2⟩, h3⟩, rfl⟩
/-! without a step -/
def lo (B : List Int) (r j : Nat) : Int := mwB (B.set (j - 1) 0) r
theorem ents_set {B : List Int} (hB : ents B 100) (p : Nat) : ents (B.set p 0) 100 := by
  intro j hj
  rw [List.length_set] at hj
  by_cases e : j = p
  · subst e; rw [rd_set_eq _ _ _ hj]; omega
  · rw [rd_set_ne _ _ _ _ e]; exact hB j hj
theorem losing_eq {B : List Int} (hl : B.length ≤ 20) {j : Nat} (h1 : 1 ≤ j) (h2 : j ≤ B.length) : impl_losing.f B (j : Int) = some (B.set (j - 1) 0) ∧ spec_weLose.f B (j : Int) = some (B.set (j - 1) 0) := by
  have e : wrap64 ((j : Int) - 1) = ((j - 1 : Nat) : Int) := by rw [w64 (by omega)]; omega
  constructor
  · unfold impl_losing.f slices_Clone_int_int.f
    rw [if_pos (by omega), Option.bind_some, e, if_pos (by omega), if_pos (by omega), Int.toNat_natCast]
  · unfold spec_weLose.f spec_l1Own.f
    rw [Option.bind_some, if_pos (by simp; omega), List.nil_append, Option.bind_some, e, if_pos (by omega), if_pos (by omega), Int.toNat_natCast]
theorem lo_eq {k : Nat} (hk : 600 < k) {B : List Int} {r : Nat} (hB : ents B 100) (hl : B.length ≤ 20) (h1 : 1 ≤ r) (hR : r ≤ B.length) (j : Nat) : impl_mostWears.f k (B.set (j - 1) 0) r = some (lo B r j) ∧ spec_weMost.f k (B.set (j - 1) 0) r = some (lo B r j) :=
  most_eq hk (ents_set hB (j - 1)) (by omega) (by simp; omega) h1 (by simp; omega)
def idleP (B : List Int) (r : Nat) : Nat → Bool := fun j => decide (lo B r j = mwB B r)
theorem idle_l0 {B : List Int} {r : Nat} (hB : ents B 100) (hl : B.length ≤ 20) (h1 : 1 ≤ r) (hR : r ≤ B.length) (d : Nat) : ∀ (k j : Nat) (acc : List Int), j + d = B.length + 1 → 700 + d < k → acc.length + d ≤ 100 → 1 ≤ j →
    impl_IdleBears.l0 k B r acc j = some (acc ++ filt (idleP B r) j d, true) ∧ spec_IdleBears.l0 k B r acc j = some (acc ++ filt (idleP B r) j d, true) := by
  induction d with
  | zero =>
    intro k j acc hd hk ha hj
    obtain ⟨k, rfl⟩ : ∃ m, k = m + 1 := ⟨k - 1, by omega⟩
    rw [impl_IdleBears.l0, spec_IdleBears.l0, if_neg (by omega), if_neg (by omega), filt_zero, List.append_nil]
    exact ⟨rfl, rfl⟩
  | succ d ih =>
    intro k j acc hd hk ha hj
    obtain ⟨k, rfl⟩ : ∃ m, k = m + 1 := ⟨k - 1, by omega⟩
    obtain ⟨a1, a2⟩ := losing_eq hl hj (show j ≤ B.length by omega)
    obtain ⟨b1, b2⟩ := lo_eq (k := k) (by omega) hB hl h1 hR j
    obtain ⟨c1, c2⟩ := most_eq (k := k) (by omega) hB (by omega) hl h1 hR
    have hj' : (j : Int) ≤ (B.length : Int) := by omega
    have hac : acc.length < 17592186044416 := by omega
    rw [impl_IdleBears.l0, spec_IdleBears.l0, if_pos hj', if_pos hj', a1, a2, Option.bind_some, Option.bind_some, b1, b2, Option.bind_some, Option.bind_some, c1, c2, Option.bind_some, Option.bind_some, filt_succ, w64 (by omega), show (j : Int) + 1 = ((j + 1 : Nat) : Int) from rfl]
    by_cases g : lo B r j = mwB B r
    · rw [if_pos g, if_pos g, if_pos hac, if_pos hac, if_pos (show idleP B r j = true from decide_eq_true g)]
      have := ih k (j + 1) (acc ++ [(j : Int)]) (by omega) (by omega) (by simp; omega) (by omega)
      simpa using this
    · rw [if_neg g, if_neg g, if_neg (show ¬ idleP B r j = true by unfold idleP; simpa using g)]
      exact ih k (j + 1) acc (by omega) (by omega) (by omega) (by omega)
theorem worst_l0 {B : List Int} {r : Nat} (hB : ents B 100) (hl : B.length ≤ 20) (h1 : 1 ≤ r) (hR : r ≤ B.length) (d : Nat) : ∀ (k j x : Nat), j + d = B.length + 1 → 700 + d < k → 2 ≤ j → 1 ≤ x → x < j → (∀ i, 1 ≤ i → i < j → lo B r x ≤ lo B r i) → (∀ i, 1 ≤ i → i < x → lo B r x < lo B r i) →
    ∃ wo : Nat, impl_WorstStepToLose.l0 k B r x (lo B r x) j = some ((wo : Int), lo B r wo, true) ∧ spec_WorstStepToLose.l0 k B r x (lo B r x) j = some ((wo : Int), lo B r wo, true) ∧ 1 ≤ wo ∧ wo ≤ B.length ∧ (∀ i, 1 ≤ i → i ≤ B.length → lo B r wo ≤ lo B r i) ∧ (∀ i, 1 ≤ i → i < wo → lo B r wo < lo B r i) := by
  induction d with
  | zero =>
    intro k j x hd hk hj hx hxj q1 q2
    obtain ⟨k, rfl⟩ : ∃ m, k = m + 1 := ⟨k - 1, by omega⟩
    rw [impl_WorstStepToLose.l0, spec_WorstStepToLose.l0, if_neg (by omega), if_neg (by omega)]
    exact ⟨x, rfl, rfl, hx, by omega, fun i a b => q1 i a (by omega), q2⟩
  | succ d ih =>
    intro k j x hd hk hj hx hxj q1 q2
    obtain ⟨k, rfl⟩ : ∃ m, k = m + 1 := ⟨k - 1, by omega⟩
    obtain ⟨a1, a2⟩ := losing_eq hl (show 1 ≤ j by omega) (show j ≤ B.length by omega)
    obtain ⟨b1, b2⟩ := lo_eq (k := k) (by omega) hB hl h1 hR j
    have hj' : (j : Int) ≤ (B.length : Int) := by omega
    have hj1 : ¬ (j : Int) = 1 := by omega
    have hx0 : ¬ (x : Int) = 0 := by omega
    rw [impl_WorstStepToLose.l0, spec_WorstStepToLose.l0, if_pos hj', if_pos hj', a1, a2, Option.bind_some, Option.bind_some, b1, b2, Option.bind_some, Option.bind_some, if_neg hj1, if_neg hx0, w64 (by omega), show (j : Int) + 1 = ((j + 1 : Nat) : Int) from rfl]
    by_cases g : lo B r j < lo B r x
    · rw [if_pos g, if_pos g]
      refine ih k (j + 1) j (by omega) (by omega) (by omega) (by omega) (by omega) (fun i a b => ?_) (fun i a b => ?_)
      · by_cases z : i = j
        · subst z; exact Int.le_refl _
        · have := q1 i a (by omega); omega
      · have := q1 i a (by omega); omega
    · rw [if_neg g, if_neg g]
      refine ih k (j + 1) x (by omega) (by omega) (by omega) hx (by omega) (fun i a b => ?_) q2
      by_cases z : i = j
      · subst z; omega
      · exact q1 i a (by omega)
theorem worst_ex {k : Nat} (hk : 800 < k) {B : List Int} {r : Nat} (hB : ents B 100) (h0 : 1 ≤ B.length) (hl : B.length ≤ 20) (h1 : 1 ≤ r) (hR : r ≤ B.length) :
    ∃ wo : Nat, impl_WorstStepToLose.l0 k B r 0 0 1 = some ((wo : Int), lo B r wo, true) ∧ spec_WorstStepToLose.l0 k B r 0 0 1 = some ((wo : Int), lo B r wo, true) ∧ 1 ≤ wo ∧ wo ≤ B.length ∧ (∀ i, 1 ≤ i → i ≤ B.length → lo B r wo ≤ lo B r i) ∧ (∀ i, 1 ≤ i → i < wo → lo B r wo < lo B r i) := by
  obtain ⟨k, rfl⟩ : ∃ m, k = m + 1 := ⟨k - 1, by omega⟩
  obtain ⟨a1, a2⟩ := losing_eq hl (show 1 ≤ 1 by omega) h0
  obtain ⟨b1, b2⟩ := lo_eq (k := k) (by omega) hB hl h1 hR 1
  have z := worst_l0 hB hl h1 hR (B.length - 1) k 2 1 (by omega) (by omega) (by omega) (by omega) (by omega) (fun i a b => by rw [show i = 1 by omega]; exact Int.le_refl _) (fun i a b => by omega)
  rw [show ((1 : Nat) : Int) = 1 from rfl] at a1 a2
  have hj' : (1 : Int) ≤ (B.length : Int) := by omega
  rw [impl_WorstStepToLose.l0, spec_WorstStepToLose.l0, if_pos hj', if_pos hj', a1, a2, Option.bind_some, Option.bind_some, b1, b2, Option.bind_some, Option.bind_some, if_pos rfl, if_pos rfl, w64 (by omega)]
  exact z
theorem reach_l0 {B : List Int} {n : Int} (hB : ents B 100) (hl : B.length ≤ 20) (d : Nat) : ∀ (k j : Nat), j + d = B.length + 1 → 700 + d < k → 1 ≤ j → (∀ i, 1 ≤ i → i < j → mwB B i < n) →
    ∃ far : Nat, impl_ReachForWears.l0 k B n j = some ((far : Int), true) ∧ spec_ReachForWears.l0 k B n j = some ((far : Int), true) ∧ 1 ≤ far ∧ far ≤ B.length + 1 ∧ (far ≤ B.length → n ≤ mwB B far) ∧ (∀ i, 1 ≤ i → i < far → mwB B i < n) := by
  induction d with
  | zero =>
    intro k j hd hk hj q
    obtain ⟨k, rfl⟩ : ∃ m, k = m + 1 := ⟨k - 1, by omega⟩
    rw [impl_ReachForWears.l0, spec_ReachForWears.l0, if_neg (by omega), if_neg (by omega)]
    exact ⟨j, rfl, rfl, hj, by omega, fun z => by omega, q⟩
  | succ d ih =>
    intro k j hd hk hj q
    obtain ⟨k, rfl⟩ : ∃ m, k = m + 1 := ⟨k - 1, by omega⟩
    obtain ⟨c1, c2⟩ := most_eq (k := k) (by omega) hB (by omega) hl hj (show j ≤ B.length by omega)
    have hj' : (j : Int) ≤ (B.length : Int) := by omega
    rw [impl_ReachForWears.l0, spec_ReachForWears.l0, if_pos hj', if_pos hj', c1, c2, Option.bind_some, Option.bind_some]
    by_cases g : mwB B j < n
    · rw [if_pos g, if_pos g, w64 (by omega), show (j : Int) + 1 = ((j + 1 : Nat) : Int) from rfl]
      refine ih k (j + 1) (by omega) (by omega) (by omega) (fun i a b => ?_)
      by_cases z : i = j
      · subst z; exact g
      · exact q i a (by omega)
    · rw [if_neg g, if_neg g]
      exact ⟨j, rfl, rfl, hj, by omega, fun _ => by omega, q⟩
theorem reach_ex {k : Nat} (hk : 1000 < k) (V : List Int) (n : Int) : ∃ far tt m1 m2, Men3 k V n far tt m1 m2 ∧ impl_ReachForWears.f k V n = some (far, tt) ∧ spec_ReachForWears.f k V n = some (far, tt) := by
  obtain ⟨k, rfl⟩ : ∃ m, k = m + 1 := ⟨k - 1, by omega⟩
  by_cases h : gB V = true
  · by_cases hn : 0 ≤ n ∧ n ≤ 1000
    · obtain ⟨h0, hl, hB⟩ := gB_true h
      obtain ⟨far, e1, e2, f1, f2, f3, f4⟩ := reach_l0 (n := n) hB hl V.length k 1 (by omega) (by omega) (by omega) (fun i a b => by omega)
      have eb : ∀ j : Nat, 1 ≤ j → j ≤ V.length → eB V (j : Int) = true := fun j a b => by
        unfold eB rB; rw [h, decide_eq_true (by omega), decide_eq_true (by omega)]; rfl
      refine ⟨(far : Int), true, mwB V far, mwB V (far - 1), ⟨fun _ => ⟨by omega, by omega, hl⟩, fun _ g => ⟨MostWears_eq (by omega) (eb far f1 (by omega)), f3 (by omega)⟩, fun _ g => ?_⟩, ?_, ?_⟩
      · rw [w64 (by omega), show (far : Int) - 1 = ((far - 1 : Nat) : Int) by omega]
        exact ⟨MostWears_eq (by omega) (eb (far - 1) (by omega) (by omega)), f4 (far - 1) (by omega) (by omega)⟩
      · unfold impl_ReachForWears.f
        rw [AreBears_eq, Option.bind_some, h, if_pos rfl, within_eq, Option.bind_some, decide_eq_true hn, Bool.not_true, impl_ReachForWears.j0, if_neg (by decide)]; exact e1
      · unfold spec_ReachForWears.f
        rw [weGood_eq (by omega), Option.bind_some, h, if_pos rfl, weClimbs_eq, Option.bind_some, decide_eq_true hn, Bool.not_true, spec_ReachForWears.j0, if_neg (by decide)]; exact e2
    · refine ⟨0, false, 0, 0, by constructor <;> (intro z; exact absurd z (by decide)), ?_, ?_⟩
      · unfold impl_ReachForWears.f
        rw [AreBears_eq, Option.bind_some, h, if_pos rfl, within_eq, Option.bind_some, decide_eq_false hn, Bool.not_false, impl_ReachForWears.j0, if_pos rfl]
      · unfold spec_ReachForWears.f
        rw [weGood_eq (by omega), Option.bind_some, h, if_pos rfl, weClimbs_eq, Option.bind_some, decide_eq_false hn, Bool.not_false, spec_ReachForWears.j0, if_pos rfl]
  · have h' : gB V = false := by simpa using h
    refine ⟨0, false, 0, 0, by constructor <;> (intro z; exact absurd z (by decide)), ?_, ?_⟩
    · unfold impl_ReachForWears.f
      rw [AreBears_eq, Option.bind_some, h', if_neg (by decide), impl_ReachForWears.j0, if_pos rfl]
    · unfold spec_ReachForWears.f
      rw [weGood_eq (by omega), Option.bind_some, h', if_neg (by decide), spec_ReachForWears.j0, if_pos rfl]

end Go.Proofs.Ytalnjklklpnnhaa.Pure
