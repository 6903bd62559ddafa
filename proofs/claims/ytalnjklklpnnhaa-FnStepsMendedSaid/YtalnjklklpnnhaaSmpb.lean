/- The sums of the parts and the least of them, in the program and in the reference (StepsMended). No condition but the bounds of bears. -/
import Derived.Test.YtalnjklklpnnhaaSmpa
namespace Go.Proofs.Ytalnjklklpnnhaa.Pure
open Go.RowKit Go.Proofs.Ytalnjklklpnnhaa.PFnStepsMended Go.Proofs.YtalnjklklpnnhaaW.PrintWords Go.Proofs.YtalnjklklpnnhaaW.PrintLast Go.Proofs.YtalnjklklpnnhaaW.PrintMore
set_option linter.unusedVariables false
set_option linter.unusedSimpArgs false

def wsum (f : Nat → Int) (i : Nat) : Nat → Int
  | 0 => 0
  | m + 1 => wsum f i m + f (i + m)
def wl (f : Nat → Int) (R i : Nat) : Nat → List Int
  | 0 => []
  | d + 1 => wsum f i R :: wl f R (i + 1) d
def mw (f : Nat → Int) (R : Nat) : Nat → Int
  | 0 => wsum f 0 R
  | n + 1 => min (mw f R n) (wsum f (n + 1) R)
def nf (B : List Int) : Nat → Int := fun j => rd B (j : Int)
def mwB (B : List Int) (R : Nat) : Int := mw (nf B) R (B.length - R)
/-- All entries are from 0 to m. -/
def ents (B : List Int) (m : Int) : Prop := ∀ j : Nat, j < B.length → 0 ≤ rd B (j : Int) ∧ rd B (j : Int) ≤ m
theorem wsum_bd {f : Nat → Int} {i : Nat} {M : Int} (m : Nat) (hf : ∀ j, i ≤ j → j < i + m → 0 ≤ f j ∧ f j ≤ M) : 0 ≤ wsum f i m ∧ wsum f i m ≤ M * m := by
  induction m with
  | zero => simp [wsum]
  | succ m ih =>
    obtain ⟨a, b⟩ := ih (fun j h1 h2 => hf j h1 (by omega))
    have c := hf (i + m) (by omega) (by omega)
    have e : M * ((m + 1 : Nat) : Int) = M * (m : Int) + M := by rw [Int.natCast_add, Int.mul_add]; simp
    unfold wsum; rw [e]; omega
theorem wsum_nn {f : Nat → Int} {i : Nat} (m : Nat) (hf : ∀ j, i ≤ j → j < i + m → 0 ≤ f j) : 0 ≤ wsum f i m := by
  induction m with
  | zero => simp [wsum]
  | succ m ih =>
    have a := ih (fun j h1 h2 => hf j h1 (by omega)); have c := hf (i + m) (by omega) (by omega)
    unfold wsum; omega
theorem wsum_pos {f : Nat → Int} {i : Nat} (m : Nat) (hf : ∀ j, i ≤ j → j < i + m → 0 ≤ f j) : 0 < wsum f i m ↔ ∃ j, i ≤ j ∧ j < i + m ∧ 0 < f j := by
  induction m with
  | zero =>
    constructor
    · intro h; simp [wsum] at h
    · rintro ⟨j, h1, h2, -⟩; omega
  | succ m ih =>
    have ih := ih (fun j h1 h2 => hf j h1 (by omega))
    have h0 := wsum_nn (f := f) (i := i) m (fun j h1 h2 => hf j h1 (by omega))
    have c := hf (i + m) (by omega) (by omega)
    unfold wsum
    constructor
    · intro h
      by_cases g : 0 < f (i + m)
      · exact ⟨i + m, by omega, by omega, g⟩
      · obtain ⟨j, a, b, d⟩ := ih.1 (by omega); exact ⟨j, a, by omega, d⟩
    · rintro ⟨j, a, b, d⟩
      by_cases g : j = i + m
      · subst g; omega
      · have := ih.2 ⟨j, a, by omega, d⟩; omega
theorem wsum_congr {f g : Nat → Int} {i : Nat} (m : Nat) (h : ∀ j, i ≤ j → j < i + m → f j = g j) : wsum f i m = wsum g i m := by
  induction m with
  | zero => rfl
  | succ m ih => unfold wsum; rw [ih (fun j a b => h j a (by omega)), h (i + m) (by omega) (by omega)]
theorem wsum_shift (f : Nat → Int) (i m : Nat) : wsum f i (m + 1) = f i + wsum f (i + 1) m := by
  induction m with
  | zero => simp [wsum]
  | succ m ih => rw [wsum, ih, wsum, Int.add_assoc]; congr 2; congr 1; omega
theorem wsum_add (f : Nat → Int) (i a b : Nat) : wsum f i (a + b) = wsum f i a + wsum f (i + a) b := by
  induction b with
  | zero => simp [wsum]
  | succ b ih => rw [show a + (b + 1) = (a + b) + 1 from rfl, wsum, ih, wsum, Int.add_assoc]; congr 2; congr 1; omega
theorem wl_length (f : Nat → Int) (R : Nat) : ∀ (d i : Nat), (wl f R i d).length = d
  | 0, i => rfl
  | d + 1, i => by rw [wl, List.length_cons, wl_length f R d]
theorem wl_rd (f : Nat → Int) (R : Nat) : ∀ (d i j : Nat), j < d → rd (wl f R i d) (j : Int) = wsum f (i + j) R
  | 0, i, j, h => by omega
  | d + 1, i, 0, h => by simp [wl, rd]
  | d + 1, i, j + 1, h => by
    have := wl_rd f R d (i + 1) j (by omega)
    rw [show i + (j + 1) = i + 1 + j from by omega, ← this]
    simp [wl, rd]
theorem mw_le (f : Nat → Int) (R : Nat) : ∀ (n i : Nat), i ≤ n → mw f R n ≤ wsum f i R
  | 0, i, h => by rw [show i = 0 by omega]; exact Int.le_refl _
  | n + 1, i, h => by
    unfold mw
    by_cases c : i = n + 1
    · subst c; omega
    · have := mw_le f R n i (by omega); omega
theorem mw_ex (f : Nat → Int) (R : Nat) : ∀ n, ∃ i, i ≤ n ∧ wsum f i R = mw f R n
  | 0 => ⟨0, by omega, rfl⟩
  | n + 1 => by
    obtain ⟨i, a, b⟩ := mw_ex f R n
    unfold mw
    by_cases c : mw f R n ≤ wsum f (n + 1) R
    · exact ⟨i, by omega, by omega⟩
    · exact ⟨n + 1, by omega, by omega⟩
theorem mw_uniq {f : Nat → Int} {R n : Nat} {r : Int} (h1 : ∀ i, i ≤ n → r ≤ wsum f i R) (h2 : ∃ i, i ≤ n ∧ wsum f i R = r) : r = mw f R n := by
  obtain ⟨i, a, b⟩ := mw_ex f R n
  obtain ⟨j, c, d⟩ := h2
  have := h1 i a
  have := mw_le f R n j c
  omega
theorem cut_length {B : List Int} {i R : Nat} (h : i + R ≤ B.length) : ((B.take (i + R)).drop i).length = R := by
  rw [List.length_drop, List.length_take]; omega
theorem cut_rd {B : List Int} {i R j : Nat} (h : i + R ≤ B.length) (hj : j < R) : rd ((B.take (i + R)).drop i) (j : Int) = rd B ((i + j : Nat) : Int) := by
  simp only [rd, Int.toNat_natCast, List.getD_eq_getElem?_getD]
  rw [List.getElem?_drop, List.getElem?_take, if_pos (by omega)]
theorem ps_l1 {B : List Int} {i R : Nat} {M : Int} (hB : ents B M) (hM : M ≤ 1000000) (h : i + R ≤ B.length) (hl : B.length ≤ 20) (acc : List Int) (ha : acc.length ≤ 100) (d : Nat) : ∀ (k j : Nat), j + d = R →
    impl_partSums.l1 (k + d + 1) B R acc i (wsum (nf B) i j) ((B.take (i + R)).drop i) (((B.take (i + R)).drop i).length : Int) j = impl_partSums.l0 k B R (acc ++ [wsum (nf B) i R]) ((i + 1 : Nat) : Int) := by
  induction d with
  | zero =>
    intro k j hj
    have e : j = R := by omega
    subst e
    rw [show k + 0 + 1 = k + 1 from rfl, impl_partSums.l1, cut_length h, if_neg (by omega), if_pos (by omega), w64 (by omega)]
    rfl
  | succ d ih =>
    intro k j hj
    have b : 0 ≤ wsum (nf B) i j + rd B ((i + j : Nat) : Int) ∧ wsum (nf B) i j + rd B ((i + j : Nat) : Int) ≤ M * ((j + 1 : Nat) : Int) := wsum_bd (f := nf B) (i := i) (M := M) (j + 1) (fun j' h1 h2 => hB j' (by omega))
    have m0 : 0 ≤ M := by have := hB 0 (by omega); omega
    have m1 : M * ((j + 1 : Nat) : Int) ≤ 1000000 * 21 := Int.mul_le_mul hM (by omega) (by omega) (by omega)
    rw [show k + (d + 1) + 1 = (k + d + 1) + 1 from by omega, impl_partSums.l1]
    rw [if_pos (by rw [cut_length h]; omega), if_pos (by omega), if_pos (by rw [cut_length h]; omega), cut_rd h (by omega), w64 (by omega), w64 (by omega)]
    exact ih k (j + 1) (by omega)
theorem ps_l0 {B : List Int} {R : Nat} {M : Int} (hB : ents B M) (hM : M ≤ 1000000) (hl : B.length ≤ 20) (hR : R ≤ B.length) (d : Nat) : ∀ (k i : Nat) (acc : List Int), i + d = B.length + 1 - R → acc.length + d ≤ 100 →
    impl_partSums.l0 (k + d * (R + 2) + 1) B R acc i = some (acc ++ wl (nf B) R i d) := by
  induction d with
  | zero =>
    intro k i acc hd ha
    rw [impl_partSums.l0, w64 (by omega), if_neg (by omega)]
    simp [wl]
  | succ d ih =>
    intro k i acc hd ha
    have e : k + (d + 1) * (R + 2) + 1 = ((k + d * (R + 2) + 1) + R + 1) + 1 := by rw [Nat.succ_mul]; omega
    rw [e, impl_partSums.l0, w64 (by omega), if_pos (by omega), if_pos (by omega), if_pos (by omega)]
    rw [show ((i : Int) + (R : Int)).toNat = i + R from by omega, Int.toNat_natCast]
    have z : (0 : Int) = wsum (nf B) i 0 := rfl
    have l1 := ps_l1 hB hM (by omega : i + R ≤ B.length) hl acc (by omega) R (k + d * (R + 2) + 1) 0 (by omega)
    rw [show ((0 : Nat) : Int) = 0 from rfl] at l1
    rw [show wsum (nf B) i 0 = 0 from rfl] at l1
    rw [l1, ih k (i + 1) _ (by omega) (by simp; omega)]
    simp [wl]
theorem wp_l1 {B : List Int} {i R : Nat} {M : Int} (hB : ents B M) (hM : M ≤ 1000000) (h : i + R ≤ B.length) (hl : B.length ≤ 20) (acc : List Int) (ha : acc.length ≤ 100) (d : Nat) : ∀ (k j : Nat), j + d = R →
    spec_weParts.l1 (k + d + 1) B R acc i (wsum (nf B) i j) ((B.take (i + R)).drop i) (((B.take (i + R)).drop i).length : Int) j = spec_weParts.l0 k B R (acc ++ [wsum (nf B) i R]) ((i + 1 : Nat) : Int) := by
  induction d with
  | zero =>
    intro k j hj
    have e : j = R := by omega
    subst e
    rw [show k + 0 + 1 = k + 1 from rfl, spec_weParts.l1, cut_length h, if_neg (by omega), if_pos (by omega), w64 (by omega)]
    rfl
  | succ d ih =>
    intro k j hj
    have b : 0 ≤ wsum (nf B) i j + rd B ((i + j : Nat) : Int) ∧ wsum (nf B) i j + rd B ((i + j : Nat) : Int) ≤ M * ((j + 1 : Nat) : Int) := wsum_bd (f := nf B) (i := i) (M := M) (j + 1) (fun j' h1 h2 => hB j' (by omega))
    have m0 : 0 ≤ M := by have := hB 0 (by omega); omega
    have m1 : M * ((j + 1 : Nat) : Int) ≤ 1000000 * 21 := Int.mul_le_mul hM (by omega) (by omega) (by omega)
    rw [show k + (d + 1) + 1 = (k + d + 1) + 1 from by omega, spec_weParts.l1]
    rw [if_pos (by rw [cut_length h]; omega), if_pos (by omega), if_pos (by rw [cut_length h]; omega), cut_rd h (by omega), w64 (by omega), w64 (by omega)]
    exact ih k (j + 1) (by omega)
theorem wp_l0 {B : List Int} {R : Nat} {M : Int} (hB : ents B M) (hM : M ≤ 1000000) (hl : B.length ≤ 20) (hR : R ≤ B.length) (d : Nat) : ∀ (k i : Nat) (acc : List Int), i + d = B.length + 1 - R → acc.length + d ≤ 100 →
    spec_weParts.l0 (k + d * (R + 2) + 1) B R acc i = some (acc ++ wl (nf B) R i d) := by
  induction d with
  | zero =>
    intro k i acc hd ha
    rw [spec_weParts.l0, w64 (by omega), if_neg (by omega)]
    simp [wl]
  | succ d ih =>
    intro k i acc hd ha
    have e : k + (d + 1) * (R + 2) + 1 = ((k + d * (R + 2) + 1) + R + 1) + 1 := by rw [Nat.succ_mul]; omega
    rw [e, spec_weParts.l0, w64 (by omega), if_pos (by omega), if_pos (by omega), if_pos (by omega)]
    rw [show ((i : Int) + (R : Int)).toNat = i + R from by omega, Int.toNat_natCast]
    have l1 := wp_l1 hB hM (by omega : i + R ≤ B.length) hl acc (by omega) R (k + d * (R + 2) + 1) 0 (by omega)
    rw [show ((0 : Nat) : Int) = 0 from rfl] at l1
    rw [show wsum (nf B) i 0 = 0 from rfl] at l1
    rw [l1, ih k (i + 1) _ (by omega) (by simp; omega)]
    simp [wl]
theorem Min_l0 (l : List Int) (hl : l.length ≤ 1000000) (d : Nat) : ∀ (k i : Nat) (m : Int), i + d = l.length → d < k → (∀ j : Nat, j < i → m ≤ rd l j) → (∃ j : Nat, j < i ∧ rd l j = m) →
    ∃ r, slices_Min_int_int.l0 k l m i = some r ∧ (∀ j : Nat, j < l.length → r ≤ rd l j) ∧ ∃ j : Nat, j < l.length ∧ rd l j = r := by
  induction d with
  | zero =>
    intro k i m hd hk h1 h2
    obtain ⟨k, rfl⟩ : ∃ m, k = m + 1 := ⟨k - 1, by omega⟩
    have e : i = l.length := by omega
    subst e
    exact ⟨m, by rw [slices_Min_int_int.l0, if_neg (by omega)], h1, h2⟩
  | succ d ih =>
    intro k i m hd hk h1 h2
    obtain ⟨k, rfl⟩ : ∃ m, k = m + 1 := ⟨k - 1, by omega⟩
    obtain ⟨j, j1, j2⟩ := h2
    rw [slices_Min_int_int.l0, if_pos (by omega), if_pos (by omega), w64 (by omega), show (i : Int) + 1 = ((i + 1 : Nat) : Int) from rfl]
    refine ih k (i + 1) _ (by omega) (by omega) (fun j hj => ?_) ?_
    · unfold mn
      by_cases e : j = i
      · subst e; split <;> omega
      · have := h1 j (by omega); split <;> omega
    · unfold mn
      split
      · exact ⟨i, by omega, rfl⟩
      · exact ⟨j, by omega, by omega⟩
theorem weMost_l0 (l : List Int) (hl : l.length ≤ 1000000) (d : Nat) : ∀ (k i : Nat) (m : Int), i + d = l.length → d < k → (∀ j : Nat, j < i → m ≤ rd l j) → (∃ j : Nat, j < l.length ∧ rd l j = m) →
    ∃ r, spec_weMost.l0 k m l l.length i = some r ∧ (∀ j : Nat, j < l.length → r ≤ rd l j) ∧ ∃ j : Nat, j < l.length ∧ rd l j = r := by
  induction d with
  | zero =>
    intro k i m hd hk h1 h2
    obtain ⟨k, rfl⟩ : ∃ m, k = m + 1 := ⟨k - 1, by omega⟩
    have e : i = l.length := by omega
    subst e
    exact ⟨m, by rw [spec_weMost.l0, if_neg (by omega)], h1, h2⟩
  | succ d ih =>
    intro k i m hd hk h1 h2
    obtain ⟨k, rfl⟩ : ∃ m, k = m + 1 := ⟨k - 1, by omega⟩
    obtain ⟨j, j1, j2⟩ := h2
    rw [spec_weMost.l0, if_pos (by omega), if_pos (by omega), if_pos (by omega), w64 (by omega), show (i : Int) + 1 = ((i + 1 : Nat) : Int) from rfl]
    unfold spec_l1Least.f
    by_cases c : m < rd l (i : Int)
    · rw [if_pos c, Option.bind_some]
      refine ih k (i + 1) _ (by omega) (by omega) (fun j hj => ?_) ⟨j, j1, j2⟩
      by_cases e : j = i
      · subst e; omega
      · exact h1 j (by omega)
    · rw [if_neg c, Option.bind_some]
      refine ih k (i + 1) _ (by omega) (by omega) (fun j hj => ?_) ⟨i, by omega, rfl⟩
      by_cases e : j = i
      · subst e; omega
      · have := h1 j (by omega); omega
theorem most_eq {k : Nat} (hk : 600 < k) {B : List Int} {R : Nat} {M : Int} (hB : ents B M) (hM : M ≤ 1000000) (hl : B.length ≤ 20) (h1 : 1 ≤ R) (hR : R ≤ B.length) : impl_mostWears.f k B R = some (mwB B R) ∧ spec_weMost.f k B R = some (mwB B R) := by
  have hd : (B.length + 1 - R) * (R + 2) ≤ 20 * 22 := Nat.mul_le_mul (by omega) (by omega)
  obtain ⟨k', hk'⟩ : ∃ k', k = k' + (B.length + 1 - R) * (R + 2) + 1 := ⟨k - (B.length + 1 - R) * (R + 2) - 1, by omega⟩
  have p1 := ps_l0 hB hM hl hR (B.length + 1 - R) k' 0 [] (by omega) (by simp; omega)
  have p2 := wp_l0 hB hM hl hR (B.length + 1 - R) k' 0 [] (by omega) (by simp; omega)
  rw [← hk', List.nil_append] at p1 p2
  have hw := wl_length (nf B) R (B.length + 1 - R) 0
  have hr : ∀ j : Nat, j < B.length + 1 - R → rd (wl (nf B) R 0 (B.length + 1 - R)) (j : Int) = wsum (nf B) j R := fun j hj => by rw [wl_rd _ _ _ _ _ hj, Nat.zero_add]
  generalize hW : wl (nf B) R 0 (B.length + 1 - R) = W at *
  have fin : ∀ r, (∀ j : Nat, j < W.length → r ≤ rd W j) → (∃ j : Nat, j < W.length ∧ rd W j = r) → r = mwB B R := by
    intro r a ⟨j, b, c⟩
    refine mw_uniq (fun i hi => ?_) ⟨j, by omega, by rw [← hr j (by omega)]; exact c⟩
    rw [← hr i (by omega)]; exact a i (by omega)
  constructor
  · unfold impl_mostWears.f impl_partSums.f
    rw [show (0 : Int) = ((0 : Nat) : Int) from rfl, p1, Option.bind_some]
    unfold slices_Min_int_int.f
    rw [if_neg (by omega), if_pos (by omega)]
    obtain ⟨r, e, a, b⟩ := Min_l0 W (by omega) (W.length - 1) k 1 (rd W 0) (by omega) (by omega) (fun j hj => by
      have : j = 0 := by omega
      subst this; exact Int.le_refl _) ⟨0, by omega, rfl⟩
    rw [show ((1 : Nat) : Int) = 1 from rfl] at e
    rw [e, Option.bind_some, fin r a b]
  · unfold spec_weMost.f spec_weParts.f
    rw [show (0 : Int) = ((0 : Nat) : Int) from rfl, p2, Option.bind_some, if_pos (by omega)]
    obtain ⟨r, e, a, b⟩ := weMost_l0 W (by omega) W.length k 0 (rd W 0) (by omega) (by omega) (fun j hj => by omega) ⟨0, by omega, rfl⟩
    rw [show ((0 : Nat) : Int) = 0 from rfl] at e ⊢
    rw [e, fin r a b]
theorem MostWears_eq {k : Nat} (hk : 600 < k) {B : List Int} {R : Nat} (h : eB B R = true) : impl_MostWears.f k B R = some (mwB B R, true) := by
  have a := eB_true h; have b := rB_true a.1; have c := gB_true b.1
  unfold impl_MostWears.f
  rw [hasParts_eq, Option.bind_some, h, if_pos rfl, (most_eq hk (M := 100) c.2.2 (by omega) c.2.1 (by omega) (by omega)).1]
  rfl

end Go.Proofs.Ytalnjklklpnnhaa.Pure
