/- Mended bears, in the program and in the reference: they are alike, each part bears as many as told, and the sum is least (StepsMended). No condition but the bounds of bears. -/
import Derived.Test.YtalnjklklpnnhaaSmpb
namespace Go.Proofs.Ytalnjklklpnnhaa.Pure
open Go.RowKit Go.Proofs.Ytalnjklklpnnhaa.PFnStepsMended Go.Proofs.YtalnjklklpnnhaaW.PrintWords Go.Proofs.YtalnjklklpnnhaaW.PrintLast Go.Proofs.YtalnjklklpnnhaaW.PrintMore
set_option linter.unusedVariables false
set_option linter.unusedSimpArgs false

def md (f : Nat → Int) (R : Nat) (c : Int) : Nat → Nat → Int
  | 0 => f
  | i + 1 => fun q => if q + 1 = i + R then f q + max 0 (c - wsum (md f R c i) i R) else md f R c i q
def sm (f : Nat → Int) (R : Nat) (c : Int) : Nat → Int
  | 0 => 0
  | i + 1 => sm f R c i + max 0 (c - wsum (md f R c i) i R)
theorem md_new {f : Nat → Int} {R : Nat} {c : Int} : ∀ (i q : Nat), i + R ≤ q + 1 → md f R c i q = f q
  | 0, q, h => rfl
  | i + 1, q, h => by unfold md; rw [if_neg (by omega)]; exact md_new i q (by omega)
theorem md_ge {f : Nat → Int} {R : Nat} {c : Int} : ∀ (i q : Nat), f q ≤ md f R c i q
  | 0, q => Int.le_refl _
  | i + 1, q => by
    have := md_ge (f := f) (R := R) (c := c) i q
    unfold md; split <;> omega
theorem md_bd {f : Nat → Int} {R n : Nat} {c : Int} (hf : ∀ q, q < n → 0 ≤ f q ∧ f q ≤ 100) (hc : 0 ≤ c) : ∀ (i q : Nat), i + R ≤ n + 1 → q < n → 0 ≤ md f R c i q ∧ md f R c i q ≤ 100 + c
  | 0, q, h, hq => by have := hf q hq; unfold md; omega
  | i + 1, q, h, hq => by
    have := md_bd (R := R) hf hc i q (by omega) hq
    have a := hf q hq
    have b := wsum_nn (f := md f R c i) (i := i) R (fun j h1 h2 => (md_bd (R := R) hf hc i j (by omega) (by omega)).1)
    unfold md; split <;> omega
theorem wsum_upd (g : Nat → Int) (p : Nat) (v : Int) (i m : Nat) : wsum (fun q => if q = p then v else g q) i m = wsum g i m + (if i ≤ p ∧ p < i + m then v - g p else 0) := by
  induction m with
  | zero => rw [if_neg (by omega)]; simp [wsum]
  | succ m ih =>
    unfold wsum; rw [ih]
    by_cases h : i + m = p
    · subst h; rw [if_pos rfl, if_neg (by omega), if_pos (by omega)]; omega
    · rw [if_neg h]
      by_cases a : i ≤ p ∧ p < i + m
      · rw [if_pos a, if_pos (by omega)]; omega
      · rw [if_neg a, if_neg (by omega)]; omega
theorem md_succ {f : Nat → Int} {R : Nat} {c : Int} (hR : 1 ≤ R) (i : Nat) : md f R c (i + 1) = fun q => if q = i + R - 1 then f (i + R - 1) + max 0 (c - wsum (md f R c i) i R) else md f R c i q := by
  funext q
  show (if q + 1 = i + R then _ else _) = _
  by_cases h : q + 1 = i + R
  · rw [if_pos h, if_pos (by omega), show i + R - 1 = q by omega]
  · rw [if_neg h, if_neg (by omega)]
theorem wsum_md {f : Nat → Int} {R : Nat} {c : Int} (hR : 1 ≤ R) (i a m : Nat) : wsum (md f R c (i + 1)) a m = wsum (md f R c i) a m + (if a ≤ i + R - 1 ∧ i + R - 1 < a + m then max 0 (c - wsum (md f R c i) i R) else 0) := by
  rw [md_succ hR, wsum_upd, md_new i (i + R - 1) (by omega)]
  congr 1; split <;> omega
theorem md_total {f : Nat → Int} {R : Nat} {c : Int} (hR : 1 ≤ R) : ∀ (s a : Nat), s + R ≤ a + 1 → wsum (md f R c s) 0 a = wsum f 0 a + sm f R c s
  | 0, a, h => by simp [md, sm]
  | s + 1, a, h => by rw [wsum_md hR, if_pos (by omega), md_total hR s a (by omega), sm]; omega
theorem md_stay {f : Nat → Int} {R : Nat} {c : Int} (hR : 1 ≤ R) (a : Nat) (d : Nat) : wsum (md f R c (a + 1 - R + d)) 0 a = wsum f 0 a + sm f R c (a + 1 - R) := by
  induction d with
  | zero =>
    by_cases h : R ≤ a + 1
    · exact md_total hR _ a (by omega)
    · rw [show a + 1 - R + 0 = 0 by omega, show a + 1 - R = 0 by omega]; simp [md, sm]
  | succ d ih => rw [show a + 1 - R + (d + 1) = (a + 1 - R + d) + 1 from rfl, wsum_md hR, if_neg (by omega), ih]; omega
theorem md_win {f : Nat → Int} {R : Nat} {c : Int} (hR : 1 ≤ R) : ∀ (s i : Nat), i < s → c ≤ wsum (md f R c s) i R
  | 0, i, h => by omega
  | s + 1, i, h => by
    rw [wsum_md hR]
    by_cases e : i = s
    · subst e; rw [if_pos (by omega)]; omega
    · have := md_win (f := f) (c := c) hR s i (by omega)
      split <;> omega
theorem sm_nn {f : Nat → Int} {R : Nat} {c : Int} : ∀ s, 0 ≤ sm f R c s
  | 0 => Int.le_refl _
  | s + 1 => by have := sm_nn (f := f) (R := R) (c := c) s; unfold sm; omega
theorem sm_bd {f : Nat → Int} {R n : Nat} {c : Int} (hf : ∀ q, q < n → 0 ≤ f q ∧ f q ≤ 100) (hc : 0 ≤ c) : ∀ s, s + R ≤ n + 1 → sm f R c s ≤ c * s
  | 0, h => by simp [sm]
  | s + 1, h => by
    have := sm_bd hf hc (R := R) s (by omega)
    have b := wsum_nn (f := md f R c s) (i := s) R (fun j h1 h2 => (md_bd (R := R) hf hc s j (by omega) (by omega)).1)
    have e : c * ((s + 1 : Nat) : Int) = c * (s : Int) + c := by rw [Int.natCast_add, Int.mul_add]; simp
    unfold sm; rw [e]; omega
theorem sm_split {f : Nat → Int} {R : Nat} {c : Int} (hR : 1 ≤ R) (i : Nat) : sm f R c (i + 1) = wsum f 0 i + sm f R c (i + 1 - R) + wsum (md f R c (i + 1)) i R - wsum f 0 (i + R) := by
  have a := md_total (f := f) (c := c) hR (i + 1) (i + R) (by omega)
  have b := md_stay (f := f) (c := c) hR i (R)
  rw [wsum_add, Nat.zero_add] at a
  have e : wsum (md f R c (i + 1)) 0 i = wsum f 0 i + sm f R c (i + 1 - R) := by
    by_cases h : R ≤ i + 1
    · rw [show i + 1 - R + R = i + 1 by omega] at b; exact b
    · have b := md_stay (f := f) (c := c) hR i (i + 1)
      rw [show i + 1 - R + (i + 1) = i + 1 by omega] at b; exact b
  rw [e] at a; omega
theorem sm_mono {f : Nat → Int} {R : Nat} {c c' : Int} (hR : 1 ≤ R) (hc : c' ≤ c) (s : Nat) : sm f R c' s ≤ sm f R c s := by
  induction s using Nat.strongRecOn with
  | _ s ih =>
    cases s with
    | zero => exact Int.le_refl _
    | succ i =>
      have h1 := ih i (by omega)
      have h2 := ih (i + 1 - R) (by omega)
      by_cases z : c' - wsum (md f R c' i) i R ≤ 0
      · have e : sm f R c' (i + 1) = sm f R c' i := by show sm f R c' i + max 0 (c' - wsum (md f R c' i) i R) = _; omega
        have : sm f R c i ≤ sm f R c (i + 1) := by rw [sm]; omega
        omega
      · have a := sm_split (f := f) (c := c') hR i
        have b := sm_split (f := f) (c := c) hR i
        have w1 := md_win (f := f) (c := c) hR (i + 1) i (by omega)
        have w2 : wsum (md f R c' (i + 1)) i R = c' := by rw [wsum_md hR, if_pos (by omega)]; omega
        omega
theorem sm_zero {f : Nat → Int} {R N : Nat} {c : Int} (hR : 1 ≤ R) : (∀ i, i < N → c ≤ wsum f i R) → sm f R c N = 0 := by
  intro h
  have key : ∀ s, s ≤ N → (∀ q, md f R c s q = f q) ∧ sm f R c s = 0 := by
    intro s
    induction s with
    | zero => intro _; exact ⟨fun q => rfl, rfl⟩
    | succ s ih =>
      intro hs
      obtain ⟨a, b⟩ := ih (by omega)
      have e : wsum (md f R c s) s R = wsum f s R := wsum_congr R (fun j _ _ => a j)
      have g := h s (by omega)
      refine ⟨fun q => ?_, by rw [sm, e, b]; omega⟩
      unfold md; rw [e]
      split
      · omega
      · exact a q
  exact (key N (Nat.le_refl _)).2
theorem wsum_le {f g : Nat → Int} {i : Nat} (m : Nat) (h : ∀ j, i ≤ j → j < i + m → f j ≤ g j) : wsum f i m ≤ wsum g i m := by
  induction m with
  | zero => exact Int.le_refl _
  | succ m ih => have a := ih (fun j a b => h j a (by omega)); have b := h (i + m) (by omega) (by omega); unfold wsum; omega
theorem sm_low {f : Nat → Int} {R N i : Nat} {c : Int} (hR : 1 ≤ R) (hi : i < N) : c - wsum f i R ≤ sm f R c N := by
  have a := md_total (f := f) (c := c) hR N (N + R - 1) (by omega)
  have w := md_win (f := f) (c := c) hR N i hi
  obtain ⟨t, ht⟩ : ∃ t, N + R - 1 = i + (R + t) := ⟨N - 1 - i, by omega⟩
  rw [ht, wsum_add, wsum_add, wsum_add, wsum_add] at a
  simp only [Nat.zero_add] at a
  have l1 := wsum_le (f := f) (g := md f R c N) (i := 0) i (fun j _ _ => md_ge N j)
  have l2 := wsum_le (f := f) (g := md f R c N) (i := i + R) t (fun j _ _ => md_ge N j)
  omega
/-- A list that holds the values of a function. -/
def rep (X : List Int) (g : Nat → Int) (n : Nat) : Prop := X.length = n ∧ ∀ q, q < n → rd X (q : Int) = g q
theorem rep_set {X : List Int} {g : Nat → Int} {n p : Nat} (h : rep X g n) (hp : p < n) (v : Int) : rep (X.set p v) (fun q => if q = p then v else g q) n := by
  refine ⟨by rw [List.length_set]; exact h.1, fun q hq => ?_⟩
  show rd _ _ = if q = p then v else g q
  by_cases e : q = p
  · subst e; rw [rd_set_eq _ _ _ (by rw [h.1]; exact hq), if_pos rfl]
  · rw [rd_set_ne _ _ _ _ e, if_neg e]; exact h.2 q hq
theorem rep_uniq {X Y : List Int} {g : Nat → Int} {n : Nat} (h : rep X g n) (h2 : rep Y g n) : X = Y := by
  apply List.ext_getElem (by rw [h.1, h2.1])
  intro i a b
  rw [← rd_get a, ← rd_get b, h.2 i (by rw [← h.1]; exact a), h2.2 i (by rw [← h.1]; exact a)]
theorem rep_wsum {X : List Int} {g : Nat → Int} {n i m : Nat} (h : rep X g n) (hm : i + m ≤ n) : wsum (nf X) i m = wsum g i m := wsum_congr m (fun j _ h2 => h.2 j (by omega))
theorem nat_mul_bd {x : Int} {j : Nat} (hx : 0 ≤ x) (h : x ≤ 2000) (hj : j ≤ 21) : x * (j : Int) ≤ 42000 := by
  have := Int.mul_le_mul h (show (j : Int) ≤ 21 by omega) (by omega) (by omega); omega
theorem lm_l1 {X : List Int} {i R : Nat} {c s : Int} (hX : ents X 2000) (h : i + R ≤ X.length) (hl : X.length ≤ 20) (hc : 0 ≤ c ∧ c ≤ 1000) (hs : 0 ≤ s ∧ s ≤ 100000) (hR : 1 ≤ R) (d : Nat) : ∀ (k j : Nat), j + d = R →
    impl_lateMend.l1 (k + d + 1) R c X s i (c - wsum (nf X) i j) ((X.take (i + R)).drop i) (((X.take (i + R)).drop i).length : Int) j =
      if c - wsum (nf X) i R > 0 then impl_lateMend.l0 k R c (X.set (i + R - 1) (rd X ((i + R - 1 : Nat) : Int) + (c - wsum (nf X) i R))) (s + (c - wsum (nf X) i R)) ((i + 1 : Nat) : Int) else impl_lateMend.l0 k R c X s ((i + 1 : Nat) : Int) := by
  induction d with
  | zero =>
    intro k j hj
    have e : j = R := by omega
    subst e
    have b := wsum_bd (f := nf X) (i := i) (M := 2000) j (fun j' h1 h2 => hX j' (by omega))
    have m1 := nat_mul_bd (x := 2000) (j := j) (by omega) (by omega) (by omega)
    have hp := hX (i + j - 1) (by omega)
    rw [show k + 0 + 1 = k + 1 from rfl, impl_lateMend.l1, cut_length h, if_neg (by omega)]
    have e1 : wrap64 (wrap64 ((i : Int) + (j : Int)) - 1) = ((i + j - 1 : Nat) : Int) := by rw [w64 (x := (i : Int) + (j : Int)) (by omega), w64 (by omega)]; omega
    have e2 : wrap64 ((i : Int) + 1) = ((i + 1 : Nat) : Int) := by rw [w64 (by omega)]; omega
    rw [e1, e2]
    by_cases g : c - wsum (nf X) i j > 0
    · rw [if_pos g, if_pos g, if_pos (by omega), if_pos (by omega), w64 (by omega), w64 (by omega), Int.toNat_natCast]
    · rw [if_neg g, if_neg g]
  | succ d ih =>
    intro k j hj
    have b : 0 ≤ wsum (nf X) i j + rd X ((i + j : Nat) : Int) ∧ wsum (nf X) i j + rd X ((i + j : Nat) : Int) ≤ 2000 * ((j + 1 : Nat) : Int) := wsum_bd (f := nf X) (i := i) (M := 2000) (j + 1) (fun j' h1 h2 => hX j' (by omega))
    have m1 := nat_mul_bd (x := 2000) (j := j + 1) (by omega) (by omega) (by omega)
    have e3 : c - wsum (nf X) i j - rd X ((i + j : Nat) : Int) = c - wsum (nf X) i (j + 1) := by rw [wsum]; unfold nf; omega
    rw [show k + (d + 1) + 1 = (k + d + 1) + 1 from by omega, impl_lateMend.l1]
    rw [if_pos (by rw [cut_length h]; omega), if_pos (by omega), if_pos (by rw [cut_length h]; omega), cut_rd h (by omega), w64 (by omega), w64 (by omega), e3]
    exact ih k (j + 1) (by omega)
theorem md_rep {f : Nat → Int} {R n i : Nat} {c : Int} {X : List Int} (hR : 1 ≤ R) (hi : i + R ≤ n) (h : rep X (md f R c i) n) : rep (if c - wsum (nf X) i R > 0 then X.set (i + R - 1) (rd X ((i + R - 1 : Nat) : Int) + (c - wsum (nf X) i R)) else X) (md f R c (i + 1)) n ∧ sm f R c (i + 1) = (if c - wsum (nf X) i R > 0 then sm f R c i + (c - wsum (nf X) i R) else sm f R c i) := by
  have e := rep_wsum h hi
  have ep := h.2 (i + R - 1) (by omega)
  rw [md_new i (i + R - 1) (by omega)] at ep
  rw [e, ep]
  by_cases g : c - wsum (md f R c i) i R > 0
  · rw [if_pos g, if_pos g]
    refine ⟨?_, by rw [sm]; omega⟩
    have := rep_set h (show i + R - 1 < n by omega) (f (i + R - 1) + (c - wsum (md f R c i) i R))
    rw [md_succ hR, show max 0 (c - wsum (md f R c i) i R) = c - wsum (md f R c i) i R by omega]
    exact this
  · rw [if_neg g, if_neg g]
    refine ⟨⟨h.1, fun q hq => ?_⟩, by rw [sm]; omega⟩
    rw [h.2 q hq, md_succ hR]
    dsimp only
    by_cases z : q = i + R - 1
    · subst z; rw [if_pos rfl, md_new i _ (by omega)]; omega
    · rw [if_neg z]
theorem rep_ents {f : Nat → Int} {R n i : Nat} {c : Int} {X : List Int} (hf : ∀ q, q < n → 0 ≤ f q ∧ f q ≤ 100) (hc : 0 ≤ c ∧ c ≤ 1000) (hi : i + R ≤ n + 1) (h : rep X (md f R c i) n) : ents X 2000 := by
  intro j hj
  have := md_bd hf hc.1 i j hi (by rw [← h.1]; exact hj)
  rw [h.2 j (by rw [← h.1]; exact hj)]; omega
theorem lm_l0 {f : Nat → Int} {R n : Nat} {c : Int} (hf : ∀ q, q < n → 0 ≤ f q ∧ f q ≤ 100) (hc : 0 ≤ c ∧ c ≤ 1000) (hR : 1 ≤ R) (hn : R ≤ n) (hl : n ≤ 20) (d : Nat) : ∀ (k i : Nat) (X : List Int), i + d = n + 1 - R → rep X (md f R c i) n →
    ∃ Y, impl_lateMend.l0 (k + d * (R + 2) + 1) R c X (sm f R c i) i = some (Y, sm f R c (n + 1 - R)) ∧ rep Y (md f R c (n + 1 - R)) n := by
  induction d with
  | zero =>
    intro k i X hd hX
    have hx := hX.1
    have e : i = n + 1 - R := by omega
    subst e
    exact ⟨X, by rw [impl_lateMend.l0, w64 (by omega), if_neg (by omega)], hX⟩
  | succ d ih =>
    intro k i X hd hX
    have hx := hX.1
    have he := rep_ents hf hc (by omega) hX
    have hb := sm_bd hf hc.1 (R := R) i (by omega)
    have hb2 := Int.mul_le_mul hc.2 (show (i : Int) ≤ 21 by omega) (by omega) (by omega)
    have hn0 := sm_nn (f := f) (R := R) (c := c) i
    have e : k + (d + 1) * (R + 2) + 1 = ((k + d * (R + 2) + 1) + R + 1) + 1 := by rw [Nat.succ_mul]; omega
    obtain ⟨r1, r2⟩ := md_rep hR (by omega) hX
    rw [e, impl_lateMend.l0, w64 (by omega), if_pos (by omega), if_pos (by omega), if_pos (by omega)]
    rw [show ((i : Int) + (R : Int)).toNat = i + R from by omega, Int.toNat_natCast, Option.bind_some]
    have l1 := lm_l1 (s := sm f R c i) he (by omega : i + R ≤ X.length) (by omega) hc (by omega) hR R (k + d * (R + 2) + 1) 0 (by omega)
    rw [show ((0 : Nat) : Int) = 0 from rfl, show wsum (nf X) i 0 = 0 from rfl, Int.sub_zero] at l1
    rw [l1]
    by_cases g : c - wsum (nf X) i R > 0
    · rw [if_pos g] at r1 r2 ⊢
      rw [← r2]; exact ih k (i + 1) _ (by omega) r1
    · rw [if_neg g] at r1 r2 ⊢
      rw [← r2]; exact ih k (i + 1) _ (by omega) r1
theorem wm_l1 {X : List Int} {i R : Nat} {c : Int} (hX : ents X 2000) (h : i + R ≤ X.length) (hl : X.length ≤ 20) (hc : 0 ≤ c ∧ c ≤ 1000) (hR : 1 ≤ R) (d : Nat) : ∀ (k j : Nat), j + d = R →
    spec_weMend.l1 (k + d + 1) R c X ((i + R : Nat) : Int) (wsum (nf X) i j) ((X.take (i + R)).drop i) (((X.take (i + R)).drop i).length : Int) j =
      spec_weMend.l0 k R c (if c - wsum (nf X) i R > 0 then X.set (i + R - 1) (rd X ((i + R - 1 : Nat) : Int) + (c - wsum (nf X) i R)) else X) ((i + R + 1 : Nat) : Int) := by
  induction d with
  | zero =>
    intro k j hj
    have e : j = R := by omega
    subst e
    have b := wsum_bd (f := nf X) (i := i) (M := 2000) j (fun j' h1 h2 => hX j' (by omega))
    have m1 := nat_mul_bd (x := 2000) (j := j) (by omega) (by omega) (by omega)
    have hp := hX (i + j - 1) (by omega)
    rw [show k + 0 + 1 = k + 1 from rfl, spec_weMend.l1, cut_length h, if_neg (by omega)]
    have e1 : wrap64 (((i + j : Nat) : Int) - 1) = ((i + j - 1 : Nat) : Int) := by rw [w64 (by omega)]; omega
    have e2 : wrap64 (((i + j : Nat) : Int) + 1) = ((i + j + 1 : Nat) : Int) := by rw [w64 (by omega)]; omega
    rw [e1, e2, if_pos (by omega), if_pos (by omega), w64 (x := c - wsum (nf X) i j) (by omega)]
    unfold spec_l1Most.f
    by_cases g : c - wsum (nf X) i j > 0
    · rw [if_pos g, if_neg (by omega), Option.bind_some, w64 (by omega), Int.toNat_natCast]
    · rw [if_neg g]
      by_cases g2 : (0 : Int) > c - wsum (nf X) i j
      · rw [if_pos g2, Option.bind_some, Int.add_zero, w64 (by omega), Int.toNat_natCast]
        congr 1
        apply List.ext_getElem (by simp)
        intro q a b2
        rw [← rd_get a, ← rd_get b2]
        by_cases z : q = i + j - 1
        · subst z; rw [rd_set_eq _ _ _ b2]
        · rw [rd_set_ne _ _ _ _ z]
      · rw [if_neg g2, Option.bind_some, show c - wsum (nf X) i j = 0 by omega, Int.add_zero, w64 (by omega), Int.toNat_natCast]
        congr 1
        apply List.ext_getElem (by simp)
        intro q a b2
        rw [← rd_get a, ← rd_get b2]
        by_cases z : q = i + j - 1
        · subst z; rw [rd_set_eq _ _ _ b2]
        · rw [rd_set_ne _ _ _ _ z]
  | succ d ih =>
    intro k j hj
    have b : 0 ≤ wsum (nf X) i j + rd X ((i + j : Nat) : Int) ∧ wsum (nf X) i j + rd X ((i + j : Nat) : Int) ≤ 2000 * ((j + 1 : Nat) : Int) := wsum_bd (f := nf X) (i := i) (M := 2000) (j + 1) (fun j' h1 h2 => hX j' (by omega))
    have m1 := nat_mul_bd (x := 2000) (j := j + 1) (by omega) (by omega) (by omega)
    rw [show k + (d + 1) + 1 = (k + d + 1) + 1 from by omega, spec_weMend.l1]
    rw [if_pos (by rw [cut_length h]; omega), if_pos (by omega), if_pos (by rw [cut_length h]; omega), cut_rd h (by omega), w64 (by omega), w64 (by omega)]
    exact ih k (j + 1) (by omega)
theorem wm_l0 {f : Nat → Int} {R n : Nat} {c : Int} (hf : ∀ q, q < n → 0 ≤ f q ∧ f q ≤ 100) (hc : 0 ≤ c ∧ c ≤ 1000) (hR : 1 ≤ R) (hn : R ≤ n) (hl : n ≤ 20) (d : Nat) : ∀ (k i : Nat) (X : List Int), i + d = n + 1 - R → rep X (md f R c i) n →
    ∃ Y, spec_weMend.l0 (k + d * (R + 2) + 1) R c X ((i + R : Nat) : Int) = some Y ∧ rep Y (md f R c (n + 1 - R)) n := by
  induction d with
  | zero =>
    intro k i X hd hX
    have hx := hX.1
    have e : i = n + 1 - R := by omega
    subst e
    exact ⟨X, by rw [spec_weMend.l0, if_neg (by omega)], hX⟩
  | succ d ih =>
    intro k i X hd hX
    have hx := hX.1
    have he := rep_ents hf hc (by omega) hX
    have e : k + (d + 1) * (R + 2) + 1 = ((k + d * (R + 2) + 1) + R + 1) + 1 := by rw [Nat.succ_mul]; omega
    obtain ⟨r1, r2⟩ := md_rep hR (by omega) hX
    rw [e, spec_weMend.l0, if_pos (by omega), show wrap64 (((i + R : Nat) : Int) - (R : Int)) = (i : Int) from by rw [w64 (by omega)]; omega, if_pos (by omega), if_pos (by omega)]
    rw [Int.toNat_natCast, Int.toNat_natCast, Option.bind_some]
    have l1 := wm_l1 he (by omega : i + R ≤ X.length) (by omega) hc hR R (k + d * (R + 2) + 1) 0 (by omega)
    rw [show ((0 : Nat) : Int) = 0 from rfl, show wsum (nf X) i 0 = 0 from rfl] at l1
    rw [l1, show i + R + 1 = (i + 1) + R by omega]
    exact ih k (i + 1) _ (by omega) r1

end Go.Proofs.Ytalnjklklpnnhaa.Pure
