/- How many ways go on from each step, and with how few steps, in the program and in the reference (StepsMended). No condition but the bounds of bears. -/
import Derived.Test.YtalnjklklpnnhaaSmpe
namespace Go.Proofs.Ytalnjklklpnnhaa.Pure
open Go.RowKit Go.Proofs.Ytalnjklklpnnhaa.PFnStepsMended Go.Proofs.YtalnjklklpnnhaaW.PrintWords Go.Proofs.YtalnjklklpnnhaaW.PrintLast Go.Proofs.YtalnjklklpnnhaaW.PrintMore
set_option linter.unusedVariables false
set_option linter.unusedSimpArgs false

def sC (C : Nat → Int) (R n k : Nat) : Int := wsum C (k + 1) (min R (n + 1 - k))
def opn (B : List Int) (k : Nat) : Prop := k = 0 ∨ 0 < nf B (k - 1)
instance (B : List Int) (k : Nat) : Decidable (opn B k) := by unfold opn; infer_instance
def isC (B : List Int) (R : Nat) (C : Nat → Int) : Prop := C (B.length + 1) = 1 ∧ ∀ k, k ≤ B.length → C k = if opn B k then sC C R B.length k else 0
theorem isC_ex (B : List Int) (R : Nat) : ∃ C, isC B R C := by
  have key : ∀ d, d ≤ B.length + 1 → ∃ C : Nat → Int, C (B.length + 1) = 1 ∧ ∀ k, k ≤ B.length → B.length + 1 ≤ k + d → C k = if opn B k then sC C R B.length k else 0 := by
    intro d
    induction d with
    | zero => intro _; exact ⟨fun _ => 1, rfl, fun k a b => by omega⟩
    | succ d ih =>
      intro hd
      obtain ⟨C, h1, h2⟩ := ih (by omega)
      have same : ∀ k, B.length - d ≤ k → sC (fun t => if t = B.length - d then (if opn B (B.length - d) then sC C R B.length (B.length - d) else 0) else C t) R B.length k = sC C R B.length k := by
        intro k hk
        unfold sC
        exact wsum_congr _ (fun j a b => by rw [if_neg (by omega)])
      refine ⟨fun t => if t = B.length - d then (if opn B (B.length - d) then sC C R B.length (B.length - d) else 0) else C t, ?_, fun k a b => ?_⟩
      · show (if B.length + 1 = B.length - d then _ else _) = _
        rw [if_neg (by omega)]; exact h1
      · rw [same k (by omega)]
        show (if k = B.length - d then _ else _) = _
        by_cases e : k = B.length - d
        · subst e; rw [if_pos rfl]
        · rw [if_neg e]; exact h2 k a (by omega)
  obtain ⟨C, h1, h2⟩ := key (B.length + 1) (Nat.le_refl _)
  exact ⟨C, h1, fun k a => h2 k a (by omega)⟩
def p2 : Nat → Int
  | 0 => 1
  | d + 1 => 2 * p2 d
theorem p2_le : ∀ d : Fin 24, 1 ≤ p2 d ∧ p2 d ≤ 8388608 := by decide
theorem C_bd {B : List Int} {R : Nat} {C : Nat → Int} (hC : isC B R C) (hl : B.length ≤ 20) (d : Nat) : ∀ k, k + d = B.length + 1 → (0 ≤ C k ∧ C k ≤ p2 d) ∧ ∀ m, m ≤ B.length + 2 - k → 0 ≤ wsum C k m ∧ wsum C k m ≤ p2 (d + 1) - 1 := by
  induction d with
  | zero =>
    intro k hk
    have e : k = B.length + 1 := by omega
    subst e
    rw [hC.1]
    refine ⟨by simp [p2], fun m hm => ?_⟩
    cases m with
    | zero => simp [wsum, p2]
    | succ m =>
      have : m = 0 := by omega
      subst this
      simp [wsum, hC.1, p2]
  | succ d ih =>
    intro k hk
    obtain ⟨a, b⟩ := ih (k + 1) (by omega)
    have c := b (min R (B.length + 1 - k)) (by omega)
    have q := p2_le ⟨d + 1, by omega⟩
    have e : (0 ≤ C k ∧ C k ≤ p2 (d + 1) - 1) := by
      rw [hC.2 k (by omega)]; unfold sC; dsimp only at q; split <;> omega
    refine ⟨by omega, fun m hm => ?_⟩
    have f : p2 (d + 1 + 1) = 2 * p2 (d + 1) := rfl
    cases m with
    | zero => dsimp only at q; simp [wsum]; omega
    | succ m =>
      have g := b m (by omega)
      rw [wsum_shift, f]; omega
theorem C_nn {B : List Int} {R : Nat} {C : Nat → Int} (hC : isC B R C) (hl : B.length ≤ 20) (k : Nat) (hk : k ≤ B.length + 1) : 0 ≤ C k ∧ C k ≤ 8388608 := by
  have a := (C_bd hC hl (B.length + 1 - k) k (by omega)).1
  have b := p2_le ⟨B.length + 1 - k, by omega⟩
  dsimp only at b; omega
theorem C_sum {B : List Int} {R : Nat} {C : Nat → Int} (hC : isC B R C) (hl : B.length ≤ 20) (k m : Nat) (hk : k + m ≤ B.length + 2) : 0 ≤ wsum C k m ∧ wsum C k m ≤ 8388608 := by
  by_cases z : k ≤ B.length + 1
  · have a := (C_bd hC hl (B.length + 1 - k) k (by omega)).2 m (by omega)
    have b := p2_le ⟨B.length + 1 - k + 1, by omega⟩
    dsimp only at b; omega
  · rw [show m = 0 by omega]; simp [wsum]
/-! the reference's ways -/
def wws (B : List Int) (R : Nat) (C : Nat → Int) (k : Nat) (X : List Int) : Prop := X.length = B.length + 2 ∧ (∀ t, k ≤ t → t ≤ B.length + 1 → rd X (t : Int) = if t = B.length + 1 then 1 else sC C R B.length t) ∧ ∀ t, t < k → rd X (t : Int) = 0
theorem C_of {B : List Int} {R : Nat} {C : Nat → Int} (hC : isC B R C) {X : List Int} {k : Nat} (hX : ∀ t, k ≤ t → t ≤ B.length + 1 → rd X (t : Int) = if t = B.length + 1 then 1 else sC C R B.length t) {t : Nat} (h1 : k ≤ t) (h0 : 1 ≤ t) (h2 : t ≤ B.length) : (0 < nf B (t - 1) → rd X (t : Int) = C t) ∧ (¬ 0 < nf B (t - 1) → C t = 0) := by
  have a := hX t h1 (by omega)
  rw [if_neg (by omega)] at a
  have b := hC.2 t h2
  constructor
  · intro h; rw [if_pos (show opn B t from Or.inr h)] at b; rw [a, b]
  · intro h; rw [if_neg (show ¬ opn B t from fun z => z.elim (fun y => by omega) h)] at b; exact b
set_option maxHeartbeats 1000000 in
theorem ww_l1 {B : List Int} {R : Nat} {C : Nat → Int} (hC : isC B R C) (hR : R ≤ 20) (hl : B.length ≤ 20) {at_ : Nat} (ha : at_ ≤ B.length) (d : Nat) : ∀ (k m : Nat) (X : List Int), m + d = min R (B.length + 1 - at_) → X.length = B.length + 2 →
    (∀ t, at_ + 1 ≤ t → t ≤ B.length + 1 → rd X (t : Int) = if t = B.length + 1 then 1 else sC C R B.length t) → rd X (at_ : Int) = wsum C (at_ + 1) m → (∀ t, t < at_ → rd X (t : Int) = 0) →
    ∃ Y, spec_weWays.l1 (k + 2 * d + 2) B R X at_ ((at_ + 1 + m : Nat) : Int) = spec_weWays.l0 k B R Y ((at_ : Int) - 1) ∧ wws B R C at_ Y := by
  induction d with
  | zero =>
    intro k m X hm hx h1 h2 h3
    refine ⟨X, ?_, hx, fun t a b => ?_, h3⟩
    · rw [show k + 2 * 0 + 2 = (k + 1) + 1 from rfl, spec_weWays.l1, w64 (by omega), w64 (by omega)]
      by_cases c : ((at_ + 1 + m : Nat) : Int) ≤ (at_ : Int) + (R : Int)
      · rw [if_pos c, decide_eq_false (by omega), spec_weWays.j2, if_neg (by decide), w64 (by omega)]
      · rw [if_neg c, spec_weWays.j2, if_neg (by decide), w64 (by omega)]
    · by_cases z : t = at_
      · subst z; rw [h2, if_neg (by omega)]; unfold sC; congr 1
      · exact h1 t (by omega) b
  | succ d ih =>
    intro k m X hm hx h1 h2 h3
    have hb0 : at_ + 1 + m ≤ B.length + 1 ∧ m < R ∧ m + 1 + d = min R (B.length + 1 - at_) := by clear h1 h2 h3 ih; omega
    obtain ⟨hb1, hb2, hb3⟩ := hb0
    have e1 : wrap64 (((at_ + 1 + m : Nat) : Int) - 1) = ((at_ + m : Nat) : Int) := by rw [w64 (by omega)]; omega
    have e2 : wrap64 (((at_ + 1 + m : Nat) : Int) + 1) = ((at_ + 1 + (m + 1) : Nat) : Int) := by rw [w64 (by omega)]; omega
    have cs := C_sum hC hl (at_ + 1) (m + 1) (by clear h2; omega)
    have step : rd X (at_ : Int) + C (at_ + 1 + m) = wsum C (at_ + 1) (m + 1) := by rw [h2, wsum]
    obtain ⟨s1, hs1⟩ : ∃ s, wsum C (at_ + 1) (m + 1) = s := ⟨_, rfl⟩
    rw [hs1] at cs step
    have put : ∃ Y, spec_weWays.l1 (k + 2 * d + 2) B R (X.set at_ s1) at_ ((at_ + 1 + (m + 1) : Nat) : Int) = spec_weWays.l0 k B R Y ((at_ : Int) - 1) ∧ wws B R C at_ Y := by
      have g1 : (X.set at_ s1).length = B.length + 2 := by rw [List.length_set]; exact hx
      have g2 : ∀ t, at_ + 1 ≤ t → t ≤ B.length + 1 → rd (X.set at_ s1) (t : Int) = if t = B.length + 1 then 1 else sC C R B.length t := fun t a b => (rd_set_ne _ _ _ _ (Nat.ne_of_gt a)).trans (h1 t a b)
      have g3 : rd (X.set at_ s1) (at_ : Int) = wsum C (at_ + 1) (m + 1) := (rd_set_eq _ _ _ (by rw [hx]; exact Nat.lt_succ_of_le (Nat.le_succ_of_le ha))).trans hs1.symm
      have g4 : ∀ t, t < at_ → rd (X.set at_ s1) (t : Int) = 0 := fun t a => (rd_set_ne _ _ _ _ (Nat.ne_of_lt a)).trans (h3 t a)
      exact ih k (m + 1) (X.set at_ s1) hb3 g1 g2 g3 g4
    have cap : spec_l1Least.f s1 1000000000001 = some s1 := by unfold spec_l1Least.f; rw [if_pos (show s1 < 1000000000001 by omega)]
    have skp : rd X (at_ : Int) = wsum C (at_ + 1) (m + 1) → ∃ Y, spec_weWays.l1 (k + 2 * d + 2) B R X at_ ((at_ + 1 + (m + 1) : Nat) : Int) = spec_weWays.l0 k B R Y ((at_ : Int) - 1) ∧ wws B R C at_ Y := fun q => ih k (m + 1) X hb3 hx h1 q h3
    have h2' := Aside0.mk h2
    have hs' := Aside0.mk hs1
    clear h2 hs1 ih
    rw [show k + 2 * (d + 1) + 2 = (k + 2 * d + 2) + 1 + 1 from by omega, spec_weWays.l1, w64 (x := (at_ : Int) + (R : Int)) (by omega), w64 (x := (B.length : Int) + 1) (by omega), if_pos (by omega), decide_eq_true (by omega), spec_weWays.j2, if_pos rfl]
    by_cases c : ((at_ + 1 + m : Nat) : Int) > (B.length : Int)
    · have et : at_ + 1 + m = B.length + 1 := by omega
      have ev : rd X ((at_ + 1 + m : Nat) : Int) = C (at_ + 1 + m) := by rw [h1 _ (by omega) (by omega), if_pos et, et, hC.1]
      rw [if_pos c, if_pos (by omega), if_pos (by omega), if_pos (by omega), if_pos (by omega), ev, step, w64 (by omega), cap, Option.bind_some, Int.toNat_natCast, e2]
      exact put
    · have pc := C_of hC h1 (t := at_ + 1 + m) (by omega) (by omega) (by omega)
      rw [show at_ + 1 + m - 1 = at_ + m by omega] at pc
      rw [if_neg c, e1, if_pos (by omega), if_pos (by omega)]
      by_cases g : rd B ((at_ + m : Nat) : Int) > 0
      · rw [if_pos g, if_pos (by omega), if_pos (by omega), if_pos (by omega), if_pos (by omega), pc.1 g, step, w64 (by omega), cap, Option.bind_some, Int.toNat_natCast, e2]
        exact put
      · rw [if_neg g, e2]
        exact skp (by rw [hs'.out, ← step, pc.2 g, Int.add_zero])
theorem ww_l0 {B : List Int} {R : Nat} {C : Nat → Int} (hC : isC B R C) (hR : R ≤ 20) (hl : B.length ≤ 20) (m : Nat) : ∀ (k : Nat) (X : List Int), m ≤ B.length + 1 → wws B R C m X →
    ∃ Y, spec_weWays.l0 (k + m * 50 + 1) B R X ((m : Int) - 1) = some Y ∧ wws B R C 0 Y := by
  induction m with
  | zero =>
    intro k X hm hX
    exact ⟨X, by rw [spec_weWays.l0, if_neg (by omega)], hX⟩
  | succ m ih =>
    intro k X hm hX
    obtain ⟨a, b, c⟩ := hX
    rw [show k + (m + 1) * 50 + 1 = (k + m * 50 + 50) + 1 by omega, spec_weWays.l0, if_pos (by omega), show ((m + 1 : Nat) : Int) - 1 = (m : Int) by omega, w64 (by omega)]
    obtain ⟨Y, y1, y2⟩ := ww_l1 hC hR hl (at_ := m) (by omega) (min R (B.length + 1 - m)) (k + m * 50 + 50 - 2 * (min R (B.length + 1 - m)) - 2) 0 X (by omega) a (fun t h1 h2 => b t (by omega) h2) (by rw [c m (by omega)]; rfl) (fun t h => c t (by omega))
    rw [show k + m * 50 + 50 - 2 * min R (B.length + 1 - m) - 2 + 2 * min R (B.length + 1 - m) + 2 = k + m * 50 + 50 by omega] at y1
    rw [show (m : Int) + 1 = ((m + 1 + 0 : Nat) : Int) by omega, y1]
    rw [show k + m * 50 + 50 - 2 * min R (B.length + 1 - m) - 2 = (k + (47 - 2 * min R (B.length + 1 - m))) + m * 50 + 1 by omega]
    exact ih _ Y (by omega) y2
theorem ww_ex {k : Nat} (hk : 1200 < k) {B : List Int} {R : Nat} {C : Nat → Int} (hC : isC B R C) (hR : R ≤ 20) (hl : B.length ≤ 20) : ∃ Y, spec_weWays.f k B R = some Y ∧ wws B R C 0 Y := by
  have e1 : wrap64 ((B.length : Int) + 2) = ((B.length + 2 : Nat) : Int) := by rw [w64 (by omega)]; omega
  have e2 : wrap64 ((B.length : Int) + 1) = ((B.length + 1 : Nat) : Int) := by rw [w64 (by omega)]; omega
  unfold spec_weWays.f
  rw [e1, e2, if_pos (by omega), if_pos (by omega), Int.toNat_natCast, Option.bind_some, if_pos (by omega), if_pos (by rw [List.length_replicate]; omega), Int.toNat_natCast]
  obtain ⟨Y, y1, y2⟩ := ww_l0 hC hR hl (B.length + 1) (k - (B.length + 1) * 50 - 1) ((List.replicate (B.length + 2) (0 : Int)).set (B.length + 1) 1) (Nat.le_refl _) ⟨by simp, fun t a b => by
    rw [show t = B.length + 1 by omega, rd_set_eq _ _ _ (by simp), if_pos rfl], fun t a => by rw [rd_set_ne _ _ _ _ (by omega), rd_rep]⟩
  rw [show k - (B.length + 1) * 50 - 1 + (B.length + 1) * 50 + 1 = k by omega] at y1
  rw [show ((B.length + 1 : Nat) : Int) - 1 = (B.length : Int) by omega] at y1
  exact ⟨Y, y1, y2⟩

end Go.Proofs.Ytalnjklklpnnhaa.Pure
