/- The first climb, the fewest steps and the number of climbs, in the program and in the reference (StepsMended). No condition but the bounds of bears. -/
import Derived.Test.YtalnjklklpnnhaaSmpg
namespace Go.Proofs.Ytalnjklklpnnhaa.Pure
open Go.RowKit Go.Proofs.Ytalnjklklpnnhaa.PFnStepsMended Go.Proofs.YtalnjklklpnnhaaW.PrintWords Go.Proofs.YtalnjklklpnnhaaW.PrintLast Go.Proofs.YtalnjklklpnnhaaW.PrintMore
set_option linter.unusedVariables false
set_option linter.unusedSimpArgs false

theorem S_pos {B : List Int} {R : Nat} {C : Nat → Int} (hC : isC B R C) (hl : B.length ≤ 20) {k : Nat} (hk : k ≤ B.length) : 0 < sC C R B.length k ↔ ∃ t, k < t ∧ t ≤ k + R ∧ t ≤ B.length + 1 ∧ 0 < C t := by
  unfold sC
  rw [wsum_pos (min R (B.length + 1 - k)) (fun j a b => (C_nn hC hl j (by omega)).1)]
  constructor
  · rintro ⟨j, a, b, c⟩; exact ⟨j, by omega, by omega, by omega, c⟩
  · rintro ⟨j, a, b, c, d⟩; exact ⟨j, by omega, by omega, d⟩
theorem C_S {B : List Int} {R : Nat} {C : Nat → Int} (hC : isC B R C) {k : Nat} (hk : k ≤ B.length) (h : 0 < C k) : 0 < sC C R B.length k ∧ opn B k := by
  have e := hC.2 k hk
  by_cases o : opn B k
  · rw [if_pos o] at e; exact ⟨e ▸ h, o⟩
  · rw [if_neg o] at e; omega
theorem S_C {B : List Int} {R : Nat} {C : Nat → Int} (hC : isC B R C) {k : Nat} (hk : k ≤ B.length) (h : 0 < sC C R B.length k) (o : opn B k) : 0 < C k := by
  have e := hC.2 k hk
  rw [if_pos o] at e; omega
theorem S_mono {B : List Int} {R : Nat} {C : Nat → Int} (hC : isC B R C) (hl : B.length ≤ 20) (d : Nat) : ∀ s t, s + d = t → t ≤ B.length → 0 < sC C R B.length s → 0 < sC C R B.length t := by
  induction d using Nat.strongRecOn with
  | _ d ih =>
    intro s t h1 h2 h3
    by_cases e : s = t
    · subst e; exact h3
    obtain ⟨s', a, b, c, p⟩ := (S_pos hC hl (by omega)).1 h3
    by_cases g : s' ≤ t
    · exact ih (t - s') (by omega) s' t (by omega) h2 (C_S hC (by omega) p).1
    · exact (S_pos hC hl h2).2 ⟨s', by omega, by omega, c, p⟩
def Cl (B : List Int) (R : Nat) (C : Nat → Int) : Nat → List Int → Prop
  | k, [] => B.length + 1 ≤ k + R
  | k, x :: l => ∃ t : Nat, x = (t : Int) ∧ k < t ∧ t ≤ k + R ∧ t ≤ B.length ∧ 0 < nf B (t - 1) ∧ 0 < C t ∧ Cl B R C t l
theorem find_ex {B : List Int} {R : Nat} {C : Nat → Int} (hC : isC B R C) (hl : B.length ≤ 20) (hB : ents B 100) {cs fs Y : List Int} (hS : Sw B R C 0 cs fs) (hY : wws B R C 0 Y) {t : Nat} (ht : t ≤ B.length) (hp : 0 < C t) (d : Nat) : ∀ j, j + d = t → 1 ≤ j →
    ∃ x : Nat, j ≤ x ∧ x ≤ t ∧ 0 < C x ∧ (∀ (k : Nat) (acc : List Int), acc.length ≤ 1000 → impl_FirstWearClimb.l1 (k + (x - j) + 1) R cs acc j ((B.length + 1 : Nat) : Int) = impl_FirstWearClimb.l0 k R cs (acc ++ [(x : Int)]) x ((B.length + 1 : Nat) : Int)) ∧
      ∀ (k : Nat) (acc : List Int), acc.length ≤ 1000 → spec_FirstWearClimb.l1 (k + (x - j) + 1) B R Y acc j = spec_FirstWearClimb.l0 k B R Y (acc ++ [(x : Int)]) x := by
  have here : ∀ j : Nat, j ≤ B.length → 1 ≤ j → 0 < C j → (∀ (k : Nat) (acc : List Int), acc.length ≤ 1000 → impl_FirstWearClimb.l1 (k + (j - j) + 1) R cs acc j ((B.length + 1 : Nat) : Int) = impl_FirstWearClimb.l0 k R cs (acc ++ [(j : Int)]) j ((B.length + 1 : Nat) : Int)) ∧
      ∀ (k : Nat) (acc : List Int), acc.length ≤ 1000 → spec_FirstWearClimb.l1 (k + (j - j) + 1) B R Y acc j = spec_FirstWearClimb.l0 k B R Y (acc ++ [(j : Int)]) j := by
    intro j hj h1 hp
    have o := (C_S hC hj hp).2.resolve_left (by omega)
    refine ⟨fun k acc ha => ?_, fun k acc ha => ?_⟩
    · have hc := (hS.2.1 j (Nat.zero_le _) (by omega)).1
      rw [Nat.sub_self, Nat.add_zero, impl_FirstWearClimb.l1, if_pos (Int.natCast_nonneg _), if_pos (by rw [hS.1.1]; omega), hc, if_neg (by omega), if_pos (by omega)]
    · have hy := (C_of hC hY.2.1 (Nat.zero_le j) h1 hj).1 o
      unfold nf at o
      have e1 : wrap64 ((j : Int) - 1) = ((j - 1 : Nat) : Int) := by rw [w64 (by omega)]; omega
      rw [Nat.sub_self, Nat.add_zero, spec_FirstWearClimb.l1, e1, if_pos (Int.natCast_nonneg _), if_pos (by omega), if_neg (by omega), if_pos (Int.natCast_nonneg _), if_pos (by rw [hY.1]; omega), hy, if_neg (by omega), if_pos (by omega)]
  induction d with
  | zero =>
    intro j hj h1
    have e : j = t := hj
    subst e
    obtain ⟨p, q⟩ := here j ht h1 hp
    exact ⟨j, Nat.le_refl _, Nat.le_refl _, hp, p, q⟩
  | succ d ih =>
    intro j hj h1
    have hc := (hS.2.1 j (Nat.zero_le _) (by omega)).1
    by_cases z : C j = 0
    · obtain ⟨x, a, b, c, p, q⟩ := ih (j + 1) (by omega) (by omega)
      have e2 : wrap64 ((j : Int) + 1) = ((j + 1 : Nat) : Int) := by rw [w64 (by omega)]; rfl
      refine ⟨x, by omega, b, c, fun k acc ha => ?_, fun k acc ha => ?_⟩
      · rw [show k + (x - j) + 1 = (k + (x - (j + 1)) + 1) + 1 by omega, impl_FirstWearClimb.l1, if_pos (Int.natCast_nonneg _), if_pos (by rw [hS.1.1]; omega), hc, if_pos z, e2]
        exact p k acc ha
      · have e1 : wrap64 ((j : Int) - 1) = ((j - 1 : Nat) : Int) := by rw [w64 (by omega)]; omega
        rw [show k + (x - j) + 1 = (k + (x - (j + 1)) + 1) + 1 by omega, spec_FirstWearClimb.l1, e1, if_pos (Int.natCast_nonneg _), if_pos (by omega)]
        by_cases g : rd B ((j - 1 : Nat) : Int) = 0
        · rw [if_pos g, e2]; exact q k acc ha
        · rw [if_neg g, if_pos (Int.natCast_nonneg _), if_pos (by rw [hY.1]; omega)]
          have hb := (hB (j - 1) (by omega)).1
          have hy := (C_of hC hY.2.1 (Nat.zero_le j) h1 (show j ≤ B.length by omega)).1 (by unfold nf; omega)
          rw [hy, if_pos z, e2]; exact q k acc ha
    · have p0 : 0 < C j := by have := (C_nn hC hl j (by omega)).1; omega
      obtain ⟨p, q⟩ := here j (by omega) h1 p0
      exact ⟨j, Nat.le_refl _, by omega, p0, p, q⟩
theorem first_ex {B : List Int} {R : Nat} {C : Nat → Int} (hC : isC B R C) (hl : B.length ≤ 20) (hB : ents B 100) {cs fs Y : List Int} (hS : Sw B R C 0 cs fs) (hY : wws B R C 0 Y) (hR : R ≤ 20) (d : Nat) : ∀ at_, B.length = at_ + d → 0 < C at_ →
    ∃ r, Cl B R C at_ r ∧ r.length ≤ d ∧ (∀ (k : Nat) (acc : List Int), 50 * (d + 1) < k → acc.length + d ≤ 900 → impl_FirstWearClimb.l0 k R cs acc at_ ((B.length + 1 : Nat) : Int) = some (acc ++ r, true)) ∧ ∀ (k : Nat) (acc : List Int), 50 * (d + 1) < k → acc.length + d ≤ 900 → spec_FirstWearClimb.l0 k B R Y acc at_ = some (acc ++ r, true) := by
  induction d using Nat.strongRecOn with
  | _ d ih =>
    intro at_ ha hp
    have e1 : wrap64 (((B.length + 1 : Nat) : Int) - (at_ : Int)) = ((B.length + 1 : Nat) : Int) - (at_ : Int) := w64 (by omega)
    have e2 : wrap64 ((B.length : Int) + 1) = ((B.length + 1 : Nat) : Int) := by rw [w64 (by omega)]; rfl
    have e3 : wrap64 ((at_ : Int) + 1) = ((at_ + 1 : Nat) : Int) := by rw [w64 (by omega)]; rfl
    by_cases g : B.length + 1 ≤ at_ + R
    · have g' : ¬ ((B.length + 1 : Nat) : Int) - (at_ : Int) > (R : Int) := by omega
      refine ⟨[], g, Nat.zero_le _, fun k acc hk h => ?_, fun k acc hk h => ?_⟩
      · obtain ⟨k, rfl⟩ : ∃ m, k = m + 1 := ⟨k - 1, by omega⟩
        rw [impl_FirstWearClimb.l0, e1, if_neg g', List.append_nil]
      · obtain ⟨k, rfl⟩ : ∃ m, k = m + 1 := ⟨k - 1, by omega⟩
        rw [spec_FirstWearClimb.l0, e2, e1, if_neg g', List.append_nil]
    · have g' : ((B.length + 1 : Nat) : Int) - (at_ : Int) > (R : Int) := by omega
      obtain ⟨t, a, b, c, p⟩ := (S_pos hC hl (by omega)).1 (C_S hC (by omega) hp).1
      obtain ⟨x, x1, x2, x3, q1, q2⟩ := find_ex hC hl hB hS hY (by omega : t ≤ B.length) p (t - (at_ + 1)) (at_ + 1) (by omega) (by omega)
      obtain ⟨r, r1, r2, r3, r4⟩ := ih (B.length - x) (by omega) x (by omega) x3
      have o := (C_S hC (by omega) x3).2.resolve_left (by omega)
      refine ⟨(x : Int) :: r, ⟨x, rfl, by omega, by omega, by omega, o, x3, r1⟩, by simp; omega, fun k acc hk h => ?_, fun k acc hk h => ?_⟩
      · obtain ⟨k, rfl⟩ : ∃ m, k = m + (x - (at_ + 1)) + 1 + 1 := ⟨k - (x - (at_ + 1)) - 2, by omega⟩
        rw [impl_FirstWearClimb.l0, e1, if_pos g', e3, q1 k acc (by omega), r3 k _ (by omega) (by simp; omega)]
        simp
      · obtain ⟨k, rfl⟩ : ∃ m, k = m + (x - (at_ + 1)) + 1 + 1 := ⟨k - (x - (at_ + 1)) - 2, by omega⟩
        rw [spec_FirstWearClimb.l0, e2, e1, if_pos g', e3, q2 k acc (by omega), r4 k _ (by omega) (by simp; omega)]
        simp
theorem climb_l0 {B : List Int} {R : Nat} {C : Nat → Int} (hl : B.length ≤ 20) (hR : R ≤ 20) {l : List Int} (hn : l.length ≤ 1000) (d : Nat) : ∀ (k j at_ : Nat), j + d = l.length → d < k → at_ ≤ B.length → Cl B R C at_ (l.drop j) →
    impl_isWearClimb.l0 k B R at_ ((B.length + 1 : Nat) : Int) l l.length j = some true := by
  induction d with
  | zero =>
    intro k j at_ hd hk ha hc
    obtain ⟨k, rfl⟩ : ∃ m, k = m + 1 := ⟨k - 1, by omega⟩
    rw [List.drop_eq_nil_of_le (by omega)] at hc
    unfold Cl at hc
    rw [impl_isWearClimb.l0, if_neg (by omega), w64 (by omega), decide_eq_true (by omega)]
  | succ d ih =>
    intro k j at_ hd hk ha hc
    obtain ⟨k, rfl⟩ : ∃ m, k = m + 1 := ⟨k - 1, by omega⟩
    have hj : j < l.length := by omega
    rw [List.drop_eq_getElem_cons hj] at hc
    obtain ⟨t, t1, t2, t3, t4, t5, t6, t7⟩ := hc
    unfold nf at t5
    have e1 : rd l (j : Int) = (t : Int) := by rw [rd_get hj, t1]
    have e2 : wrap64 ((t : Int) - 1) = ((t - 1 : Nat) : Int) := by rw [w64 (by omega)]; omega
    have e3 : wrap64 ((j : Int) + 1) = ((j + 1 : Nat) : Int) := by rw [w64 (by omega)]; rfl
    rw [impl_isWearClimb.l0, if_pos (by omega), if_pos (Int.natCast_nonneg _), if_pos (by omega), e1, within_eq, Option.bind_some, if_pos (by rw [decide_eq_true_eq, w64 (by omega), w64 (by omega)]; omega), w64 (x := (t : Int) - (at_ : Int)) (by omega), if_neg (by omega), e2, if_pos (Int.natCast_nonneg _), if_pos (by omega), if_neg (by omega), e3]
    exact ih k (j + 1) t (by omega) (by omega) t4 t7

end Go.Proofs.Ytalnjklklpnnhaa.Pure
