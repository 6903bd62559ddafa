/- The fewest steps; what the walk asks of bears and a reach is true (StepsMended). No condition but that the bears are few. -/
import Derived.Test.YtalnjklklpnnhaaSmph
namespace Go.Proofs.Ytalnjklklpnnhaa.Pure
open Go.RowKit Go.Proofs.Ytalnjklklpnnhaa.PFnStepsMended Go.Proofs.YtalnjklklpnnhaaW.PrintWords Go.Proofs.YtalnjklklpnnhaaW.PrintLast Go.Proofs.YtalnjklklpnnhaaW.PrintMore
set_option linter.unusedVariables false
set_option linter.unusedSimpArgs false

theorem F_one {B : List Int} {R : Nat} {C : Nat → Int} {g : Nat → Int} (hg : ∀ t, t ≤ B.length + 1 → good C R B.length g t) {k : Nat} (hk : k ≤ B.length) (h : 0 < C k) : Att C R B.length g k (g k) := (hg k (by omega)).2.2 h hk
theorem F_mono {B : List Int} {R : Nat} {C : Nat → Int} {g : Nat → Int} (hg : ∀ t, t ≤ B.length + 1 → good C R B.length g t) (d : Nat) : ∀ s y, s + d = B.length → s ≤ y → y ≤ B.length → 0 < C s → 0 < C y → g y ≤ g s := by
  induction d using Nat.strongRecOn with
  | _ d ih =>
    intro s y hd h1 h2 p1 p2
    by_cases e : s = y
    · subst e; exact Int.le_refl _
    obtain ⟨a1, a2, ⟨t, b1, b2, b3, b4, b5⟩, a4⟩ := F_one hg (by omega : s ≤ B.length) p1
    obtain ⟨c1, c2, _, c4⟩ := F_one hg h2 p2
    by_cases z : t ≤ y
    · have := ih (B.length - t) (by omega) t y (by omega) z h2 b4 p2
      unfold val at b5; rw [if_neg (by omega)] at b5; omega
    · rw [b5]; exact c4 t (by omega) (by omega) b3 b4
theorem F_climb {B : List Int} {R : Nat} {C : Nat → Int} (hC : isC B R C) {g : Nat → Int} (hg : ∀ t, t ≤ B.length + 1 → good C R B.length g t) : ∀ (l : List Int) (k : Nat), k ≤ B.length → 0 < C k → Cl B R C k l → g k ≤ l.length
  | [], k, hk, h, c => by
    have a := (F_one hg hk h).2.2.2 (B.length + 1) (by omega) c (Nat.le_refl _) (by rw [hC.1]; decide)
    unfold val at a; rw [if_pos rfl] at a; simpa using a
  | x :: l, k, hk, h, c => by
    obtain ⟨t, t1, t2, t3, t4, t5, t6, t7⟩ := c
    have a := (F_one hg hk h).2.2.2 t t2 t3 (by omega) t6
    have b := F_climb hC hg l t t4 t6 t7
    unfold val at a; rw [if_neg (by omega)] at a
    rw [List.length_cons]; omega
theorem F_far {B : List Int} {R : Nat} {C : Nat → Int} {g : Nat → Int} (hg : ∀ t, t ≤ B.length + 1 → good C R B.length g t) (d : Nat) : ∀ s, s + d = B.length → 0 < C s → (B.length : Int) + 1 - s ≤ (g s + 1) * R := by
  induction d using Nat.strongRecOn with
  | _ d ih =>
    intro s hd p
    obtain ⟨a1, a2, ⟨t, b1, b2, b3, b4, b5⟩, a4⟩ := F_one hg (by omega : s ≤ B.length) p
    unfold val at b5
    by_cases z : t = B.length + 1
    · rw [if_pos z] at b5; rw [b5, Int.zero_add, Int.one_mul]; omega
    · rw [if_neg z] at b5
      have := ih (B.length - t) (by omega) t (by omega) b4
      rw [b5, Int.add_mul (g t + 1), Int.one_mul]; omega
theorem few_l1 {B : List Int} {R : Nat} (hl : B.length ≤ 20) (hB : ents B 100) {t : Nat} (h1 : 1 ≤ t) (ho : 0 < nf B (t - 1)) (d : Nat) : ∀ z, z = t + d → z ≤ B.length →
    ∃ y : Nat, t ≤ y ∧ y ≤ z ∧ 0 < nf B (y - 1) ∧ (∀ s, y < s → s ≤ z → rd B ((s - 1 : Nat) : Int) = 0) ∧ ∀ (k : Nat) (c : Int), 0 ≤ c → c ≤ 1000 → spec_FewestOnWear.l1 (k + (z - y) + 1) B R c z = spec_FewestOnWear.l0 k B R (c + 1) y := by
  induction d with
  | zero =>
    intro z hz hb
    have e : z = t := hz
    subst e
    unfold nf at ho
    refine ⟨z, Nat.le_refl _, Nat.le_refl _, ho, fun s a b => by omega, fun k c c0 c1 => ?_⟩
    have e1 : wrap64 ((z : Int) - 1) = ((z - 1 : Nat) : Int) := by rw [w64 (by omega)]; omega
    rw [Nat.sub_self, Nat.add_zero, spec_FewestOnWear.l1, e1, if_pos (Int.natCast_nonneg _), if_pos (by omega), if_neg (by omega), w64 (by omega)]
  | succ d ih =>
    intro z hz hb
    have e1 : wrap64 ((z : Int) - 1) = ((z - 1 : Nat) : Int) := by rw [w64 (by omega)]; omega
    by_cases g : rd B ((z - 1 : Nat) : Int) = 0
    · obtain ⟨y, a, b, c, p, q⟩ := ih (z - 1) (by omega) (by omega)
      refine ⟨y, a, by omega, c, fun s h2 h3 => ?_, fun k c c0 c1 => ?_⟩
      · by_cases e : s = z
        · subst e; exact g
        · exact p s h2 (by omega)
      · rw [show k + (z - y) + 1 = (k + (z - 1 - y) + 1) + 1 by omega, spec_FewestOnWear.l1, e1, if_pos (Int.natCast_nonneg _), if_pos (by omega), if_pos g]
        exact q k c c0 c1
    · have pz : 0 < rd B ((z - 1 : Nat) : Int) := by have := (hB (z - 1) (by omega)).1; omega
      refine ⟨z, by omega, Nat.le_refl _, pz, fun s a b => by omega, fun k c c0 c1 => ?_⟩
      rw [Nat.sub_self, Nat.add_zero, spec_FewestOnWear.l1, e1, if_pos (Int.natCast_nonneg _), if_pos (by omega), if_neg g, w64 (by omega)]
theorem few_l0 {B : List Int} {R : Nat} {C : Nat → Int} (hC : isC B R C) (hl : B.length ≤ 20) (hB : ents B 100) (h1 : 1 ≤ R) (hR : R ≤ 20) {g : Nat → Int} (hg : ∀ t, t ≤ B.length + 1 → good C R B.length g t) (d : Nat) : ∀ (s k : Nat) (c : Int), s + d = B.length → 0 < C s → 50 * (d + 1) < k → 0 ≤ c → c + d ≤ 100 →
    spec_FewestOnWear.l0 k B R c s = some (c + g s, true) := by
  induction d using Nat.strongRecOn with
  | _ d ih =>
    intro s k c hd p hk c0 c1
    obtain ⟨a1, a2, ⟨u, b1, b2, b3, b4, b5⟩, a4⟩ := F_one hg (by omega : s ≤ B.length) p
    have e1 := Aside0.mk (show wrap64 (((B.length + 1 : Nat) : Int) - (s : Int)) = ((B.length + 1 : Nat) : Int) - (s : Int) from w64 (by omega))
    have e2 := Aside0.mk (show wrap64 ((B.length : Int) + 1) = ((B.length + 1 : Nat) : Int) from by rw [w64 (by omega)]; rfl)
    obtain ⟨k, rfl⟩ : ∃ m, k = m + 1 := ⟨k - 1, by omega⟩
    by_cases z : B.length + 1 ≤ s + R
    · have a := a4 (B.length + 1) (by omega) z (Nat.le_refl _) (by rw [hC.1]; decide)
      unfold val at a; rw [if_pos rfl] at a
      rw [spec_FewestOnWear.l0, e2.out, e1.out, if_neg (by omega), show g s = 0 by omega, Int.add_zero]
    · have hu : ¬ u = B.length + 1 := by omega
      unfold val at b5; rw [if_neg hu] at b5
      have ou := (C_S hC (by omega) b4).2.resolve_left (by omega)
      obtain ⟨y, y1, y2, y3, y4, y5⟩ := few_l1 (R := R) hl hB (by omega : 1 ≤ u) ou (s + R - u) (s + R) (by omega) (by omega)
      have sy := S_mono hC hl (y - s) s y (by omega) (by omega) (C_S hC (by omega) p).1
      have py := S_C hC (by omega) sy (.inr y3)
      have m1 := F_mono hg (B.length - u) u y (by omega) y1 (by omega) b4 py
      have m2 := a4 y (by omega) y2 (by omega) py
      have hy : ¬ y = B.length + 1 := by clear m2; omega
      unfold val at m2; rw [if_neg hy] at m2
      have e3 := Aside0.mk (show wrap64 ((s : Int) + (R : Int)) = ((s + R : Nat) : Int) from by rw [w64 (by omega)]; rfl)
      have q := y5 (k - (s + R - y) - 1) c c0 (by omega)
      rw [show k - (s + R - y) - 1 + (s + R - y) + 1 = k by omega] at q
      rw [spec_FewestOnWear.l0, e2.out, e1.out, if_pos (by omega), e3.out, q, ih (B.length - y) (by omega) y _ (c + 1) (by omega) py (by omega) (by omega) (by omega)]
      congr 2; omega
theorem most_pos {B : List Int} {r : Nat} {C : Nat → Int} (hC : isC B r C) (hl : B.length ≤ 20) (hB : ents B 100) (h1 : 1 ≤ r) (h2 : r ≤ B.length) : 0 < C 0 ↔ 0 < mwB B r := by
  have e0 := hC.2 0 (Nat.zero_le _)
  rw [if_pos (show opn B 0 from .inl rfl)] at e0
  have wp : ∀ i, i + r ≤ B.length → (0 < wsum (nf B) i r ↔ ∃ j, i ≤ j ∧ j < i + r ∧ 0 < nf B j) := fun i hi => wsum_pos r (fun j a b => (hB j (by omega)).1)
  constructor
  · intro h
    obtain ⟨i, a, b⟩ := mw_ex (nf B) r (B.length - r)
    unfold mwB; rw [← b]
    have s := S_mono hC hl i 0 i (by omega) (by omega) (by rw [← e0]; exact h)
    obtain ⟨t, c1, c2, c3, c4⟩ := (S_pos hC hl (by omega)).1 s
    have o := (C_S hC (by omega) c4).2.resolve_left (by omega)
    exact (wp i (by omega)).2 ⟨t - 1, by omega, by omega, o⟩
  · intro h
    have key : ∀ d k, k + d = B.length → 0 < sC C r B.length k := by
      intro d
      induction d using Nat.strongRecOn with
      | _ d ih =>
        intro k hk
        by_cases z : B.length + 1 ≤ k + r
        · exact (S_pos hC hl (by omega)).2 ⟨B.length + 1, by omega, z, Nat.le_refl _, by rw [hC.1]; decide⟩
        · have w := mw_le (nf B) r (B.length - r) k (by omega)
          unfold mwB at h
          obtain ⟨j, j1, j2, j3⟩ := (wp k (by omega)).1 (by omega)
          exact (S_pos hC hl (by omega)).2 ⟨j + 1, by omega, by omega, by omega, S_C hC (by omega) (ih (B.length - (j + 1)) (by omega) (j + 1) (by omega)) (.inr j3)⟩
    rw [e0]; exact key B.length 0 (by omega)
theorem Men2_void (k : Nat) (U : List Int) (r : Int) : Men2 k U r [] false 0 0 [] false 0 0 false 0 (fun _ => 0) := by constructor <;> (intro z; exact absurd z (by decide))
/-- The half about climbs: the first, the fewest steps, the number. -/
theorem climbs_ex {k : Nat} (hk : 2000 < k) {B : List Int} {R : Nat} (hg : gB B = true) (h1 : 1 ≤ R) (hR : R ≤ 20) : ∃ fi t7 few cnt, impl_FirstWearClimb.f k B R = some (fi, t7) ∧ spec_FirstWearClimb.f k B R = some (fi, t7) ∧ impl_FewestOnWear.f k B R = some (few, t7) ∧ spec_FewestOnWear.f k B R = some (few, t7) ∧ impl_CountWearClimbs.f k B R = some (cnt, true) ∧ spec_CountWearClimbs.f k B R = some (cnt, true) ∧
    t7 = decide (0 < cnt) ∧ fi.length ≤ 20 ∧ (R ≤ B.length → t7 = decide (0 < mwB B R)) ∧ (t7 = true → impl_IsWearClimb.f k B R fi = some (true, true) ∧ few ≤ fi.length ∧ 0 ≤ few ∧ B.length ≤ 20 ∧ few ≤ 20 ∧ 1 ≤ (R : Int) ∧ (R : Int) ≤ 20 ∧ (B.length : Int) + 1 ≤ (few + 1) * R) := by
  obtain ⟨h0, hl, hB⟩ := gB_true hg
  have hr : rB B (R : Int) = true := by unfold rB; rw [hg, decide_eq_true (by omega)]; rfl
  obtain ⟨C, hC⟩ := isC_ex B R
  obtain ⟨cs, fs, w1, hS⟩ := iw_ex (k := k) (by omega) hC hR hl hB
  obtain ⟨Y, w2, hY⟩ := ww_ex (k := k) (by omega) hC hR hl
  have c0 : rd cs 0 = C 0 := (hS.2.1 0 (Nat.le_refl _) (Nat.zero_le _)).1
  have g0 := (hS.2.1 0 (Nat.le_refl _) (Nat.zero_le _)).2
  have hgd : ∀ t, t ≤ B.length + 1 → good C R B.length (nf fs) t := fun t ht => (hS.2.1 t (Nat.zero_le _) ht).2
  have y0 : rd Y 0 = C 0 := by
    have a := hY.2.1 0 (Nat.le_refl _) (Nat.zero_le _)
    rw [if_neg (by omega)] at a
    have e := hC.2 0 (Nat.zero_le _)
    rw [if_pos (show opn B 0 from .inl rfl)] at e
    exact a.trans e.symm
  have cb := C_nn hC hl 0 (Nat.zero_le _)
  have lc : (0 : Int) < (cs.length : Int) := by rw [hS.1.1]; omega
  have lf : (0 : Int) < (fs.length : Int) := by rw [hS.1.2]; omega
  have ly : (0 : Int) < (Y.length : Int) := by rw [hY.1]; omega
  have k1 : impl_CountWearClimbs.f k B R = some (C 0, true) := by
    unfold impl_CountWearClimbs.f
    rw [canWear_eq, Option.bind_some, hr, if_pos rfl, w1, Option.bind_some, if_pos lc, c0, if_neg (by omega)]
  have k2 : spec_CountWearClimbs.f k B R = some (C 0, true) := by
    unfold spec_CountWearClimbs.f
    rw [weReach_eq (by omega), Option.bind_some, hr, if_pos rfl, w2, Option.bind_some, if_pos ly, y0, if_neg (by omega)]
  have e2 : wrap64 ((B.length : Int) + 1) = ((B.length + 1 : Nat) : Int) := by rw [w64 (by omega)]; rfl
  by_cases z : C 0 = 0
  · have f0 : rd fs 0 = -1 := g0.1 z
    refine ⟨[], false, 0, C 0, ?_, ?_, ?_, ?_, k1, k2, by rw [z]; rfl, by simp, fun h => ?_, fun h => absurd h (by decide)⟩
    · unfold impl_FirstWearClimb.f
      rw [canWear_eq, Option.bind_some, hr, if_pos rfl, w1, Option.bind_some, if_pos lc, c0, if_pos z]
    · unfold spec_FirstWearClimb.f
      rw [weReach_eq (by omega), Option.bind_some, hr, if_pos rfl, w2, Option.bind_some, if_pos ly, y0, if_pos z]
    · unfold impl_FewestOnWear.f
      rw [canWear_eq, Option.bind_some, hr, if_pos rfl, w1, Option.bind_some, if_pos lf, f0, if_pos (by decide)]
    · obtain ⟨k', rfl⟩ : ∃ m, k = m + 1 := ⟨k - 1, by omega⟩
      unfold spec_FewestOnWear.f
      rw [weReach_eq (by omega), Option.bind_some, hr, if_pos rfl, w2, Option.bind_some, if_pos ly, y0, z, show ((0 : Int) == 0) = true from rfl, spec_FewestOnWear.j0, if_pos rfl]
    · have := most_pos hC hl hB h1 h
      rw [decide_eq_false (by omega)]
  · have p : 0 < C 0 := by omega
    obtain ⟨r, r1, r2, r3, r4⟩ := first_ex hC hl hB hS hY hR B.length 0 (by omega) p
    have f0 := F_one hgd (Nat.zero_le _) p
    have fa := F_far hgd B.length 0 (by omega) p
    have fc := F_climb hC hgd r 0 (Nat.zero_le _) p r1
    have nf0 : nf fs 0 = rd fs 0 := rfl
    rw [nf0] at f0 fa fc
    have f1 := f0.1; have f2 := f0.2.1
    refine ⟨r, true, rd fs 0, C 0, ?_, ?_, ?_, ?_, k1, k2, (decide_eq_true p).symm, by omega, fun h => (decide_eq_true ((most_pos hC hl hB h1 h).1 p)).symm, fun _ => ⟨?_, fc, f1, hl, by omega, by omega, by omega, by simpa using fa⟩⟩
    · unfold impl_FirstWearClimb.f
      rw [canWear_eq, Option.bind_some, hr, if_pos rfl, w1, Option.bind_some, if_pos lc, c0, if_neg z, e2]
      have := r3 k [] (by omega) (by simp; omega)
      simpa using this
    · unfold spec_FirstWearClimb.f
      rw [weReach_eq (by omega), Option.bind_some, hr, if_pos rfl, w2, Option.bind_some, if_pos ly, y0, if_neg z]
      have := r4 k [] (by omega) (by simp; omega)
      simpa using this
    · unfold impl_FewestOnWear.f
      rw [canWear_eq, Option.bind_some, hr, if_pos rfl, w1, Option.bind_some, if_pos lf, if_neg (show ¬ rd fs 0 < 0 by omega)]
    · obtain ⟨k', rfl⟩ : ∃ m, k = m + 1 := ⟨k - 1, by omega⟩
      have q := few_l0 hC hl hB h1 hR hgd B.length 0 k' 0 (by omega) p (by omega) (by omega) (by omega)
      unfold spec_FewestOnWear.f
      rw [weReach_eq (by omega), Option.bind_some, hr, if_pos rfl, w2, Option.bind_some, if_pos ly, y0, beq_eq_false_iff_ne.mpr z, spec_FewestOnWear.j0, if_neg (by decide)]
      rw [Int.zero_add] at q; exact q
    · unfold impl_IsWearClimb.f impl_isWearClimb.f
      rw [canWear_eq, Option.bind_some, hr, if_pos rfl, e2]
      have := climb_l0 hl hR (l := r) (by omega) r.length k 0 0 (by omega) (by omega) (by omega) (by rw [List.drop_zero]; exact r1)
      rw [show ((0 : Nat) : Int) = 0 from rfl] at this
      rw [this]; rfl
theorem men2_ex {k : Nat} (hk : 2500 < k) (U : List Int) (r : Int) : ∃ I t3 wo le fi t7 few cnt te mo lo_, Men2 k U r I t3 wo le fi t7 few cnt te mo lo_ ∧ impl_IdleBears.f k U r = some (I, t3) ∧ spec_IdleBears.f k U r = some (I, t3) ∧ impl_WorstStepToLose.f k U r = some (wo, le, t3) ∧ spec_WorstStepToLose.f k U r = some (wo, le, t3) ∧
    impl_FirstWearClimb.f k U r = some (fi, t7) ∧ spec_FirstWearClimb.f k U r = some (fi, t7) ∧ impl_FewestOnWear.f k U r = some (few, t7) ∧ spec_FewestOnWear.f k U r = some (few, t7) ∧ impl_CountWearClimbs.f k U r = some (cnt, te) ∧ spec_CountWearClimbs.f k U r = some (cnt, te) ∧ I.length ≤ 20 ∧ fi.length ≤ 20 := by
  by_cases hr : rB U r = true
  · have a := rB_true hr
    obtain ⟨h0, hl, hB⟩ := gB_true a.1
    obtain ⟨R, rfl⟩ := Int.eq_ofNat_of_zero_le (show 0 ≤ r by omega)
    obtain ⟨fi, t7, few, cnt, q1, q2, q3, q4, q5, q6, q7, q8, q9, q10⟩ := climbs_ex (k := k) (by omega) a.1 (show 1 ≤ R by omega) (show R ≤ 20 by omega)
    by_cases he : eB U (R : Int) = true
    · have h2 : R ≤ U.length := by have := (eB_true he).2; omega
      have h1 : 1 ≤ R := by omega
      obtain ⟨i1, i2⟩ := idle_l0 hB hl h1 h2 U.length k 1 [] (by omega) (by omega) (by simp; omega) (Nat.le_refl _)
      obtain ⟨wo, w1, w2, w3, w4, w5, w6⟩ := worst_ex (k := k) (by omega) hB h0 hl h1 h2
      rw [List.nil_append] at i1 i2
      have fl := filt_length (idleP U R) 1 U.length
      refine ⟨filt (idleP U R) 1 U.length, true, (wo : Int), lo U R wo, fi, t7, few, cnt, true, mwB U R, fun i => lo U R (i.toNat + 1), ?_, ?_, ?_, ?_, ?_, q1, q2, q3, q4, q5, q6, by omega, q8⟩
      · exact
          { count := fun _ => q7
            ulen := fun _ => hl
            most := fun _ => MostWears_eq (by omega) he
            rise := fun _ => wRises_eq (by omega) (by omega) (filt_rise _ _ _)
            least := fun _ => by
              obtain ⟨i, m1, m2⟩ := mw_ex (nf U) R (U.length - R)
              have x := mw_le (nf (U.set (wo - 1) 0)) R (U.length - R) i m1
              have y := wsum_le (f := nf (U.set (wo - 1) 0)) (g := nf U) (i := i) R (fun j _ hj => by
                unfold nf
                by_cases e : j = wo - 1
                · subst e; rw [rd_set_eq _ _ _ (by omega)]; exact (hB (wo - 1) (by omega)).1
                · rw [rd_set_ne _ _ _ _ e]; exact Int.le_refl _)
              have e : lo U R wo = mw (nf (U.set (wo - 1) 0)) R (U.length - R) := by unfold lo mwB; rw [List.length_set]
              have e' : mwB U R = wsum (nf U) i R := m2.symm
              omega
            first := fun _ => q9 h2
            lost := fun _ i g1 g2 => by
              obtain ⟨j, rfl⟩ := Int.eq_ofNat_of_zero_le g1
              have es := MostWears_eq (k := k) (by omega) (B := U.set j 0) (R := R) (by
                unfold eB rB
                have hs := ents_set hB j
                have gb : gB (U.set j 0) = true := by
                  unfold gB
                  rw [List.length_set, decide_eq_true (by omega), Bool.true_and, List.all_eq_true]
                  intro x hx
                  obtain ⟨q, hq, rfl⟩ := List.getElem_of_mem hx
                  have := hs q hq
                  rw [rd_get hq] at this
                  simpa using this
                rw [gb, List.length_set, decide_eq_true (by omega), decide_eq_true (by omega)]; rfl)
              rw [Int.toNat_natCast]
              refine ⟨es, w5 (j + 1) (by omega) (by omega), fun e => ?_, fun e => ?_, ?_⟩
              · by_cases z : j + 1 < wo
                · have := w6 (j + 1) (by omega) z; omega
                · omega
              · rw [show j + 1 = wo by omega]
              · rw [show (j : Int) + 1 = ((j + 1 : Nat) : Int) from rfl, wHas_eq _ (by omega) (by omega)]
                congr 1
                rw [Bool.eq_iff_iff, decide_eq_true_eq, filt_mem, beq_iff_eq]
                unfold idleP
                rw [decide_eq_true_eq]
                exact ⟨fun h => h.2.2, fun h => ⟨by omega, by omega, h⟩⟩
            climb := q10 }
      · unfold impl_IdleBears.f; rw [hasParts_eq, Option.bind_some, he, if_pos rfl]; exact i1
      · unfold spec_IdleBears.f; rw [weEnds_eq (by omega), Option.bind_some, he, if_pos rfl]; exact i2
      · unfold impl_WorstStepToLose.f; rw [hasParts_eq, Option.bind_some, he, if_pos rfl]; exact w1
      · unfold spec_WorstStepToLose.f; rw [weEnds_eq (by omega), Option.bind_some, he, if_pos rfl]; exact w2
    · have he' : eB U (R : Int) = false := by simpa using he
      refine ⟨[], false, 0, 0, fi, t7, few, cnt, true, 0, fun _ => 0, ?_, ?_, ?_, ?_, ?_, q1, q2, q3, q4, q5, q6, by simp, q8⟩
      · exact
          { count := fun _ => q7
            ulen := fun z => absurd z (by decide)
            most := fun z => absurd z (by decide)
            rise := fun z => absurd z (by decide)
            least := fun z => absurd z (by decide)
            first := fun z => absurd z (by decide)
            lost := fun z => absurd z (by decide)
            climb := q10 }
      · unfold impl_IdleBears.f; rw [hasParts_eq, Option.bind_some, he', if_neg (by decide)]
      · unfold spec_IdleBears.f; rw [weEnds_eq (by omega), Option.bind_some, he', if_neg (by decide)]
      · unfold impl_WorstStepToLose.f; rw [hasParts_eq, Option.bind_some, he', if_neg (by decide)]
      · unfold spec_WorstStepToLose.f; rw [weEnds_eq (by omega), Option.bind_some, he', if_neg (by decide)]
  · have hr' : rB U r = false := by simpa using hr
    have he' : eB U r = false := by unfold eB; rw [hr']; rfl
    refine ⟨[], false, 0, 0, [], false, 0, 0, false, 0, fun _ => 0, Men2_void k U r, ?_, ?_, ?_, ?_, ?_, ?_, ?_, ?_, ?_, ?_, by simp, by simp⟩
    · unfold impl_IdleBears.f; rw [hasParts_eq, Option.bind_some, he', if_neg (by decide)]
    · unfold spec_IdleBears.f; rw [weEnds_eq (by omega), Option.bind_some, he', if_neg (by decide)]
    · unfold impl_WorstStepToLose.f; rw [hasParts_eq, Option.bind_some, he', if_neg (by decide)]
    · unfold spec_WorstStepToLose.f; rw [weEnds_eq (by omega), Option.bind_some, he', if_neg (by decide)]
    · unfold impl_FirstWearClimb.f; rw [canWear_eq, Option.bind_some, hr', if_neg (by decide)]
    · unfold spec_FirstWearClimb.f; rw [weReach_eq (by omega), Option.bind_some, hr', if_neg (by decide)]
    · unfold impl_FewestOnWear.f; rw [canWear_eq, Option.bind_some, hr', if_neg (by decide)]
    · obtain ⟨k', rfl⟩ : ∃ m, k = m + 1 := ⟨k - 1, by omega⟩
      unfold spec_FewestOnWear.f; rw [weReach_eq (by omega), Option.bind_some, hr', if_neg (by decide), spec_FewestOnWear.j0, if_pos rfl]
    · unfold impl_CountWearClimbs.f; rw [canWear_eq, Option.bind_some, hr', if_neg (by decide)]
    · unfold spec_CountWearClimbs.f; rw [weReach_eq (by omega), Option.bind_some, hr', if_neg (by decide)]

end Go.Proofs.Ytalnjklklpnnhaa.Pure
