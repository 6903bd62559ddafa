/- The program's table of ways: the counts, and the fewest steps (StepsMended). No condition but the bounds of bears. -/
import Derived.Test.YtalnjklklpnnhaaSmpf
namespace Go.Proofs.Ytalnjklklpnnhaa.Pure
open Go.RowKit Go.Proofs.Ytalnjklklpnnhaa.PFnStepsMended Go.Proofs.YtalnjklklpnnhaaW.PrintWords Go.Proofs.YtalnjklklpnnhaaW.PrintLast Go.Proofs.YtalnjklklpnnhaaW.PrintMore
set_option linter.unusedVariables false
set_option linter.unusedSimpArgs false

def val (n : Nat) (g : Nat → Int) (t : Nat) : Int := if t = n + 1 then 0 else g t + 1
def Att (C : Nat → Int) (R n : Nat) (g : Nat → Int) (k : Nat) (f : Int) : Prop := 0 ≤ f ∧ f ≤ (n : Int) - k ∧ (∃ t, k < t ∧ t ≤ k + R ∧ t ≤ n + 1 ∧ 0 < C t ∧ f = val n g t) ∧ ∀ t, k < t → t ≤ k + R → t ≤ n + 1 → 0 < C t → f ≤ val n g t
def good (C : Nat → Int) (R n : Nat) (g : Nat → Int) (t : Nat) : Prop := (C t = 0 → g t = -1) ∧ (0 < C t → t = n + 1 → g t = 0) ∧ (0 < C t → t ≤ n → Att C R n g t (g t))
def PF (C : Nat → Int) (n : Nat) (g : Nat → Int) (k j : Nat) (f : Int) : Prop := (f = -1 ∧ ∀ t, k < t → t ≤ k + j → C t = 0) ∨ (0 ≤ f ∧ f ≤ (n : Int) - k ∧ (∃ t, k < t ∧ t ≤ k + j ∧ 0 < C t ∧ f = val n g t) ∧ ∀ t, k < t → t ≤ k + j → 0 < C t → f ≤ val n g t)
theorem val_congr {n : Nat} {g g' : Nat → Int} {t : Nat} (h : g t = g' t) : val n g t = val n g' t := by unfold val; rw [h]
theorem Att_congr {C : Nat → Int} {R n : Nat} {g g' : Nat → Int} {k : Nat} {f : Int} (h : ∀ s, k < s → g s = g' s) (a : Att C R n g k f) : Att C R n g' k f := by
  obtain ⟨a1, a2, ⟨t, b1, b2, b3, b4, b5⟩, a4⟩ := a
  exact ⟨a1, a2, ⟨t, b1, b2, b3, b4, b5.trans (val_congr (h t b1))⟩, fun t c1 c2 c3 c4 => (val_congr (h t c1)) ▸ a4 t c1 c2 c3 c4⟩
theorem good_congr {C : Nat → Int} {R n : Nat} {g g' : Nat → Int} {t : Nat} (h : ∀ s, t ≤ s → g s = g' s) (a : good C R n g t) : good C R n g' t := by
  obtain ⟨a1, a2, a3⟩ := a
  have e := h t (Nat.le_refl _)
  exact ⟨fun z => e ▸ a1 z, fun z y => e ▸ a2 z y, fun z y => e ▸ Att_congr (fun s hs => h s (Nat.le_of_lt hs)) (a3 z y)⟩
theorem PF_congr {C : Nat → Int} {n : Nat} {g g' : Nat → Int} {k j : Nat} {f : Int} (h : ∀ s, k < s → g s = g' s) (a : PF C n g k j f) : PF C n g' k j f := by
  rcases a with a | ⟨a1, a2, ⟨t, b1, b2, b4, b5⟩, a4⟩
  · exact .inl a
  · exact .inr ⟨a1, a2, ⟨t, b1, b2, b4, b5.trans (val_congr (h t b1))⟩, fun t c1 c2 c4 => (val_congr (h t c1)) ▸ a4 t c1 c2 c4⟩
theorem PF_skip {C : Nat → Int} {n : Nat} {g : Nat → Int} {k m : Nat} {f : Int} (h : PF C n g k m f) (z : C (k + 1 + m) = 0) : PF C n g k (m + 1) f := by
  rcases h with ⟨a, b⟩ | ⟨a1, a2, ⟨t, b1, b2, b4, b5⟩, a4⟩
  · refine .inl ⟨a, fun t h1 h2 => ?_⟩
    by_cases e : t = k + 1 + m
    · rw [e]; exact z
    · exact b t h1 (by omega)
  · refine .inr ⟨a1, a2, ⟨t, b1, by omega, b4, b5⟩, fun t h1 h2 h3 => ?_⟩
    by_cases e : t = k + 1 + m
    · rw [e, z] at h3; omega
    · exact a4 t h1 (by omega) h3
theorem PF_take {C : Nat → Int} {n : Nat} {g : Nat → Int} {k m : Nat} {f : Int} (h : PF C n g k m f) (z : 0 < C (k + 1 + m)) (v0 : 0 ≤ val n g (k + 1 + m)) (v1 : val n g (k + 1 + m) ≤ (n : Int) - k) (hv : f < 0 ∨ val n g (k + 1 + m) < f) : PF C n g k (m + 1) (val n g (k + 1 + m)) := by
  refine .inr ⟨v0, v1, ⟨k + 1 + m, by omega, by omega, z, rfl⟩, fun t h1 h2 h3 => ?_⟩
  by_cases e : t = k + 1 + m
  · rw [e]; exact Int.le_refl _
  · rcases h with ⟨a, b⟩ | ⟨a1, a2, _, a4⟩
    · have := b t h1 (by omega); omega
    · have := a4 t h1 (by omega) h3; omega
theorem PF_keep {C : Nat → Int} {n : Nat} {g : Nat → Int} {k m : Nat} {f : Int} (h : PF C n g k m f) (z : 0 < C (k + 1 + m)) (h0 : ¬ f < 0) (hv : ¬ val n g (k + 1 + m) < f) : PF C n g k (m + 1) f := by
  rcases h with ⟨a, b⟩ | ⟨a1, a2, ⟨t, b1, b2, b4, b5⟩, a4⟩
  · omega
  · refine .inr ⟨a1, a2, ⟨t, b1, by omega, b4, b5⟩, fun t h1 h2 h3 => ?_⟩
    by_cases e : t = k + 1 + m
    · rw [e]; omega
    · exact a4 t h1 (by omega) h3
theorem PF_end {B : List Int} {R : Nat} {C : Nat → Int} (hC : isC B R C) (hl : B.length ≤ 20) {g : Nat → Int} {k : Nat} (hk : k ≤ B.length) (ho : opn B k) (hp : PF C B.length g k (min R (B.length + 1 - k)) (g k)) : good C R B.length g k := by
  have e := hC.2 k hk
  rw [if_pos ho] at e
  have pos := wsum_pos (f := C) (i := k + 1) (min R (B.length + 1 - k)) (fun j a b => (C_nn hC hl j (by omega)).1)
  unfold sC at e
  rw [← e] at pos
  refine ⟨fun z => ?_, fun _ y => by omega, fun z y => ?_⟩
  · rcases hp with ⟨a, b⟩ | ⟨a1, a2, ⟨t, b1, b2, b4, b5⟩, a4⟩
    · exact a
    · have := pos.2 ⟨t, by omega, by omega, b4⟩; omega
  · obtain ⟨t, c1, c2, c3⟩ := pos.1 z
    rcases hp with ⟨a, b⟩ | ⟨a1, a2, ⟨t, b1, b2, b4, b5⟩, a4⟩
    · have := b t (by omega) (by omega); omega
    · exact ⟨a1, a2, ⟨t, b1, by omega, by omega, b4, b5⟩, fun t d1 d2 d3 d4 => a4 t d1 (by omega) d4⟩
def Sw (B : List Int) (R : Nat) (C : Nat → Int) (k : Nat) (cs fs : List Int) : Prop := (cs.length = B.length + 2 ∧ fs.length = B.length + 2) ∧ (∀ t, k ≤ t → t ≤ B.length + 1 → rd cs (t : Int) = C t ∧ good C R B.length (nf fs) t) ∧ ∀ t, t < k → rd cs (t : Int) = 0 ∧ rd fs (t : Int) = -1
theorem nf_set {X : List Int} {p s : Nat} (v : Int) (h : p < s) : nf X s = nf (X.set p v) s := (rd_set_ne _ _ _ _ (Nat.ne_of_gt h)).symm
/-- The frame of the inner loop: all but the step itself. -/
def Iw (B : List Int) (R : Nat) (C : Nat → Int) (k : Nat) (cs fs : List Int) : Prop := (cs.length = B.length + 2 ∧ fs.length = B.length + 2) ∧ (∀ t, k + 1 ≤ t → t ≤ B.length + 1 → rd cs (t : Int) = C t ∧ good C R B.length (nf fs) t) ∧ ∀ t, t < k → rd cs (t : Int) = 0 ∧ rd fs (t : Int) = -1
theorem Iw_set1 {B : List Int} {R : Nat} {C : Nat → Int} {k : Nat} {cs fs : List Int} (h : Iw B R C k cs fs) (u : Int) : Iw B R C k (cs.set k u) fs := by
  obtain ⟨⟨a1, a2⟩, b, c⟩ := h
  exact ⟨⟨by rw [List.length_set]; exact a1, a2⟩, fun t h1 h2 => ⟨(rd_set_ne _ _ _ _ (Nat.ne_of_gt h1)).trans (b t h1 h2).1, (b t h1 h2).2⟩, fun t h1 => ⟨(rd_set_ne _ _ _ _ (Nat.ne_of_lt h1)).trans (c t h1).1, (c t h1).2⟩⟩
theorem Iw_set2 {B : List Int} {R : Nat} {C : Nat → Int} {k : Nat} {cs fs : List Int} (h : Iw B R C k cs fs) (u : Int) : Iw B R C k cs (fs.set k u) := by
  obtain ⟨⟨a1, a2⟩, b, c⟩ := h
  exact ⟨⟨a1, by rw [List.length_set]; exact a2⟩, fun t h1 h2 => ⟨(b t h1 h2).1, good_congr (fun s hs => nf_set u (Nat.lt_of_lt_of_le h1 hs)) (b t h1 h2).2⟩, fun t h1 => ⟨(c t h1).1, (rd_set_ne _ _ _ _ (Nat.ne_of_lt h1)).trans (c t h1).2⟩⟩
theorem iw_end {B : List Int} {R : Nat} {C : Nat → Int} (hC : isC B R C) (hR : R ≤ 20) (hl : B.length ≤ 20) {at_ : Nat} (ha : at_ ≤ B.length) (hB : ents B 100) (k : Nat) (cs fs : List Int) (hI : Iw B R C at_ cs fs) (hc : rd cs (at_ : Int) = wsum C (at_ + 1) (min R (B.length + 1 - at_))) (hp : PF C B.length (nf fs) at_ (min R (B.length + 1 - at_)) (nf fs at_)) :
    ∃ cs' fs', impl_ways.l1 (k + 1) B R ((B.length + 1 : Nat) : Int) cs fs at_ ((at_ + 1 + min R (B.length + 1 - at_) : Nat) : Int) = impl_ways.l0 k B R ((B.length + 1 : Nat) : Int) cs' fs' ((at_ : Int) - 1) ∧ Sw B R C at_ cs' fs' := by
  have hlen := hI.1
  have e := hC.2 at_ ha
  have hmn : ¬ ((at_ + 1 + min R (B.length + 1 - at_) : Nat) : Int) ≤ mn ((at_ : Int) + (R : Int)) ((B.length + 1 : Nat) : Int) := by rw [mn_eq]; clear hc hp e hI; omega
  rw [impl_ways.l1, w64 (x := (at_ : Int) + (R : Int)) (by clear hc hp e hI; omega), if_neg hmn, w64 (x := (at_ : Int) - 1) (by clear hc hp e hI; omega)]
  have yes : opn B at_ → Sw B R C at_ cs fs := fun ho => ⟨hlen, fun t h1 h2 => by
    by_cases z : t = at_
    · subst z
      rw [if_pos ho] at e
      exact ⟨hc.trans e.symm, PF_end hC hl ha ho hp⟩
    · exact hI.2.1 t (by clear hc hp e; omega) h2, hI.2.2⟩
  by_cases c0 : (at_ : Int) > 0
  · have hb := hB (at_ - 1) (by clear hc hp e hI; omega)
    have ea : (at_ : Int) - 1 = ((at_ - 1 : Nat) : Int) := by clear hc hp e hI; omega
    rw [if_pos c0, ea, if_pos (by clear hc hp e hI; omega), if_pos (by clear hc hp e hI; omega)]
    by_cases g : rd B ((at_ - 1 : Nat) : Int) = 0
    · rw [if_pos g, if_pos (by clear hc hp e hI; omega), if_pos (by clear hc hp e hI; omega), if_pos (by clear hc hp e hI; omega), Int.toNat_natCast]
      refine ⟨_, _, rfl, ?_⟩
      have hno : ¬ opn B at_ := fun z => z.elim (fun y => by clear hc hp e hI; omega) (fun y => by unfold nf at y; rw [g] at y; exact absurd y (by decide))
      rw [if_neg hno] at e
      have hI2 := Iw_set2 (Iw_set1 hI 0) (-1)
      refine ⟨hI2.1, fun t h1 h2 => ?_, hI2.2.2⟩
      by_cases z : t = at_
      · subst z
        have f1 : rd (fs.set t (-1)) (t : Int) = -1 := rd_set_eq _ _ _ (by clear hc hp e hI hI2; omega)
        exact ⟨(rd_set_eq _ _ _ (by clear hc hp e hI hI2 f1; omega)).trans e.symm, fun _ => f1, fun y => by rw [e] at y; exact absurd y (by decide), fun y => by rw [e] at y; exact absurd y (by decide)⟩
      · exact hI2.2.1 t (by clear hc hp e hI hI2; omega) h2
    · rw [if_neg g]
      exact ⟨cs, fs, rfl, yes (.inr (by unfold nf; clear hc hp e hI; omega))⟩
  · rw [if_neg c0]
    exact ⟨cs, fs, rfl, yes (.inl (by clear hc hp e hI; omega))⟩
theorem iw_l1 {B : List Int} {R : Nat} {C : Nat → Int} (hC : isC B R C) (hR : R ≤ 20) (hl : B.length ≤ 20) {at_ : Nat} (ha : at_ ≤ B.length) (hB : ents B 100) (d : Nat) : ∀ (k m : Nat) (cs fs : List Int), m + d = min R (B.length + 1 - at_) → Iw B R C at_ cs fs → rd cs (at_ : Int) = wsum C (at_ + 1) m → PF C B.length (nf fs) at_ m (nf fs at_) →
    ∃ cs' fs', impl_ways.l1 (k + d + 1) B R ((B.length + 1 : Nat) : Int) cs fs at_ ((at_ + 1 + m : Nat) : Int) = impl_ways.l0 k B R ((B.length + 1 : Nat) : Int) cs' fs' ((at_ : Int) - 1) ∧ Sw B R C at_ cs' fs' := by
  induction d with
  | zero =>
    intro k m cs fs hm hI hc hp
    have e : m = min R (B.length + 1 - at_) := hm
    subst e
    exact iw_end hC hR hl ha hB k cs fs hI hc hp
  | succ d ih =>
    intro k m cs fs hm hI hc hp
    have hb : at_ + 1 + m ≤ B.length + 1 ∧ m < R ∧ m + 1 + d = min R (B.length + 1 - at_) := by clear hI hc hp ih; omega
    obtain ⟨hb1, hb2, hb3⟩ := hb
    clear hm
    have hlen := hI.1
    have cb := C_sum hC hl (at_ + 1) (m + 1) (by clear hI hc hp ih; omega)
    have step : rd cs (at_ : Int) + C (at_ + 1 + m) = wsum C (at_ + 1) (m + 1) := by rw [hc, wsum]
    have rec1 := fun cs' fs' => ih k (m + 1) cs' fs' hb3
    obtain ⟨s1, hs1⟩ : ∃ s, wsum C (at_ + 1) (m + 1) = s := ⟨_, rfl⟩
    rw [hs1] at cb step rec1
    have gt := hI.2.1 (at_ + 1 + m) (Nat.le_add_right _ _) hb1
    have e2 : wrap64 (((at_ + 1 + m : Nat) : Int) + 1) = ((at_ + 1 + (m + 1) : Nat) : Int) := by rw [w64 (by clear hI hc hp ih rec1 gt step cb hs1; omega)]; rfl
    have hmn : ((at_ + 1 + m : Nat) : Int) ≤ mn ((at_ : Int) + (R : Int)) ((B.length + 1 : Nat) : Int) := by rw [mn_eq]; clear hI hc hp ih rec1 gt step cb hs1; omega
    have i1 : (0 : Int) ≤ ((at_ + 1 + m : Nat) : Int) := Int.natCast_nonneg _
    have i2 : ((at_ + 1 + m : Nat) : Int) < (fs.length : Int) := by clear hI hc hp ih rec1 gt step cb hs1; omega
    have i3 : ((at_ + 1 + m : Nat) : Int) < (cs.length : Int) := by clear hI hc hp ih rec1 gt step cb hs1; omega
    have i4 : (0 : Int) ≤ (at_ : Int) := Int.natCast_nonneg _
    have i5 : (at_ : Int) < (cs.length : Int) := by clear hI hc hp ih rec1 gt step cb hs1; omega
    have i6 : (at_ : Int) < (fs.length : Int) := by clear hI hc hp ih rec1 gt step cb hs1; omega
    have l1 : at_ < cs.length := by clear hI hc hp ih rec1 gt step cb hs1; omega
    have l2 : at_ < fs.length := by clear hI hc hp ih rec1 gt step cb hs1; omega
    have wr : wrap64 ((at_ : Int) + (R : Int)) = (at_ : Int) + (R : Int) := w64 (by clear hI hc hp ih rec1 gt step cb hs1; omega)
    have ws : wrap64 s1 = s1 := w64 (by clear hI hc hp ih rec1 gt step hs1; omega)
    rw [show k + (d + 1) + 1 = (k + d + 1) + 1 from rfl, impl_ways.l1, wr, if_pos hmn, if_pos i1, if_pos i2]
    by_cases g : rd fs ((at_ + 1 + m : Nat) : Int) < 0
    · rw [if_pos g, e2]
      have z : C (at_ + 1 + m) = 0 := by
        by_cases y : C (at_ + 1 + m) = 0
        · exact y
        · exfalso
          have p : 0 < C (at_ + 1 + m) := by have := (C_nn hC hl (at_ + 1 + m) hb1).1; clear hI hc hp ih rec1 gt step cb hs1; omega
          by_cases q : at_ + 1 + m = B.length + 1
          · have := gt.2.2.1 p q; unfold nf at this; clear hI hc hp ih rec1 gt step cb hs1; omega
          · have := (gt.2.2.2 p (by clear hI hc hp ih rec1 gt step cb hs1; omega)).1; unfold nf at this; clear hI hc hp ih rec1 gt step cb hs1; omega
      exact rec1 cs fs hI (by rw [← step, z, Int.add_zero]) (PF_skip hp z)
    · have p : 0 < C (at_ + 1 + m) := by
        have a := (C_nn hC hl (at_ + 1 + m) hb1).1
        by_cases y : C (at_ + 1 + m) = 0
        · exfalso; have := gt.2.1 y; unfold nf at this; clear hI hc hp ih rec1 gt step cb hs1; omega
        · clear hI hc hp ih rec1 gt step cb hs1; omega
      have hv : 0 ≤ val B.length (nf fs) (at_ + 1 + m) ∧ val B.length (nf fs) (at_ + 1 + m) ≤ (B.length : Int) - at_ := by
        unfold val
        by_cases q : at_ + 1 + m = B.length + 1
        · rw [if_pos q]; clear hI hc hp ih rec1 gt step cb hs1; omega
        · rw [if_neg q]
          have a := gt.2.2.2 p (by clear hI hc hp ih rec1 gt step cb hs1; omega)
          have a1 := a.1; have a2 := a.2.1
          clear hI hc hp ih rec1 gt step cb hs1 a; omega
      have f1 : rd (cs.set at_ s1) (at_ : Int) = s1 := rd_set_eq _ _ _ l1
      have f2 : rd (fs.set at_ (val B.length (nf fs) (at_ + 1 + m))) (at_ : Int) = val B.length (nf fs) (at_ + 1 + m) := rd_set_eq _ _ _ l2
      have new : (nf fs at_ < 0 ∨ val B.length (nf fs) (at_ + 1 + m) < nf fs at_) → ∃ cs' fs', impl_ways.l1 (k + d + 1) B R ((B.length + 1 : Nat) : Int) (cs.set at_ s1) (fs.set at_ (val B.length (nf fs) (at_ + 1 + m))) at_ ((at_ + 1 + (m + 1) : Nat) : Int) = impl_ways.l0 k B R ((B.length + 1 : Nat) : Int) cs' fs' ((at_ : Int) - 1) ∧ Sw B R C at_ cs' fs' := by
        intro w
        refine rec1 _ _ (Iw_set2 (Iw_set1 hI s1) _) f1 ?_
        have q := PF_congr (fun s hs => nf_set (X := fs) (val B.length (nf fs) (at_ + 1 + m)) hs) (PF_take hp p hv.1 hv.2 w)
        exact Eq.mpr (congrArg (PF C B.length (nf (fs.set at_ (val B.length (nf fs) (at_ + 1 + m)))) at_ (m + 1)) f2) q
      have old : ¬ nf fs at_ < 0 → ¬ val B.length (nf fs) (at_ + 1 + m) < nf fs at_ → ∃ cs' fs', impl_ways.l1 (k + d + 1) B R ((B.length + 1 : Nat) : Int) (cs.set at_ s1) fs at_ ((at_ + 1 + (m + 1) : Nat) : Int) = impl_ways.l0 k B R ((B.length + 1 : Nat) : Int) cs' fs' ((at_ : Int) - 1) ∧ Sw B R C at_ cs' fs' :=
        fun w1 w2 => rec1 _ _ (Iw_set1 hI s1) f1 (PF_keep hp p w1 w2)
      rw [if_neg g]
      by_cases q : ((at_ + 1 + m : Nat) : Int) = ((B.length + 1 : Nat) : Int)
      · have qn : at_ + 1 + m = B.length + 1 := Int.ofNat.inj q
        have v0 : val B.length (nf fs) (at_ + 1 + m) = 0 := by unfold val; rw [if_pos qn]
        rw [v0] at new old
        rw [if_pos q, if_pos i4, if_pos i5, if_pos i3, gt.1, step, ws, Int.toNat_natCast, Option.bind_some, if_pos i6, e2]
        by_cases u : rd fs (at_ : Int) < 0
        · rw [if_pos u]; exact new (.inl u)
        · rw [if_neg u]
          by_cases u2 : 0 < rd fs (at_ : Int)
          · rw [if_pos u2]; exact new (.inr u2)
          · rw [if_neg u2]; exact old u u2
      · have qn : ¬ at_ + 1 + m = B.length + 1 := fun y => q (congrArg Int.ofNat y)
        have v0 : wrap64 (rd fs ((at_ + 1 + m : Nat) : Int) + 1) = val B.length (nf fs) (at_ + 1 + m) := by
          have v1 : val B.length (nf fs) (at_ + 1 + m) = rd fs ((at_ + 1 + m : Nat) : Int) + 1 := by unfold val; rw [if_neg qn]; rfl
          rw [v1] at hv ⊢
          exact w64 (by clear hI hc hp ih rec1 gt step cb hs1 new old; omega)
        rw [if_neg q, if_pos i4, if_pos i5, if_pos i3, gt.1, step, ws, Int.toNat_natCast, Option.bind_some, if_pos i6, e2, v0]
        by_cases u : rd fs (at_ : Int) < 0
        · rw [if_pos u]; exact new (.inl u)
        · rw [if_neg u]
          by_cases u2 : val B.length (nf fs) (at_ + 1 + m) < rd fs (at_ : Int)
          · rw [if_pos u2]; exact new (.inr u2)
          · rw [if_neg u2]; exact old u u2
theorem iw_l0 {B : List Int} {R : Nat} {C : Nat → Int} (hC : isC B R C) (hR : R ≤ 20) (hl : B.length ≤ 20) (hB : ents B 100) (m : Nat) : ∀ (k : Nat) (cs fs : List Int), m ≤ B.length + 1 → Sw B R C m cs fs →
    ∃ cs' fs', impl_ways.l0 (k + m * 50 + 1) B R ((B.length + 1 : Nat) : Int) cs fs ((m : Int) - 1) = some (cs', fs') ∧ Sw B R C 0 cs' fs' := by
  induction m with
  | zero =>
    intro k cs fs hm hX
    exact ⟨cs, fs, by rw [impl_ways.l0, if_neg (by omega)], hX⟩
  | succ m ih =>
    intro k cs fs hm hX
    obtain ⟨a, b, c⟩ := hX
    have cm := c m (Nat.lt_succ_self m)
    obtain ⟨cs', fs', y1, y2⟩ := iw_l1 hC hR hl (at_ := m) (Nat.le_of_succ_le_succ hm) hB (min R (B.length + 1 - m)) (k + m * 50 + 49 - min R (B.length + 1 - m)) 0 cs fs (Nat.zero_add _) ⟨a, fun t h1 h2 => b t h1 h2, fun t h => c t (Nat.lt_succ_of_lt h)⟩ cm.1 (.inl ⟨cm.2, fun t h1 h2 => absurd h2 (Nat.not_le_of_gt h1)⟩)
    clear a b c cm
    rw [show k + m * 50 + 49 - min R (B.length + 1 - m) + min R (B.length + 1 - m) + 1 = k + m * 50 + 50 by omega] at y1
    rw [show k + (m + 1) * 50 + 1 = (k + m * 50 + 50) + 1 by omega, impl_ways.l0, if_pos (by omega), show ((m + 1 : Nat) : Int) - 1 = (m : Int) by omega, w64 (by omega), show (m : Int) + 1 = ((m + 1 + 0 : Nat) : Int) by omega, y1]
    rw [show k + m * 50 + 49 - min R (B.length + 1 - m) = (k + (48 - min R (B.length + 1 - m))) + m * 50 + 1 by omega]
    exact ih _ cs' fs' (by omega) y2
theorem iw_ex {k : Nat} (hk : 1200 < k) {B : List Int} {R : Nat} {C : Nat → Int} (hC : isC B R C) (hR : R ≤ 20) (hl : B.length ≤ 20) (hB : ents B 100) : ∃ cs fs, impl_ways.f k B R = some (cs, fs) ∧ Sw B R C 0 cs fs := by
  have e2 : wrap64 ((B.length : Int) + 1) = ((B.length + 1 : Nat) : Int) := by rw [w64 (by omega)]; omega
  have e1 : wrap64 (((B.length + 1 : Nat) : Int) + 1) = ((B.length + 2 : Nat) : Int) := by rw [w64 (by omega)]; omega
  have e3 : wrap64 (((B.length + 1 : Nat) : Int) - 1) = ((B.length + 1 : Nat) : Int) - 1 := w64 (by omega)
  unfold impl_ways.f slices_Repeat_int_int.f
  rw [e2, e1, e3, if_pos (by omega), if_pos (by omega), Int.toNat_natCast, Option.bind_some, if_pos ⟨rfl, by omega, by omega⟩, Option.bind_some, if_pos (by omega), if_pos (by rw [List.length_replicate]; omega), if_pos (by rw [List.length_replicate]; omega), Int.toNat_natCast]
  have r1 : rd [(-1 : Int)] 0 = -1 := rfl
  rw [r1]
  have rep1 : ∀ t : Nat, t < B.length + 2 → rd (List.replicate (B.length + 2) (-1 : Int)) (t : Int) = -1 := fun t ht => by rw [rd_get (by simpa using ht)]; simp
  obtain ⟨cs, fs, y1, y2⟩ := iw_l0 hC hR hl hB (B.length + 1) (k - (B.length + 1) * 50 - 1) ((List.replicate (B.length + 2) (0 : Int)).set (B.length + 1) 1) ((List.replicate (B.length + 2) (-1 : Int)).set (B.length + 1) 0) (Nat.le_refl _) ⟨⟨by simp, by simp⟩, fun t a b => by
    have et : t = B.length + 1 := Nat.le_antisymm b a
    subst et
    have f0 : nf ((List.replicate (B.length + 2) (-1 : Int)).set (B.length + 1) 0) (B.length + 1) = 0 := rd_set_eq _ _ _ (by simp)
    exact ⟨(rd_set_eq _ _ _ (by simp)).trans hC.1.symm, fun z => by rw [hC.1] at z; exact absurd z (by decide), fun _ _ => f0, fun _ z => by omega⟩, fun t a => ⟨by rw [rd_set_ne _ _ _ _ (by omega), rd_rep], by rw [rd_set_ne _ _ _ _ (by omega)]; exact rep1 t (by omega)⟩⟩
  rw [show k - (B.length + 1) * 50 - 1 + (B.length + 1) * 50 + 1 = k by omega] at y1
  exact ⟨cs, fs, y1, y2⟩

end Go.Proofs.Ytalnjklklpnnhaa.Pure
