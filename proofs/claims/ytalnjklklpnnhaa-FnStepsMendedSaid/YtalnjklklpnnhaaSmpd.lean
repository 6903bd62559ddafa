/- What the walk asks of mended bears is true (StepsMended). No condition but that the bears are few. -/
import Derived.Test.YtalnjklklpnnhaaSmpc
namespace Go.Proofs.Ytalnjklklpnnhaa.Pure
open Go.RowKit Go.Proofs.Ytalnjklklpnnhaa.PFnStepsMended Go.Proofs.YtalnjklklpnnhaaW.PrintWords Go.Proofs.YtalnjklklpnnhaaW.PrintLast Go.Proofs.YtalnjklklpnnhaaW.PrintMore
set_option linter.unusedVariables false
set_option linter.unusedSimpArgs false

theorem wsum_off {f g : Nat → Int} {i : Nat} (m : Nat) (h : ∀ j, j < m → f j = g (i + j)) : wsum f 0 m = wsum g i m := by
  induction m with
  | zero => rfl
  | succ m ih => unfold wsum; rw [ih (fun j hj => h j (by omega)), Nat.zero_add, h m (by omega)]
theorem wSum_l0 {l : List Int} (hl : l.length ≤ 21) (he : ents l 2000) (d : Nat) : ∀ (k j : Nat), j + d = l.length → d < k → laws_wSum.l0 k (wsum (nf l) 0 j) l l.length j = some (wsum (nf l) 0 l.length) := by
  induction d with
  | zero =>
    intro k j hd hk
    obtain ⟨k, rfl⟩ : ∃ m, k = m + 1 := ⟨k - 1, by omega⟩
    rw [laws_wSum.l0, if_neg (by omega), show j = l.length by omega]
  | succ d ih =>
    intro k j hd hk
    obtain ⟨k, rfl⟩ : ∃ m, k = m + 1 := ⟨k - 1, by omega⟩
    have b := wsum_bd (f := nf l) (i := 0) (M := 2000) j (fun j' h1 h2 => he j' (by omega))
    have m1 := nat_mul_bd (x := 2000) (j := j) (by omega) (by omega) (by omega)
    have e1 := he j (by omega)
    rw [laws_wSum.l0, if_pos (by omega), if_pos (by omega), if_pos (by omega), w64 (by omega), w64 (by omega)]
    have e : wsum (nf l) 0 j + rd l (j : Int) = wsum (nf l) 0 (j + 1) := by rw [wsum, Nat.zero_add]; rfl
    rw [e]; exact ih k (j + 1) (by omega) (by omega)
theorem wSum_eq {k : Nat} {l : List Int} (hl : l.length ≤ 21) (he : ents l 2000) (hk : 30 < k) : laws_wSum.f k l = some (wsum (nf l) 0 l.length) := by
  unfold laws_wSum.f
  have := wSum_l0 hl he l.length k 0 (by omega) (by omega)
  exact this
theorem ms_l0 {B M : List Int} (hB : ents B 100) (hM : ents M 2000) (hl : M.length = B.length) (hn : B.length ≤ 20) (d : Nat) : ∀ (k j : Nat), j + d = M.length → d < k →
    spec_MendSum.l0 k B (wsum (nf M) 0 j - wsum (nf B) 0 j) M M.length j = some (wsum (nf M) 0 M.length - wsum (nf B) 0 M.length, true) := by
  induction d with
  | zero =>
    intro k j hd hk
    obtain ⟨k, rfl⟩ : ∃ m, k = m + 1 := ⟨k - 1, by omega⟩
    rw [spec_MendSum.l0, if_neg (by omega), show j = M.length by omega]
  | succ d ih =>
    intro k j hd hk
    obtain ⟨k, rfl⟩ : ∃ m, k = m + 1 := ⟨k - 1, by omega⟩
    have b := wsum_bd (f := nf M) (i := 0) (M := 2000) j (fun j' h1 h2 => hM j' (by omega))
    have b2 := wsum_bd (f := nf B) (i := 0) (M := 100) j (fun j' h1 h2 => hB j' (by omega))
    have m1 := nat_mul_bd (x := 2000) (j := j) (by omega) (by omega) (by omega)
    have m2 := nat_mul_bd (x := 100) (j := j) (by omega) (by omega) (by omega)
    have e1 := hM j (by omega)
    have e2 := hB j (by omega)
    rw [spec_MendSum.l0, if_pos (by omega), if_pos (by omega), if_pos (by omega), if_pos (by omega), w64 (x := rd M (j : Int) - rd B (j : Int)) (by omega), w64 (by omega), w64 (by omega)]
    have e : wsum (nf M) 0 j - wsum (nf B) 0 j + (rd M (j : Int) - rd B (j : Int)) = wsum (nf M) 0 (j + 1) - wsum (nf B) 0 (j + 1) := by rw [wsum, wsum, Nat.zero_add]; unfold nf; omega
    rw [e]; exact ih k (j + 1) (by omega) (by omega)
theorem mend_core {k : Nat} (hk : 600 < k) {B : List Int} {r : Nat} {C : Int} (hB : ents B 100) (hn : B.length ≤ 20) (h1 : 1 ≤ r) (h2 : r ≤ B.length) (hC : 0 ≤ C ∧ C ≤ 1000) :
    ∃ Y, impl_lateMend.f k B r C = some (Y, sm (nf B) r C (B.length + 1 - r)) ∧ spec_weMend.f k B r C = some Y ∧ rep Y (md (nf B) r C (B.length + 1 - r)) B.length := by
  have hd : (B.length + 1 - r) * (r + 2) ≤ 20 * 22 := Nat.mul_le_mul (by omega) (by omega)
  obtain ⟨k', hk'⟩ : ∃ k', k = k' + (B.length + 1 - r) * (r + 2) + 1 := ⟨k - (B.length + 1 - r) * (r + 2) - 1, by omega⟩
  have r0 : rep B (md (nf B) r C 0) B.length := ⟨rfl, fun _ _ => rfl⟩
  obtain ⟨Y, p1, p2⟩ := lm_l0 (f := nf B) (fun q hq => hB q hq) hC h1 h2 hn (B.length + 1 - r) k' 0 B (by omega) r0
  obtain ⟨Z, q1, q2⟩ := wm_l0 (f := nf B) (fun q hq => hB q hq) hC h1 h2 hn (B.length + 1 - r) k' 0 B (by omega) r0
  obtain rfl := rep_uniq p2 q2
  rw [← hk'] at p1 q1
  rw [Nat.zero_add] at q1
  refine ⟨Y, ?_, ?_, p2⟩
  · unfold impl_lateMend.f slices_Clone_int_int.f
    rw [if_pos (by omega), Option.bind_some]; exact p1
  · unfold spec_weMend.f spec_l1Own.f
    rw [Option.bind_some, if_pos (by simp; omega), List.nil_append, Option.bind_some]; exact q1
theorem MendSum_eq {k : Nat} (hk : 600 < k) {B : List Int} {r : Nat} {C : Int} (h : eB B (r : Int) = true) (hC : 0 ≤ C ∧ C ≤ 1000) : impl_MendSum.f k B r C = some (sm (nf B) r C (B.length + 1 - r), true) := by
  have a := eB_true h; have b := rB_true a.1; have c := gB_true b.1
  obtain ⟨Y, p1, -⟩ := mend_core hk (C := C) c.2.2 c.2.1 (show 1 ≤ r by omega) (show r ≤ B.length by omega) hC
  unfold impl_MendSum.f
  rw [hasParts_eq, Option.bind_some, h, if_pos rfl, within_eq, Option.bind_some, if_pos (decide_eq_true hC), p1]; rfl
theorem Men1_void (k : Nat) (B : List Int) (R C : Int) : Men1 k B R C [] false 0 0 0 (fun _ => 0) (fun _ => 0) := by constructor <;> (intro z; exact absurd z (by decide))
theorem mend_ex {k : Nat} (hk : 1000 < k) (B : List Int) (R C : Int) : ∃ M ok S mo ls pr ws, Men1 k B R C M ok S mo ls pr ws ∧ impl_LateMend.f k B R C = some (M, ok) ∧ spec_LateMend.f k B R C = some (M, ok) ∧ impl_MendSum.f k B R C = some (S, ok) ∧ spec_MendSum.f k B R C = some (S, ok) ∧ M.length ≤ 20 := by
  by_cases h : eB B R = true
  · by_cases hC : 0 ≤ C ∧ C ≤ 1000
    · have a := eB_true h; have b := rB_true a.1; have c := gB_true b.1
      obtain ⟨r, rfl⟩ := Int.eq_ofNat_of_zero_le (show 0 ≤ R by omega)
      have h1 : 1 ≤ r := by omega
      have h2 : r ≤ B.length := by omega
      obtain ⟨M, p1, p2, p3⟩ := mend_core (k := k) (by omega) (C := C) c.2.2 c.2.1 h1 h2 hC
      have hf : ∀ q, q < B.length → 0 ≤ nf B q ∧ nf B q ≤ 100 := fun q hq => c.2.2 q hq
      have hM := rep_ents hf hC (by omega : B.length + 1 - r + r ≤ B.length + 1) p3
      have ml := p3.1
      have hT : wsum (nf M) 0 B.length = wsum (nf B) 0 B.length + sm (nf B) r C (B.length + 1 - r) := by
        rw [rep_wsum p3 (by omega)]; exact md_total h1 _ _ (by omega)
      have e1 : impl_LateMend.f k B r C = some (M, true) := by
        unfold impl_LateMend.f
        rw [hasParts_eq, Option.bind_some, h, if_pos rfl, within_eq, Option.bind_some, if_pos (decide_eq_true hC), p1]; rfl
      have e2 : spec_LateMend.f k B r C = some (M, true) := by
        unfold spec_LateMend.f
        rw [weEnds_eq (by omega), Option.bind_some, h, if_pos rfl, weClimbs_eq, Option.bind_some, if_pos (decide_eq_true hC), p2]; rfl
      have e4 : spec_MendSum.f k B r C = some (sm (nf B) r C (B.length + 1 - r), true) := by
        have q := ms_l0 c.2.2 hM ml c.2.1 M.length (k - 1) 0 (by omega) (by omega)
        obtain ⟨k2, rfl⟩ : ∃ m, k = m + 1 := ⟨k - 1, by omega⟩
        unfold spec_MendSum.f
        rw [weEnds_eq (by omega), Option.bind_some, h, if_pos rfl, weClimbs_eq, Option.bind_some, decide_eq_true hC]
        have p2' : spec_weMend.f k2 B r C = some M := by
          obtain ⟨M', -, p2', p3'⟩ := mend_core (k := k2) (by omega) (C := C) c.2.2 c.2.1 h1 h2 hC
          rw [p2', rep_uniq p3' p3]
        rw [Bool.not_true, spec_MendSum.j0, if_neg (by decide), p2', Option.bind_some]
        rw [Nat.add_sub_cancel] at q
        rw [show wsum (nf M) 0 0 - wsum (nf B) 0 0 = 0 from rfl, ml, hT] at q
        rw [ml]
        refine q.trans ?_
        congr 2; omega
      obtain ⟨i0, hi0, hi1⟩ := mw_ex (nf B) r (B.length - r)
      have mo1 : ∀ i, i < B.length + 1 - r → mwB B r ≤ wsum (nf B) i r := fun i hi => mw_le (nf B) r (B.length - r) i (by omega)
      have low := sm_low (f := nf B) (c := C) h1 (show i0 < B.length + 1 - r by omega)
      have hw := wsum_bd (f := nf B) (i := i0) (M := 100) r (fun j g1 g2 => hf j (by omega))
      have m1 := nat_mul_bd (x := 100) (j := r) (by omega) (by omega) (by omega)
      have mw0 : mwB B r = wsum (nf B) i0 r := hi1.symm
      refine ⟨M, true, sm (nf B) r C (B.length + 1 - r), mwB B r, sm (nf B) r (C - 1) (B.length + 1 - r), fun i => wsum (nf M) 0 i.toNat - wsum (nf B) 0 i.toNat, fun i => wsum (nf M) i.toNat r, ?_, e1, e2, MendSum_eq (by omega) h hC, e4, by omega⟩
      exact
        { most := fun _ => MostWears_eq (by omega) h
          mlen := fun _ => ml
          rng := fun _ => ⟨by omega, by omega, by omega, hC.1, hC.2⟩
          none := fun _ => by
            constructor
            · intro z; rw [z] at low; omega
            · intro z; exact sm_zero h1 (fun i hi => Int.le_trans z (mo1 i hi))
          low := fun _ => by rw [mw0, w64 (by omega)]; exact low
          ge := fun _ i g1 g2 => by
            obtain ⟨j, rfl⟩ := Int.eq_ofNat_of_zero_le g1
            rw [p3.2 j (by omega)]; exact md_ge _ j
          pre := fun _ => by
            refine ⟨rfl, ?_, fun i g1 g2 => ?_⟩
            · show wsum (nf M) 0 (M.length : Int).toNat - wsum (nf B) 0 (M.length : Int).toNat = _
              rw [Int.toNat_natCast, ml, hT]; omega
            · obtain ⟨j, rfl⟩ := Int.eq_ofNat_of_zero_le g1
              have b1 := wsum_bd (f := nf M) (i := 0) (M := 2000) j (fun j' h1 h2 => hM j' (by omega))
              have b2 := wsum_bd (f := nf B) (i := 0) (M := 100) j (fun j' h1 h2 => hf j' (by omega))
              have m1 := nat_mul_bd (x := 2000) (j := j) (by omega) (by omega) (by omega)
              have m2 := nat_mul_bd (x := 100) (j := j) (by omega) (by omega) (by omega)
              have e1 := hM j (by omega)
              have e2 := c.2.2 j (by omega)
              (try dsimp only)
              rw [Int.toNat_natCast, show ((j : Int) + 1).toNat = j + 1 by omega, w64 (x := rd M (j : Int) - rd B (j : Int)) (by omega), w64 (by omega)]
              rw [wsum, wsum, Nat.zero_add]; unfold nf; omega
          win := fun _ i g1 g2 => by
            obtain ⟨j, rfl⟩ := Int.eq_ofNat_of_zero_le g1
            (try dsimp only)
            rw [show ((j : Int) + (r : Int)).toNat = j + r by omega, Int.toNat_natCast]
            have hj : j + r ≤ M.length := by omega
            have cl := cut_length hj
            have ec : ents ((M.take (j + r)).drop j) 2000 := fun q hq => by rw [cut_rd hj (by omega)]; exact hM _ (by omega)
            rw [wSum_eq (by omega) ec (by omega), cl, wsum_off (g := nf M) (i := j) r (fun q hq => by unfold nf; exact cut_rd hj hq)]
            refine ⟨rfl, ?_⟩
            rw [rep_wsum p3 (by omega)]; exact md_win h1 _ j (by omega)
          less := fun _ g => by
            rw [w64 (by omega)]
            exact ⟨MendSum_eq (by omega) h (by omega), sm_mono h1 (by omega) _⟩ }
    · refine ⟨[], false, 0, 0, 0, fun _ => 0, fun _ => 0, Men1_void k B R C, ?_, ?_, ?_, ?_, by simp⟩
      · unfold impl_LateMend.f; rw [hasParts_eq, Option.bind_some, h, if_pos rfl, within_eq, Option.bind_some, if_neg (by simpa using hC)]
      · unfold spec_LateMend.f; rw [weEnds_eq (by omega), Option.bind_some, h, if_pos rfl, weClimbs_eq, Option.bind_some, if_neg (by simpa using hC)]
      · unfold impl_MendSum.f; rw [hasParts_eq, Option.bind_some, h, if_pos rfl, within_eq, Option.bind_some, if_neg (by simpa using hC)]
      · obtain ⟨k2, rfl⟩ : ∃ m, k = m + 1 := ⟨k - 1, by omega⟩
        unfold spec_MendSum.f; rw [weEnds_eq (by omega), Option.bind_some, h, if_pos rfl, weClimbs_eq, Option.bind_some, decide_eq_false hC, Bool.not_false, spec_MendSum.j0, if_pos rfl]
  · have h' : eB B R = false := by simpa using h
    refine ⟨[], false, 0, 0, 0, fun _ => 0, fun _ => 0, Men1_void k B R C, ?_, ?_, ?_, ?_, by simp⟩
    · unfold impl_LateMend.f; rw [hasParts_eq, Option.bind_some, h', if_neg (by decide)]
    · unfold spec_LateMend.f; rw [weEnds_eq (by omega), Option.bind_some, h', if_neg (by decide)]
    · unfold impl_MendSum.f; rw [hasParts_eq, Option.bind_some, h', if_neg (by decide)]
    · obtain ⟨k2, rfl⟩ : ∃ m, k = m + 1 := ⟨k - 1, by omega⟩
      unfold spec_MendSum.f; rw [weEnds_eq (by omega), Option.bind_some, h', if_neg (by decide), spec_MendSum.j0, if_pos rfl]

end Go.Proofs.Ytalnjklklpnnhaa.Pure
