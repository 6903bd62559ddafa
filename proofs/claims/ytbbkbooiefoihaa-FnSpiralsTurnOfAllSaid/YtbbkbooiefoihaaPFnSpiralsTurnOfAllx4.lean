-- Written by this session's own program wip/myprint.py. Not trusted: Lean checks it.
import Derived.Test.YtbbkbooiefoihaaPFnSpiralsTurnOfAllx0
import Derived.Test.YtbbkbooiefoihaaPFnSpiralsTurnOfAllx1
import Derived.Test.YtbbkbooiefoihaaPFnSpiralsTurnOfAllx2
namespace Go.Proofs.Ytbbkbooiefoihaa.PFnSpiralsTurnOfAll
open Go.RowKit Go.Proofs.YtbbkbooiefoihaaW.PrintWords Go.Proofs.YtbbkbooiefoihaaW.PrintLast Go.Proofs.YtbbkbooiefoihaaW.PrintMore
attribute [local go_sem] max2_int min2_int max_two min_two   -- for this text's walks alone
set_option linter.unusedVariables false
set_option linter.unusedSimpArgs false

/-! ### laws_wSame: function 48 -/
def laws_wSame.l0 : Nat → List Int → List Int → Int → Int → Option (Bool)
  | 0, _, _, _, _ => none
  | k + 1, x0, x1, x12, x13 => if x13 < x12 then (if 0 ≤ x13 then (if x13 < (x0.length : Int) then (if x13 < (x1.length : Int) then (if (rd x0 x13) = (rd x1 x13) then (laws_wSame.l0 k x0 x1 x12 (wrap64 (x13 + 1))) else (some false)) else (none)) else (none)) else (none)) else (some true)
def laws_wSame.f (k : Nat) (l0 : List Int) (l1 : List Int) : Option (Bool) := if (l0.length : Int) = (l1.length : Int) then (laws_wSame.l0 k l0 l1 (l0.length : Int) 0) else (some false)
set_option maxHeartbeats 8000000 in
set_option maxRecDepth 100000 in
theorem laws_wSame.calls (k : Nat) (A0 : Option Addr) (c0 : Nat) (l0 : List Int) (A1 : Option Addr) (c1 : Nat) (l1 : List Int) (r : Bool) (w : World) (hr0 : Kd.C (Kd.int .i64) w A0 l0.length l0) (hc0 : l0.length ≤ c0) (hr1 : Kd.C (Kd.int .i64) w A1 l1.length l1) (hc1 : l1.length ≤ c1) (h : laws_wSame.f k l0 l1 = some r) :
    Calls Try.prog 48 #[.slice A0 l0.length c0, .slice A1 l1.length c1] w fun e w' => e = .returned (.bool r) ∧ Drawn0 w w' := by
  have HR0 := Aside0.mk hr0
  have HC0 := Aside0.mk hc0
  clear hr0 hc0
  have HR1 := Aside0.mk hr1
  have HC1 := Aside0.mk hc1
  clear hr1 hc1
  have H : (if (l0.length : Int) = (l1.length : Int) then (laws_wSame.l0 k l0 l1 (l0.length : Int) 0) else (some false)) = some r := h
  clear h
  by_cases c3 : (l0.length : Int) = (l1.length : Int)
  · rw [if_pos c3] at H
    have c3b0 : ((l0.length : Int) == (l1.length : Int)) = true := beq_iff_eq.mpr c3
    have c3b1 : ((l0.length : Int) != (l1.length : Int)) = false := bne_eq_false_iff_eq.mpr c3
    have c3b2 : (l0.length == l1.length) = true := by first | simpa using c3 | (simp at c3 ⊢; omega)
    clear c3
    have H' := Aside0.mk H
    clear H
    go_enter Try.func48, Try.ntmps48
    go_wp2
    repeat (go_quiet (fail); try go_wp2)
    go_loopg [13] k (fun kq v13 w' => ∃ (x13_1 : Int), v13 = .int .i64 x13_1 ∧ Aside0 (laws_wSame.l0 kq l0 l1 (l0.length : Int) x13_1 = some r) ∧ Aside0 (kq ≤ k) ∧ Drawn0 w w')
    case atStart => exact ⟨(0), (by first | rfl | (simp; done) | (simp [*]; done)), H', ⟨Nat.le_refl _⟩, by repeat (first | exact Drawn0.refl _ | apply Drawn0.step)⟩
    case round =>
      clear H'
      try clear c1
      try clear p2
      try clear c3
      try clear c3b0
      try clear c3b1
      try clear c3b2
      obtain ⟨x13_1, rfl, HA, HK1, ⟨m1, rfl⟩⟩ := hrel
      cases gk with
      | zero => exact absurd HA.out (by simp [laws_wSame.l0])
      | succ k1 =>
        have H := HA.out
        clear HA
        simp only [laws_wSame.l0] at H
        by_cases c4 : x13_1 < (l0.length : Int)
        · rw [if_pos c4] at H
          have c4b0 : decide (x13_1 < (l0.length : Int)) = true := decide_eq_true c4
          clear c4
          by_cases c5 : 0 ≤ x13_1
          · rw [if_pos c5] at H
            have c5b0 : decide (0 ≤ x13_1) = true := decide_eq_true c5
            clear c5
            by_cases c6 : x13_1 < (l0.length : Int)
            · rw [if_pos c6] at H
              have c6b0 : decide (x13_1 < (l0.length : Int)) = true := decide_eq_true c6
              clear c6
              by_cases c7 : x13_1 < (l1.length : Int)
              · rw [if_pos c7] at H
                have c7b0 : decide (x13_1 < (l1.length : Int)) = true := decide_eq_true c7
                clear c7
                by_cases c8 : (rd l0 x13_1) = (rd l1 x13_1)
                · rw [if_pos c8] at H
                  have c8b0 : ((rd l0 x13_1) == (rd l1 x13_1)) = true := beq_iff_eq.mpr c8
                  have c8b1 : ((rd l0 x13_1) != (rd l1 x13_1)) = false := bne_eq_false_iff_eq.mpr c8
                  clear c8
                  have H' := Aside0.mk H
                  clear H
                  have p197 : 0 ≤ (x13_1 : Int) := of_decide_eq_true (by first | (with_reducible assumption) | assumption)
                  have q197 : x13_1 < (l0.length : Int) := of_decide_eq_true (by first | (with_reducible assumption) | assumption)
                  obtain ⟨ad197, e197, hx197_0⟩ := Kd.at_int HR0.out x13_1 p197 q197
                  cases e197
                  replace p197 := eq_true p197
                  replace q197 := eq_true q197
                  have p198 : 0 ≤ (x13_1 : Int) := of_decide_eq_true (by first | (with_reducible assumption) | assumption)
                  have q198 : x13_1 < (l1.length : Int) := of_decide_eq_true (by first | (with_reducible assumption) | assumption)
                  obtain ⟨ad198, e198, hx198_0⟩ := Kd.at_int HR1.out x13_1 p198 q198
                  cases e198
                  replace p198 := eq_true p198
                  replace q198 := eq_true q198
                  go_wp2
                  repeat (go_quiet (fail); try go_wp2)
                  go_roundg k1
                  case measure => have := HK1.out; omega
                  case rel => exact ⟨(wrap64 (x13_1 + 1)), (by first | rfl | (simp; done) | (simp [*]; done)), H', ⟨by have := HK1.out; omega⟩, by repeat (first | exact Drawn0.refl _ | apply Drawn0.step)⟩
                · rw [if_neg c8] at H
                  have c8b0 : ((rd l0 x13_1) == (rd l1 x13_1)) = false := beq_eq_false_iff_ne.mpr c8
                  have c8b1 : ((rd l0 x13_1) != (rd l1 x13_1)) = true := bne_iff_ne.mpr c8
                  obtain rfl := Option.some.inj H
                  have p197 : 0 ≤ (x13_1 : Int) := of_decide_eq_true (by first | (with_reducible assumption) | assumption)
                  have q197 : x13_1 < (l0.length : Int) := of_decide_eq_true (by first | (with_reducible assumption) | assumption)
                  obtain ⟨ad197, e197, hx197_0⟩ := Kd.at_int HR0.out x13_1 p197 q197
                  cases e197
                  replace p197 := eq_true p197
                  replace q197 := eq_true q197
                  have p198 : 0 ≤ (x13_1 : Int) := of_decide_eq_true (by first | (with_reducible assumption) | assumption)
                  have q198 : x13_1 < (l1.length : Int) := of_decide_eq_true (by first | (with_reducible assumption) | assumption)
                  obtain ⟨ad198, e198, hx198_0⟩ := Kd.at_int HR1.out x13_1 p198 q198
                  cases e198
                  replace p198 := eq_true p198
                  replace q198 := eq_true q198
                  go_wp2
                  repeat (go_quiet (fail); try go_wp2)
                  go_ret
                  exact ⟨by first | rfl | (simp; done) | (simp [*]; done), by repeat (first | exact Drawn0.refl _ | apply Drawn0.step)⟩
              · rw [if_neg c7] at H
                exact absurd H (by simp)
            · rw [if_neg c6] at H
              exact absurd H (by simp)
          · rw [if_neg c5] at H
            exact absurd H (by simp)
        · rw [if_neg c4] at H
          have c4b0 : decide (x13_1 < (l0.length : Int)) = false := decide_eq_false c4
          clear c4
          obtain rfl := Option.some.inj H
          go_wp2
          repeat (go_quiet (fail); try go_wp2)
          go_ret
          exact ⟨by first | rfl | (simp; done) | (simp [*]; done), by repeat (first | exact Drawn0.refl _ | apply Drawn0.step)⟩
  · rw [if_neg c3] at H
    have c3b0 : ((l0.length : Int) == (l1.length : Int)) = false := beq_eq_false_iff_ne.mpr c3
    have c3b1 : ((l0.length : Int) != (l1.length : Int)) = true := bne_iff_ne.mpr c3
    have c3b2 : (l0.length == l1.length) = false := by first | simpa using c3 | (simp at c3 ⊢; omega)
    obtain rfl := Option.some.inj H
    go_enter Try.func48, Try.ntmps48
    go_wp2
    repeat (go_quiet (fail); try go_wp2)
    go_ret
    exact ⟨by first | rfl | (simp; done) | (simp [*]; done), by repeat (first | exact Drawn0.refl _ | apply Drawn0.step)⟩

/-! ### spec_IsSpiral: function 50 -/
def spec_IsSpiral.f (a0_0 : Int) (a0_1 : Int) (a0_2 : Int) : Option (Bool) := (spec_spGood.f a0_0 a0_1 a0_2).bind fun t200 => (some t200)
set_option maxHeartbeats 8000000 in
set_option maxRecDepth 100000 in
theorem spec_IsSpiral.calls (a0_0 : Int) (a0_1 : Int) (a0_2 : Int) (r : Bool) (w : World) (h : spec_IsSpiral.f a0_0 a0_1 a0_2 = some r) :
    Calls Try.prog 50 #[.agg #[.int .i64 a0_0, .int .i64 a0_1, .int .i64 a0_2]] w fun e w' => e = .returned (.bool r) ∧ Below w.heap.size w w' := by
  have hu44 := Try.underlying44
  have HB := Aside0.mk (Below.refl w.heap.size w)
  have H : ((spec_spGood.f a0_0 a0_1 a0_2).bind fun t200 => (some t200)) = some r := h
  clear h
  replace H := Option.bind_eq_some_iff.mp H
  obtain ⟨t200, A20, H⟩ := H
  replace H : (some t200) = some r := H
  have A2 := Aside0.mk A20
  clear A20
  obtain rfl := Option.some.inj H
  go_enter Try.func50, Try.ntmps50
  go_wp2_with (first | ((with_reducible refine gate_dst (N := 1) rfl ?_); refine box_event ?hg (N := 1) ?hd (cs := #[.int .i64 a0_0, .int .i64 a0_1, .int .i64 a0_2]) (t := 44) ?hr ?_; (case hd => rfl); (case hg => rfl); (case hr => first | (go_simp; done) | (go_simp; rfl)); intro gb199 hg w3 hbox hb; have n0_ := Aside0.mk (below_step (by repeat (first | (with_reducible first | exact HB.out | apply below_alloc | apply pw_below_drewN | apply below_drew1) | exact HB.out)) hb); have n1_ := Aside0.mk (hbox); have n2_ := Aside0.mk ((by rw [hg]; exact (below_size (by repeat (first | (with_reducible first | exact HB.out | apply below_alloc | apply pw_below_drewN | apply below_drew1) | exact HB.out))) : w.heap.size ≤ gb199)); have n3_ := Aside0.mk ((by rw [hg]; exact (below_size (by repeat (first | (with_reducible first | exact HB.out | apply below_alloc | apply pw_below_drewN | apply below_drew1) | exact HB.out))) : w.heap.size ≤ gb199)); clear HB; have HB := n0_; have BK199 := n1_; have GW199 := n2_; have GE199 := n3_; clear n0_ n1_ n2_ n3_; clear hb hbox hg; have hcz4_0 : w3.cell? ⟨gb199, 0, none⟩ = some (.int .i64 a0_0) := (blk_cell BK199.out 0).trans rfl; have hcz4_1 : w3.cell? ⟨gb199, 1, none⟩ = some (.int .i64 a0_1) := (blk_cell BK199.out 1).trans rfl; have hcz4_2 : w3.cell? ⟨gb199, 2, none⟩ = some (.int .i64 a0_2) := (blk_cell BK199.out 2).trans rfl; have hfz4_0 := blk_frozen BK199.out 0; have hfz4_1 := blk_frozen BK199.out 1; have hfz4_2 := blk_frozen BK199.out 2) | ((with_reducible refine gate_callee (f := 98) rfl ?_); refine goesL_ (some 4) rfl rfl Try.func98 (by kernel_rfl) rfl #[.agg #[.int .i64 a0_0, .int .i64 a0_1, .int .i64 a0_2]] rfl (by (try simp only [List.map_toArray, List.map_cons, List.map_nil]); first | done | rfl | (simp only [List.length_drop, List.length_take]; rfl)) ?_; (with_reducible refine (spec_spGood.calls a0_0 a0_1 a0_2 t200 _ A2.out).mono ?_); rintro e w5 ⟨rfl, hb⟩; refine ⟨_, rfl, ?_⟩; have n0_ := Aside0.mk (blk_below (g := gb199) (o := .cells #[.int .i64 a0_0, .int .i64 a0_1, .int .i64 a0_2] 44 (0, 0)) (by (with_reducible repeat (first | refine blk_drewN ?_ _ | refine blk_drew ?_ | refine blk_alloc ?_ _)); exact BK199.out) hb); have n1_ := Aside0.mk (below_step (by repeat (first | (with_reducible first | exact HB.out | apply below_alloc | apply pw_below_drewN | apply below_drew1 | refine below_set ?_ GE199.out) | exact HB.out)) hb); clear BK199; clear HB; have BK199 := n0_; have HB := n1_; clear n0_ n1_; (try clear hb); (try clear hb2); (try clear hk); (try clear hi)))
  go_ret
  exact ⟨by first | rfl | (simp [errW_none, errW_some] <;> rfl) | (simp [*, errW_none, errW_some] <;> rfl), by repeat (first | (with_reducible first | exact HB.out | apply below_alloc | apply pw_below_drewN | apply below_drew1 | refine below_set ?_ GE199.out) | exact HB.out)⟩

/-! ### laws_wIs: function 51 -/
mutual
def laws_wIs.j0 : Nat → Int → Int → Bool → Option (Bool)
  | 0, _, _, _ => none
  | k + 1, x0, x1, x25 => if x25 = true then (some false) else (laws_wIs.l0 k x0 x1)
def laws_wIs.l0 : Nat → Int → Int → Option (Bool)
  | 0, _, _ => none
  | k + 1, x9, x10 => if x10 > 0 then (if x10 = 0 then (none) else (laws_wIs.l0 k x10 (Int.tmod x9 x10))) else (some (x9 == 1))
end
def laws_wIs.f (k : Nat) (a0 : Int) (a1 : Int) (a2 : Int) (a3 : Int) : Option (Bool) := if a0 < 0 then (laws_wIs.j0 k a0 a1 true) else (if a1 < 1 then (laws_wIs.j0 k a0 a1 true) else (laws_wIs.j0 k a0 a1 ((wrap64 (a0 * a3)) != (wrap64 (a2 * a1)))))
set_option maxHeartbeats 8000000 in
set_option maxRecDepth 100000 in
theorem laws_wIs.calls (k : Nat) (a0 : Int) (a1 : Int) (a2 : Int) (a3 : Int) (r : Bool) (w : World) (h : laws_wIs.f k a0 a1 a2 a3 = some r) :
    Calls Try.prog 51 #[.int .i64 a0, .int .i64 a1, .int .i64 a2, .int .i64 a3] w fun e w' => e = .returned (.bool r) ∧ Drawn0 w w' := by
  have H : (if a0 < 0 then (laws_wIs.j0 k a0 a1 true) else (if a1 < 1 then (laws_wIs.j0 k a0 a1 true) else (laws_wIs.j0 k a0 a1 ((wrap64 (a0 * a3)) != (wrap64 (a2 * a1)))))) = some r := h
  clear h
  have HC5 := Aside0.mk H
  clear H
  go_enter Try.func51, Try.ntmps51
  go_upto_region 1 with (fail)
  repeat (go_quiet (fail); go_upto_region 1 with (fail))
  go_cut [25] (fun v25 wc => ∃ (kq : Nat) (x25_4 : Bool), v25 = .bool x25_4 ∧ Aside0 (laws_wIs.j0 kq a0 a1 x25_4 = some r) ∧ Aside0 (kq ≤ k) ∧ Drawn0 w wc)
  case first =>
    have H := HC5.out
    clear HC5
    by_cases c6 : a0 < 0
    · rw [if_pos c6] at H
      have c6b0 : decide (a0 < 0) = true := decide_eq_true c6
      clear c6
      (first | rw [c6b0] | (simp only [i64_w, i32_w]; rw [c6b0]) | skip)
      have H' := Aside0.mk H
      clear H
      go_wp2
      repeat (go_quiet (fail); try go_wp2)
      go_meet
      case rel => exact ⟨_, (true), (by first | rfl | (simp; done) | (simp [*]; done)), H', ⟨by first | omega | exact Nat.le_refl _⟩, by repeat (first | exact Drawn0.refl _ | apply Drawn0.step)⟩
    · rw [if_neg c6] at H
      have c6b0 : decide (a0 < 0) = false := decide_eq_false c6
      clear c6
      (first | rw [c6b0] | (simp only [i64_w, i32_w]; rw [c6b0]) | skip)
      by_cases c7 : a1 < 1
      · rw [if_pos c7] at H
        have c7b0 : decide (a1 < 1) = true := decide_eq_true c7
        clear c7
        have H' := Aside0.mk H
        clear H
        go_wp2
        repeat (go_quiet (fail); try go_wp2)
        go_meet
        case rel => exact ⟨_, (true), (by first | rfl | (simp; done) | (simp [*]; done)), H', ⟨by first | omega | exact Nat.le_refl _⟩, by repeat (first | exact Drawn0.refl _ | apply Drawn0.step)⟩
      · rw [if_neg c7] at H
        have c7b0 : decide (a1 < 1) = false := decide_eq_false c7
        clear c7
        have H' := Aside0.mk H
        clear H
        go_wp2
        repeat (go_quiet (fail); try go_wp2)
        go_meet
        case rel => exact ⟨_, (((wrap64 (a0 * a3)) != (wrap64 (a2 * a1)))), (by first | rfl | (simp; done) | (simp [*]; done)), H', ⟨by first | omega | exact Nat.le_refl _⟩, by repeat (first | exact Drawn0.refl _ | apply Drawn0.step)⟩
  case rest =>
    clear HC5
    try clear p2
    try clear c5
    try clear c6
    try clear c6b0
    try clear p6
    try clear c7
    try clear c7b0
    obtain ⟨kq, x25_4, rfl, HA, HJ4, ⟨mc4, rfl⟩⟩ := hcut
    cases kq with
    | zero => exact absurd HA.out (by simp [laws_wIs.j0])
    | succ kj4 =>
      have H := HA.out
      clear HA
      simp only [laws_wIs.j0] at H
      by_cases c8 : x25_4 = true
      · subst c8
        have H1 : (some false) = some r := by rw [if_pos rfl] at H; exact H
        clear H
        have H := H1
        clear H1
        obtain rfl := Option.some.inj H
        go_wp2
        repeat (go_quiet (fail); try go_wp2)
        go_ret
        exact ⟨by first | rfl | (simp; done) | (simp [*]; done), by repeat (first | exact Drawn0.refl _ | apply Drawn0.step)⟩
      · replace c8 := Bool.eq_false_iff.mpr c8
        subst c8
        have H1 : (laws_wIs.l0 kj4 a0 a1) = some r := by rw [if_neg (show ¬ (false = true) by decide)] at H; exact H
        clear H
        have H := H1
        clear H1
        have H' := Aside0.mk H
        clear H
        go_wp2
        repeat (go_quiet (fail); try go_wp2)
        go_loopg [9, 10] kj4 (fun kq v9 v10 w' => ∃ (x9_2 : Int) (x10_2 : Int), v9 = .int .i64 x9_2 ∧ v10 = .int .i64 x10_2 ∧ Aside0 (laws_wIs.l0 kq x9_2 x10_2 = some r) ∧ Aside0 (kq ≤ kj4) ∧ Drawn0 w w')
        case atStart => exact ⟨(a0), (a1), (by first | rfl | (simp; done) | (simp [*]; done)), (by first | rfl | (simp; done) | (simp [*]; done)), H', ⟨Nat.le_refl _⟩, by repeat (first | exact Drawn0.refl _ | apply Drawn0.step)⟩
        case round =>
          clear H'
          try clear p2
          try clear c4
          try clear c5
          try clear c6
          try clear c6b0
          try clear p6
          try clear c7
          try clear c7b0
          try clear c8
          try clear p2
          try clear p6
          obtain ⟨x9_2, x10_2, rfl, rfl, HA, HK2, ⟨m2, rfl⟩⟩ := hrel
          cases gk with
          | zero => exact absurd HA.out (by simp [laws_wIs.l0])
          | succ k2 =>
            have H := HA.out
            clear HA
            simp only [laws_wIs.l0] at H
            by_cases c9 : x10_2 > 0
            · rw [if_pos c9] at H
              have c9b0 : decide (0 < x10_2) = true := decide_eq_true c9
              clear c9
              by_cases c10 : x10_2 = 0
              · rw [if_pos c10] at H
                exact absurd H (by simp)
              · rw [if_neg c10] at H
                have c10b0 : (x10_2 == 0) = false := beq_eq_false_iff_ne.mpr c10
                have c10b1 : (x10_2 != 0) = true := bne_iff_ne.mpr c10
                have H' := Aside0.mk H
                clear H
                go_wp2
                repeat (go_quiet (fail); try go_wp2)
                go_roundg k2
                case measure => have := HJ4.out; have := HK2.out; omega
                case rel => exact ⟨(x10_2), (Int.tmod x9_2 x10_2), (by first | rfl | (simp; done) | (simp [*]; done)), (by first | rfl | (simp; done) | (simp [*]; done)), H', ⟨by have := HJ4.out; have := HK2.out; omega⟩, by repeat (first | exact Drawn0.refl _ | apply Drawn0.step)⟩
            · rw [if_neg c9] at H
              have c9b0 : decide (0 < x10_2) = false := decide_eq_false c9
              clear c9
              obtain rfl := Option.some.inj H
              go_wp2
              repeat (go_quiet (fail); try go_wp2)
              go_ret
              exact ⟨by first | rfl | (simp; done) | (simp [*]; done), by repeat (first | exact Drawn0.refl _ | apply Drawn0.step)⟩

/-! ### laws_wSum: function 52 -/
def laws_wSum.l0 : Nat → Int → List Int → Int → Int → Option (Int)
  | 0, _, _, _, _ => none
  | k + 1, x3, x6, x7, x8 => if x8 < x7 then (if 0 ≤ x8 then (if x8 < (x6.length : Int) then (laws_wSum.l0 k (wrap64 (x3 + (rd x6 x8))) x6 x7 (wrap64 (x8 + 1))) else (none)) else (none)) else (some x3)
def laws_wSum.f (k : Nat) (l0 : List Int) : Option (Int) := laws_wSum.l0 k 0 l0 (l0.length : Int) 0
set_option maxHeartbeats 8000000 in
set_option maxRecDepth 100000 in
theorem laws_wSum.calls (k : Nat) (A0 : Option Addr) (c0 : Nat) (l0 : List Int) (r : Int) (w : World) (hr0 : Kd.C (Kd.int .i64) w A0 l0.length l0) (hc0 : l0.length ≤ c0) (h : laws_wSum.f k l0 = some r) :
    Calls Try.prog 52 #[.slice A0 l0.length c0] w fun e w' => e = .returned (.int .i64 r) ∧ Drawn0 w w' := by
  have HR0 := Aside0.mk hr0
  have HC0 := Aside0.mk hc0
  clear hr0 hc0
  have H : (laws_wSum.l0 k 0 l0 (l0.length : Int) 0) = some r := h
  clear h
  have H' := Aside0.mk H
  clear H
  go_enter Try.func52, Try.ntmps52
  go_wp2
  go_loopg [3, 8] k (fun kq v3 v8 w' => ∃ (x3_1 : Int) (x8_1 : Int), v3 = .int .i64 x3_1 ∧ v8 = .int .i64 x8_1 ∧ Aside0 (laws_wSum.l0 kq x3_1 l0 (l0.length : Int) x8_1 = some r) ∧ Aside0 (kq ≤ k) ∧ Drawn0 w w')
  case atStart => exact ⟨(0), (0), (by first | rfl | (simp; done) | (simp [*]; done)), (by first | rfl | (simp; done) | (simp [*]; done)), H', ⟨Nat.le_refl _⟩, by repeat (first | exact Drawn0.refl _ | apply Drawn0.step)⟩
  case round =>
    clear H'
    obtain ⟨x3_1, x8_1, rfl, rfl, HA, HK1, ⟨m1, rfl⟩⟩ := hrel
    cases gk with
    | zero => exact absurd HA.out (by simp [laws_wSum.l0])
    | succ k1 =>
      have H := HA.out
      clear HA
      simp only [laws_wSum.l0] at H
      by_cases c2 : x8_1 < (l0.length : Int)
      · rw [if_pos c2] at H
        have c2b0 : decide (x8_1 < (l0.length : Int)) = true := decide_eq_true c2
        clear c2
        by_cases c3 : 0 ≤ x8_1
        · rw [if_pos c3] at H
          have c3b0 : decide (0 ≤ x8_1) = true := decide_eq_true c3
          clear c3
          by_cases c4 : x8_1 < (l0.length : Int)
          · rw [if_pos c4] at H
            have c4b0 : decide (x8_1 < (l0.length : Int)) = true := decide_eq_true c4
            clear c4
            have H' := Aside0.mk H
            clear H
            have p201 : 0 ≤ (x8_1 : Int) := of_decide_eq_true (by first | (with_reducible assumption) | assumption)
            have q201 : x8_1 < (l0.length : Int) := of_decide_eq_true (by first | (with_reducible assumption) | assumption)
            obtain ⟨ad201, e201, hx201_0⟩ := Kd.at_int HR0.out x8_1 p201 q201
            cases e201
            replace p201 := eq_true p201
            replace q201 := eq_true q201
            go_wp2
            go_roundg k1
            case measure => have := HK1.out; omega
            case rel => exact ⟨(wrap64 (x3_1 + (rd l0 x8_1))), (wrap64 (x8_1 + 1)), (by first | rfl | (simp; done) | (simp [*]; done)), (by first | rfl | (simp; done) | (simp [*]; done)), H', ⟨by have := HK1.out; omega⟩, by repeat (first | exact Drawn0.refl _ | apply Drawn0.step)⟩
          · rw [if_neg c4] at H
            exact absurd H (by simp)
        · rw [if_neg c3] at H
          exact absurd H (by simp)
      · rw [if_neg c2] at H
        have c2b0 : decide (x8_1 < (l0.length : Int)) = false := decide_eq_false c2
        clear c2
        obtain rfl := Option.some.inj H
        go_wp2
        go_ret
        exact ⟨by first | rfl | (simp; done) | (simp [*]; done), by repeat (first | exact Drawn0.refl _ | apply Drawn0.step)⟩

/-! ### impl_StepsAtSide: function 53 -/
/-! ### strings.Index and strings.Contains where what is sought is one byte -/
set_option maxHeartbeats 1000000 in
set_option maxRecDepth 100000 in
theorem sIndexByte (s : ByteArray) (c : Int) (w : World) :
    Calls Try.prog 115 #[.string s, .int .u8 c] w fun e w' => e = .returned (.int .i64 (Lib.indexByte s.data.toList c.toNat.toUInt8)) ∧ w' = w := by
  go_enter Try.func115, Try.ntmps115
  go_wp2
  rw [run_callFunc_extern Try.func119 (by kernel_rfl) (by kernel_rfl) (by kernel_rfl) (e := Extern.BytealgIndexByte.indexByte) (by kernel_rfl), Lib.run_indexByteString]
  simp only [Result.andThen]
  rw [Oper.upon_value]
  go_wp2
  go_ret
  exact ⟨rfl, rfl⟩
set_option maxHeartbeats 2000000 in
set_option maxRecDepth 100000 in
theorem sIndexLite (s : ByteArray) (c : UInt8) (w : World) :
    Calls Try.prog 112 #[.string s, .string ⟨#[c]⟩] w fun e w' => e = .returned (.int .i64 (Lib.indexByte s.data.toList c)) ∧ w' = w := by
  go_enter Try.func112, Try.ntmps112
  go_wp2_with (go_at_call 115; refine (sIndexByte _ _ _).mono ?_; rintro e w' ⟨rfl, rfl⟩)
  · have h : ([c] == s.toList) = true := by assumption
    go_ret
    refine ⟨?_, rfl⟩
    have e : s.data.toList = [c] := by rw [← Lib.toList_data]; exact (beq_iff_eq.1 h).symm
    rw [e]
    simp [Lib.indexByte]
  · go_ret
    exact ⟨rfl, rfl⟩
set_option maxRecDepth 100000 in
set_option maxHeartbeats 1000000 in
theorem sIndex1 (s : ByteArray) (c : UInt8) (w : World) :
    Calls Try.prog 101 #[.string s, .string ⟨#[c]⟩] w fun e w' => e = .returned (.int .i64 (Lib.indexByte s.data.toList c)) ∧ w' = w := by
  go_enter Try.func101, Try.ntmps101
  go_wp2_with (go_at_call 112; refine (sIndexLite _ _ _).mono ?_; rintro e w' ⟨rfl, rfl⟩)
  go_ret
  exact ⟨rfl, rfl⟩
theorem sIndex (s t : ByteArray) (c : UInt8) (ht : t = ⟨#[c]⟩) (w : World) :
    Calls Try.prog 101 #[.string s, .string t] w fun e w' => e = .returned (.int .i64 (Lib.indexByte s.data.toList c)) ∧ w' = w := by
  subst ht
  exact sIndex1 s c w
set_option maxRecDepth 100000 in
set_option maxHeartbeats 1000000 in
theorem sContains1 (s : ByteArray) (c : UInt8) (w : World) :
    Calls Try.prog 99 #[.string s, .string ⟨#[c]⟩] w fun e w' => e = .returned (.bool (decide (0 ≤ Lib.indexByte s.data.toList c))) ∧ w' = w := by
  go_enter Try.func99, Try.ntmps99
  go_wp2_with (go_at_call 101; refine (sIndex1 _ _ _).mono ?_; rintro e w' ⟨rfl, rfl⟩)
  go_ret
  exact ⟨rfl, rfl⟩
theorem sContains (s t : ByteArray) (c : UInt8) (ht : t = ⟨#[c]⟩) (b : Bool) (hb : decide (0 ≤ Lib.indexByte s.data.toList c) = b) (w : World) :
    Calls Try.prog 99 #[.string s, .string t] w fun e w' => e = .returned (.bool b) ∧ w' = w := by
  subst hb
  subst ht
  exact sContains1 s c w
set_option maxHeartbeats 8000000 in
set_option maxRecDepth 100000 in
set_option maxRecDepth 100000 in
theorem spThose100 (q : Int → Option Bool) (c0_ c1_ : Value) (k : Nat) (a0_0 a0_1 a0_2 : Int) (r : List Int) (w : World)
    (hp0 : ∀ (n : Int) (b : Bool) (W : World), q n = some b → Below w.heap.size w W → Calls Try.prog 100 #[.int .i64 n, c0_, c1_] W fun e w' => e = .returned (.bool b) ∧ Below W.heap.size W w')
    (h : thoseW q k a0_0 1 [] = some r) :
    Calls Try.prog 91 #[.agg #[.int .i64 a0_0, .int .i64 a0_1, .int .i64 a0_2], .func (.func 100) #[] #[c0_, c1_]] w fun e w' => ∃ v0_ : Value, e = .returned (v0_) ∧ Kd.R (Kd.int .i64) 3 w' w.heap.size (fun _ => True) v0_ r ∧ Below w.heap.size w w' := by
  have hu := Try.underlying44
  have HP := Aside0.mk hp0
  have HB := Aside0.mk (Below.refl w.heap.size w)
  clear hp0
  obtain ⟨y135, hy135⟩ : ∃ y_ : List Int, y_ = (([] : List Int)) := ⟨_, rfl⟩
  rw [← hy135] at h
  have H' := Aside0.mk h
  have Ny135 := Aside0.mk hy135
  clear h hy135
  go_enter Try.func91, Try.ntmps91
  go_wp2_with (first | ((with_reducible refine gate_dst (N := 2) rfl ?_); refine box_event ?hg (N := 2) ?hd (cs := #[.int .i64 a0_0, .int .i64 a0_1, .int .i64 a0_2]) (t := 44) ?hr ?_; (case hd => rfl); (case hg => rfl); (case hr => first | (go_simp; done) | (go_simp; rfl)); intro gb1 hg w5 hbox hb; have n0_ := Aside0.mk (below_step (by repeat (first | (with_reducible first | exact HB.out | apply below_alloc | apply pw_below_drewN | apply below_drew1) | exact HB.out)) hb); have n1_ := Aside0.mk (hbox); have n2_ := Aside0.mk ((by rw [hg]; exact (below_size (by repeat (first | (with_reducible first | exact HB.out | apply below_alloc | apply pw_below_drewN | apply below_drew1) | exact HB.out))) : w.heap.size ≤ gb1)); clear HB; have HB := n0_; have BK1 := n1_; have GE1 := n2_; clear n0_ n1_ n2_; clear hb hbox hg) | ((with_reducible refine gate_dst (N := 7) rfl ?_); refine Kd.R_lit (Kd.int .i64) _ 3 ?hg (N := 7) ?hd (xs := ([] : List Int)) (inner := []) (ok := fun _ => True) (okp := fun _ => True) ?hr ?hp (fun _ hk => hk) trivial (Below.refl _ _) (Nat.le_refl _) (by simp) ?_; (case hd => rfl); (case hg => rfl); (case hr => first | (go_simp; done) | (go_simp; rfl)); (case hp => exact (Reps.none _ _)); intro v136 w3 ho4 hb hg_ hnew_; clear hg_ hnew_; (first | rw [← Ny135.out] at ho4 | (simp only [Int.reduceToNat] at ho4; rw [← Ny135.out] at ho4)); have n0_ := Aside0.mk (Kd.R_lower ho4 (below_size (by repeat (first | (with_reducible first | exact HB.out | apply below_alloc | apply pw_below_drewN | apply below_drew1) | exact HB.out)))); have n1_ := Aside0.mk (below_step (by repeat (first | (with_reducible first | exact HB.out | apply below_alloc | apply pw_below_drewN | apply below_drew1) | exact HB.out)) hb); have n2_ := Aside0.mk (blk_below (g := gb1) (o := .cells #[.int .i64 a0_0, .int .i64 a0_1, .int .i64 a0_2] 44 (0, 0)) (by (with_reducible repeat (first | refine blk_drewN ?_ _ | refine blk_drew ?_ | refine blk_alloc ?_ _)); exact BK1.out) hb); clear HB; clear BK1; have HO137 := n0_; have HB := n1_; have BK1 := n2_; clear n0_ n1_ n2_; clear hb ho4))
  go_loopg [5, 6] k (fun kq v5 v6 w' => ∃ (x5_1 : List Int) (x6_1 : Int), v6 = .int .i64 x6_1 ∧ Aside0 (thoseW q kq a0_0 x6_1 x5_1 = some r) ∧ Aside0 (kq ≤ k) ∧ Aside0 (Kd.R (Kd.int .i64) 3 w' w.heap.size (fun _ => True) v5 x5_1) ∧ Aside0 (w'.heap[gb1]? = some (.cells #[.int .i64 a0_0, .int .i64 a0_1, .int .i64 a0_2] 44 (0, 0))) ∧ Aside0 (Below w.heap.size w w'))
  case atStart => exact ⟨(y135), (1), (by first | rfl | (simp; done) | (simp [*]; done)), H', ⟨Nat.le_refl _⟩, ⟨by (with_reducible repeat (first | apply Kd.R_alloc | apply Kd.R_drewN | apply Kd.R_drew)); exact HO137.out⟩, ⟨by (with_reducible repeat (first | refine blk_drewN ?_ _ | refine blk_drew ?_ | refine blk_alloc ?_ _)); exact BK1.out⟩, ⟨by repeat (first | (with_reducible first | exact HB.out | apply below_alloc | apply pw_below_drewN | apply below_drew1) | exact HB.out)⟩⟩
  case round =>
    clear H'
    obtain ⟨x5_1, x6_1, rfl, HA, HK1, HO_5, BK1, HB⟩ := hrel
    cases gk with
    | zero => exact absurd HA.out (by simp [thoseW])
    | succ k1 =>
      have H := HA.out
      clear HA
      simp only [thoseW] at H
      have hcz_0 : wr.cell? ⟨gb1, 0, none⟩ = some (.int .i64 a0_0) := (blk_cell BK1.out 0).trans rfl
      have hfz_0 := blk_frozen BK1.out 0
      by_cases c5 : x6_1 ≤ a0_0
      · rw [if_pos c5] at H
        have c5b0 : decide (x6_1 ≤ a0_0) = true := decide_eq_true c5
        clear c5
        obtain ⟨b, hb0, H⟩ := Option.bind_eq_some_iff.mp H
        have hcall := fun (W : World) (hW : Below wr.heap.size wr W) => HP.out x6_1 b W hb0 (below_step HB.out hW)
        clear hb0
        have HC := Aside0.mk hcall
        clear hcall
        cases b with
        | true =>
          rw [if_pos rfl] at H
          by_cases c8 : x5_1.length < 17592186044416
          · rw [if_pos c8] at H
            have LMc8 := Aside0.mk c8
            clear c8
            obtain ⟨y139, hy139⟩ : ∃ y_ : List Int, y_ = (x5_1 ++ [x6_1]) := ⟨_, rfl⟩
            rw [← hy139] at H
            have Ny139 := Aside0.mk hy139
            clear hy139
            have H' := Aside0.mk H
            clear H
            go_wp2_with (first | (go_at_call 100; refine (HC.out _ (Below.refl _ _)).mono ?_; rintro e w9 ⟨rfl, hb⟩; have n0_ := Aside0.mk (Kd.R_below (by (with_reducible repeat (first | apply Kd.R_alloc | apply Kd.R_drewN | apply Kd.R_drew)); exact HO_5.out) hb); have n1_ := Aside0.mk (below_step (by repeat (first | (with_reducible first | exact HB.out | apply below_alloc | apply pw_below_drewN | apply below_drew1) | exact HB.out)) hb); have n2_ := Aside0.mk (blk_below (g := gb1) (o := .cells #[.int .i64 a0_0, .int .i64 a0_1, .int .i64 a0_2] 44 (0, 0)) BK1.out hb); clear HO_5; clear HB; clear BK1; have HO_5 := n0_; have HB := n1_; have BK1 := n2_; clear n0_ n1_ n2_; clear hb) | ((with_reducible refine gate_builtin (b := .append) (xs := #[.tmp 17, .tmp 19]) rfl ?_); at_builtin; refine Kd.R_append (Kd.int .i64) (w0 := w) w.heap.size rfl (.tmp 17) (.tmp 19) 22 3 (.int .i64 0) 8 rfl Try.underlying22 info3 rfl (by decide) (by omega) u5 x5_1 x6_1 [.int .i64 x6_1] (fun _ => True) (fun _ => False) rfl rfl ?aP (fun _ hk => hk.elim) ?aF ?aO ?aB ?aS ?aL ?_; (case aP => exact rfl); (case aB => exact (by repeat (first | (with_reducible first | exact HB.out | apply below_alloc | apply pw_below_drewN | apply below_drew1) | exact HB.out))); (case aF => exact (fun _ _ => trivial)); (case aO => exact (by (with_reducible repeat (first | apply Kd.R_alloc | apply Kd.R_drewN | apply Kd.R_drew)); exact HO_5.out)); (case aS => exact (below_size (by repeat (first | (with_reducible first | exact HB.out | apply below_alloc | apply pw_below_drewN | apply below_drew1) | exact HB.out)))); (case aL => have := LMc8.out; omega); intro v140 w10 ho hb hg hat; rw [← Ny139.out] at ho; have n0_ := Aside0.mk (hb); have n1_ := Aside0.mk (ho); have n2_ := Aside0.mk (blk_grown (o := .cells #[.int .i64 a0_0, .int .i64 a0_1, .int .i64 a0_2] 44 (0, 0)) (by (with_reducible repeat (first | refine blk_drewN ?_ _ | refine blk_drew ?_ | refine blk_alloc ?_ _)); exact BK1.out) hg (Kd.R_ne HO_5.out BK1.out (by decide))); clear HB; clear HO_5; clear BK1; have HB := n0_; have HO141 := n1_; have BK1 := n2_; clear n0_ n1_ n2_; clear ho hb hg hat))
            go_roundg k1
            case measure => have := HK1.out; omega
            case rel => exact ⟨(y139), (wrap64 (x6_1 + 1)), (by first | rfl | (simp; done) | (simp [*]; done)), H', ⟨by have := HK1.out; omega⟩, ⟨by (with_reducible repeat (first | apply Kd.R_alloc | apply Kd.R_drewN | apply Kd.R_drew)); exact HO141.out⟩, ⟨by (with_reducible repeat (first | refine blk_drewN ?_ _ | refine blk_drew ?_ | refine blk_alloc ?_ _)); exact BK1.out⟩, ⟨by repeat (first | (with_reducible first | exact HB.out | apply below_alloc | apply pw_below_drewN | apply below_drew1) | exact HB.out)⟩⟩
          · rw [if_neg c8] at H
            exact absurd H (by simp)
        | false =>
          rw [if_neg (by decide)] at H
          have H' := Aside0.mk H
          clear H
          go_wp2_with (first | (go_at_call 100; refine (HC.out _ (Below.refl _ _)).mono ?_; rintro e w9 ⟨rfl, hb⟩; have n0_ := Aside0.mk (Kd.R_below (by (with_reducible repeat (first | apply Kd.R_alloc | apply Kd.R_drewN | apply Kd.R_drew)); exact HO_5.out) hb); have n1_ := Aside0.mk (below_step (by repeat (first | (with_reducible first | exact HB.out | apply below_alloc | apply pw_below_drewN | apply below_drew1) | exact HB.out)) hb); have n2_ := Aside0.mk (blk_below (g := gb1) (o := .cells #[.int .i64 a0_0, .int .i64 a0_1, .int .i64 a0_2] 44 (0, 0)) BK1.out hb); clear HO_5; clear HB; clear BK1; have HO_5 := n0_; have HB := n1_; have BK1 := n2_; clear n0_ n1_ n2_; clear hb))
          go_roundg k1
          case measure => have := HK1.out; omega
          case rel => exact ⟨(x5_1), (wrap64 (x6_1 + 1)), (by first | rfl | (simp; done) | (simp [*]; done)), H', ⟨by have := HK1.out; omega⟩, ⟨by (with_reducible repeat (first | apply Kd.R_alloc | apply Kd.R_drewN | apply Kd.R_drew)); exact HO_5.out⟩, ⟨by (with_reducible repeat (first | refine blk_drewN ?_ _ | refine blk_drew ?_ | refine blk_alloc ?_ _)); exact BK1.out⟩, ⟨by repeat (first | (with_reducible first | exact HB.out | apply below_alloc | apply pw_below_drewN | apply below_drew1) | exact HB.out)⟩⟩
      · rw [if_neg c5] at H
        have c5b0 : decide (x6_1 ≤ a0_0) = false := decide_eq_false c5
        clear c5
        obtain rfl := Option.some.inj H
        go_wp2
        go_ret
        exact ⟨_, by first | rfl | (simp [errW_none, errW_some] <;> rfl) | (simp [*, errW_none, errW_some] <;> rfl), by (with_reducible repeat (first | apply Kd.R_alloc | apply Kd.R_drewN | apply Kd.R_drew)); exact HO_5.out, by repeat (first | (with_reducible first | exact HB.out | apply below_alloc | apply pw_below_drewN | apply below_drew1) | exact HB.out)⟩
def nesw (c : UInt8) : Int := Lib.indexByte [110, 101, 115, 119] c
def impl_StepsAtSide.q (a0_0 a0_1 a0_2 : Int) (c : UInt8) (n : Int) : Option Bool := (impl_Spiral_side.f a0_0 a0_1 a0_2 n).bind fun x => some (x == nesw c)
set_option maxHeartbeats 2000000 in
set_option maxRecDepth 100000 in
theorem atSide1 (a0_0 a0_1 a0_2 : Int) (a1 : ByteArray) (c : UInt8) (n : Int) (b : Bool) (gs gq : Nat) (hc : a1 = ⟨#[c]⟩) (w : World) (hs : w.heap[gs]? = some (.cells #[.int .i64 a0_0, .int .i64 a0_1, .int .i64 a0_2] 44 (0, 0))) (hq : w.heap[gq]? = some (.cells #[.string a1] 9 (0, 0))) (h : impl_StepsAtSide.q a0_0 a0_1 a0_2 c n = some b) :
    Calls Try.prog 100 #[.int .i64 n, .pointer (some ⟨gs, 0, none⟩), .pointer (some ⟨gq, 0, none⟩)] w fun e w' => e = .returned (.bool b) ∧ Below w.heap.size w w' := by
  have hu := Try.underlying44
  have hp0 : w.cell? ⟨gq, 0, none⟩ = some (.string a1) := (blk_cell hq 0).trans rfl
  have hs0 : w.cell? ⟨gs, 0, none⟩ = some (.int .i64 a0_0) := (blk_cell hs 0).trans rfl
  have hs1 : w.cell? ⟨gs, 1, none⟩ = some (.int .i64 a0_1) := (blk_cell hs 1).trans rfl
  have hs2 : w.cell? ⟨gs, 2, none⟩ = some (.int .i64 a0_2) := (blk_cell hs 2).trans rfl
  have lp := blk_lt hq
  have ls := blk_lt hs
  clear hq hs
  unfold impl_StepsAtSide.q at h
  have HB0 := Aside0.mk (Below.refl w.heap.size w)
  have HCc := Aside0.mk hc
  clear hc
  obtain ⟨x, hx, h⟩ := Option.bind_eq_some_iff.mp h
  obtain rfl := Option.some.inj h
  clear h
  have HX := Aside0.mk hx
  clear hx
  go_enter Try.func100, Try.ntmps100
  go_wp2
  go_region_held3 (fun w' => (w'.cell? ⟨gq, 0, none⟩ = some (.string a1) ∧ w'.cell? ⟨gs, 0, none⟩ = some (.int .i64 a0_0) ∧ w'.cell? ⟨gs, 1, none⟩ = some (.int .i64 a0_1) ∧ w'.cell? ⟨gs, 2, none⟩ = some (.int .i64 a0_2)) ∧ Aside0 (Below w.heap.size w w'))
    (first | exact ⟨⟨by assumption, by assumption, by assumption, by assumption⟩, by assumption⟩ | exact ⟨⟨hp0, hs0, hs1, hs2⟩, ⟨below_drew1 HB0.out⟩⟩ | exact ⟨⟨pw_cell_below hb (by assumption), pw_cell_below hb (by assumption), pw_cell_below hb (by assumption), pw_cell_below hb (by assumption)⟩, ⟨below_step (Aside0.out (by assumption)) hb⟩⟩ | go_keep)
    (first | (go_at_call 96; refine (impl_Spiral_side.calls a0_0 a0_1 a0_2 n x _ HX.out).mono ?_; rintro e w1 ⟨rfl, hb⟩; (have hh := ‹(_ ∧ _ ∧ _ ∧ _) ∧ Aside0 (Below w.heap.size w _)›); have q0 := pw_cell_below hb hh.1.1; have q1 := pw_cell_below hb hh.1.2.1; have q2 := pw_cell_below hb hh.1.2.2.1; have q3 := pw_cell_below hb hh.1.2.2.2; have q4 := Aside0.mk (below_step hh.2.out hb); clear hh) | (go_at_call 101; refine (sIndex _ a1 c HCc.out _).mono ?_; rintro e w1 ⟨rfl, rfl⟩))
  have hh := (‹(_ ∧ _ ∧ _ ∧ _) ∧ Aside0 (Below w.heap.size w _)›).2
  go_wp2
  go_ret
  exact ⟨by first | rfl | (simp; done), hh.out⟩
def impl_StepsAtSide.f (k : Nat) (a0_0 a0_1 a0_2 : Int) (a1 : ByteArray) : Option (List Int × Bool) := (impl_IsSpiral.f a0_0 a0_1 a0_2).bind fun b0 => if b0 = true then (if a1.size = 1 then (if 0 ≤ nesw (a1.data.getD 0 0) then ((thoseW (impl_StepsAtSide.q a0_0 a0_1 a0_2 (a1.data.getD 0 0)) k a0_0 1 []).bind fun tt => some (tt, true)) else some ([], false)) else some ([], false)) else some ([], false)
theorem one_byte (s : ByteArray) (h : s.size = 1) : s = ⟨#[s.data.getD 0 0]⟩ := by
  obtain ⟨⟨l⟩⟩ := s
  match l, h with
  | [c], _ => rfl
set_option maxHeartbeats 8000000 in
set_option maxRecDepth 100000 in
theorem impl_StepsAtSide.calls (k : Nat) (a0_0 a0_1 a0_2 : Int) (a1 : ByteArray) (r1 : List Int) (r2 : Bool) (w : World) (h : impl_StepsAtSide.f k a0_0 a0_1 a0_2 a1 = some (r1, r2)) :
    Calls Try.prog 53 #[.agg #[.int .i64 a0_0, .int .i64 a0_1, .int .i64 a0_2], .string a1] w fun e w' => ∃ v0_ : Value, e = .returned (.tuple #[v0_, .bool r2]) ∧ Kd.R (Kd.int .i64) 3 w' w.heap.size (fun _ => True) v0_ r1 ∧ Below w.heap.size w w' := by
  have hu_ := Try.underlying44
  have HB := Aside0.mk (Below.refl w.heap.size w)
  unfold impl_StepsAtSide.f at h
  obtain ⟨b0, hraw, h⟩ := Option.bind_eq_some_iff.mp h
  have HA := Aside0.mk hraw
  clear hraw
  cases b0 with
  | true =>
    rw [if_pos rfl] at h
    by_cases c1 : a1.size = 1
    · rw [if_pos c1] at h
      have HCc := Aside0.mk (one_byte a1 c1)
      have c1b0 : ((a1.size : Int) == 1) = true := beq_iff_eq.mpr (by omega)
      have c1b1 : ((a1.size : Int) != 1) = false := by rw [bne, c1b0]; rfl
      have c1b2 : decide ((a1.size : Int) = 1) = true := decide_eq_true (by omega)
      have c1b3 : (a1.size : Int) = 1 := by omega
      clear c1
      by_cases c2 : 0 ≤ nesw (a1.data.getD 0 0)
      · rw [if_pos c2] at h
        have HCb : Aside0 (decide (0 ≤ Lib.indexByte (⟨#[110, 101, 115, 119]⟩ : ByteArray).data.toList (a1.data.getD 0 0)) = true) := ⟨decide_eq_true c2⟩
        clear c2
        obtain ⟨tt, hraw, h⟩ := Option.bind_eq_some_iff.mp h
        have HT := Aside0.mk hraw
        clear hraw
        simp only [Option.some.injEq, Prod.mk.injEq] at h
        obtain ⟨rfl, rfl⟩ := h
        go_enter Try.func53, Try.ntmps53
        go_wp2_with (first | ((with_reducible refine gate_dst (N := 2) rfl ?_); refine box_event ?hg (N := 2) ?hd (cs := #[.int .i64 a0_0, .int .i64 a0_1, .int .i64 a0_2]) (t := 44) ?hr ?_; (case hd => rfl); (case hg => rfl); (case hr => first | (go_simp; done) | (go_simp; rfl)); intro gbs hg w1_ hbox hb; have BKs := Aside0.mk hbox; have GWs := Aside0.mk ((by rw [hg]; exact (below_size (by repeat (first | (with_reducible first | exact HB.out | apply below_alloc | apply pw_below_drewN | apply below_drew1) | exact HB.out))) : w.heap.size ≤ gbs)); clear hbox hg; have mb_ := Aside0.mk (below_step (by repeat (first | (with_reducible first | exact HB.out | apply below_alloc | apply pw_below_drewN | apply below_drew1) | exact HB.out)) hb); clear HB; have HB := mb_; clear mb_; clear hb; have hcz2_0 : w1_.cell? ⟨gbs, 0, none⟩ = some (.int .i64 a0_0) := (blk_cell BKs.out 0).trans rfl; have hfz2_0 := blk_frozen BKs.out 0; have hcz2_1 : w1_.cell? ⟨gbs, 1, none⟩ = some (.int .i64 a0_1) := (blk_cell BKs.out 1).trans rfl; have hfz2_1 := blk_frozen BKs.out 1; have hcz2_2 : w1_.cell? ⟨gbs, 2, none⟩ = some (.int .i64 a0_2) := (blk_cell BKs.out 2).trans rfl; have hfz2_2 := blk_frozen BKs.out 2) | ((with_reducible refine gate_dst (N := 3) rfl ?_); refine box_event ?hg (N := 3) ?hd (cs := #[.string a1]) (t := 9) ?hr ?_; (case hd => rfl); (case hg => rfl); (case hr => first | (go_simp; done) | (go_simp; rfl)); intro gbq hg w3_ hbox hb; have BKq := Aside0.mk hbox; have GWq := Aside0.mk ((by rw [hg]; exact (below_size (by repeat (first | (with_reducible first | exact HB.out | apply below_alloc | apply pw_below_drewN | apply below_drew1) | exact HB.out))) : w.heap.size ≤ gbq)); clear hbox hg; have ms_ := Aside0.mk (blk_below (g := gbs) (o := .cells #[.int .i64 a0_0, .int .i64 a0_1, .int .i64 a0_2] 44 (0, 0)) (by (with_reducible repeat (first | refine blk_drewN ?_ _ | refine blk_drew ?_ | refine blk_alloc ?_ _)); exact BKs.out) hb); have mb_ := Aside0.mk (below_step (by repeat (first | (with_reducible first | exact HB.out | apply below_alloc | apply pw_below_drewN | apply below_drew1) | exact HB.out)) hb); clear HB; have HB := mb_; clear mb_; clear BKs; have BKs := ms_; clear ms_; clear hb; have hcz4_0 : w3_.cell? ⟨gbs, 0, none⟩ = some (.int .i64 a0_0) := (blk_cell BKs.out 0).trans rfl; have hfz4_0 := blk_frozen BKs.out 0; have hcz4_1 : w3_.cell? ⟨gbs, 1, none⟩ = some (.int .i64 a0_1) := (blk_cell BKs.out 1).trans rfl; have hfz4_1 := blk_frozen BKs.out 1; have hcz4_2 : w3_.cell? ⟨gbs, 2, none⟩ = some (.int .i64 a0_2) := (blk_cell BKs.out 2).trans rfl; have hfz4_2 := blk_frozen BKs.out 2; have hcz5_0 : w3_.cell? ⟨gbq, 0, none⟩ = some (.string a1) := (blk_cell BKq.out 0).trans rfl; have hfz5_0 := blk_frozen BKq.out 0) | ((with_reducible refine gate_callee (f := 49) rfl ?_); refine goesL_ (some 7) rfl rfl Try.func49 (by kernel_rfl) rfl #[.agg #[.int .i64 a0_0, .int .i64 a0_1, .int .i64 a0_2]] rfl (by (try simp only [List.map_toArray, List.map_cons, List.map_nil]); first | done | rfl | (simp only [List.length_drop, List.length_take]; rfl)) ?_; (with_reducible refine (impl_IsSpiral.calls a0_0 a0_1 a0_2 true _ HA.out).mono ?_); rintro e w6_ ⟨rfl, hb⟩; refine ⟨_, rfl, ?_⟩; have ms_ := Aside0.mk (blk_below (g := gbs) (o := .cells #[.int .i64 a0_0, .int .i64 a0_1, .int .i64 a0_2] 44 (0, 0)) (by (with_reducible repeat (first | refine blk_drewN ?_ _ | refine blk_drew ?_ | refine blk_alloc ?_ _)); exact BKs.out) hb); have mq_ := Aside0.mk (blk_below (g := gbq) (o := .cells #[.string a1] 9 (0, 0)) (by (with_reducible repeat (first | refine blk_drewN ?_ _ | refine blk_drew ?_ | refine blk_alloc ?_ _)); exact BKq.out) hb); have mb_ := Aside0.mk (below_step (by repeat (first | (with_reducible first | exact HB.out | apply below_alloc | apply pw_below_drewN | apply below_drew1) | exact HB.out)) hb); clear HB; have HB := mb_; clear mb_; clear BKs; have BKs := ms_; clear ms_; clear BKq; have BKq := mq_; clear mq_; clear hb; have hcz7_0 : w6_.cell? ⟨gbs, 0, none⟩ = some (.int .i64 a0_0) := (blk_cell BKs.out 0).trans rfl; have hfz7_0 := blk_frozen BKs.out 0; have hcz7_1 : w6_.cell? ⟨gbs, 1, none⟩ = some (.int .i64 a0_1) := (blk_cell BKs.out 1).trans rfl; have hfz7_1 := blk_frozen BKs.out 1; have hcz7_2 : w6_.cell? ⟨gbs, 2, none⟩ = some (.int .i64 a0_2) := (blk_cell BKs.out 2).trans rfl; have hfz7_2 := blk_frozen BKs.out 2; have hcz8_0 : w6_.cell? ⟨gbq, 0, none⟩ = some (.string a1) := (blk_cell BKq.out 0).trans rfl; have hfz8_0 := blk_frozen BKq.out 0) | (go_at_call 99; (with_reducible refine (sContains _ a1 _ HCc.out true HCb.out _).mono ?_); rintro e w9_ ⟨rfl, rfl⟩) | ((with_reducible refine gate_callee (f := 91) rfl ?_); refine goesL_ (some 21) rfl rfl Try.func91 (by kernel_rfl) rfl #[.agg #[.int .i64 a0_0, .int .i64 a0_1, .int .i64 a0_2], .func (.func 100) #[] #[.pointer (some ⟨gbs, 0, none⟩), .pointer (some ⟨gbq, 0, none⟩)]] rfl (by (try simp only [List.map_toArray, List.map_cons, List.map_nil]); first | done | rfl | (simp only [List.length_drop, List.length_take]; rfl)) ?_; (with_reducible refine (spThose100 (impl_StepsAtSide.q a0_0 a0_1 a0_2 (a1.data.getD 0 0)) _ _ k a0_0 a0_1 a0_2 tt _ ?hq HT.out).mono ?_); (case hq => intro n b W hn hW; exact atSide1 a0_0 a0_1 a0_2 a1 _ n b gbs gbq HCc.out W (blk_below (g := gbs) (o := .cells #[.int .i64 a0_0, .int .i64 a0_1, .int .i64 a0_2] 44 (0, 0)) (by (with_reducible repeat (first | refine blk_drewN ?_ _ | refine blk_drew ?_ | refine blk_alloc ?_ _)); exact BKs.out) hW) (blk_below (g := gbq) (o := .cells #[.string a1] 9 (0, 0)) (by (with_reducible repeat (first | refine blk_drewN ?_ _ | refine blk_drew ?_ | refine blk_alloc ?_ _)); exact BKq.out) hW) hn); rintro e w10_ ⟨v0_, rfl, ho, hb⟩; refine ⟨_, rfl, ?_⟩; have HO9 := Aside0.mk (Kd.R_lower ho (below_size (by repeat (first | (with_reducible first | exact HB.out | apply below_alloc | apply pw_below_drewN | apply below_drew1) | exact HB.out)))); clear ho; have ms_ := Aside0.mk (blk_below (g := gbs) (o := .cells #[.int .i64 a0_0, .int .i64 a0_1, .int .i64 a0_2] 44 (0, 0)) (by (with_reducible repeat (first | refine blk_drewN ?_ _ | refine blk_drew ?_ | refine blk_alloc ?_ _)); exact BKs.out) hb); have mq_ := Aside0.mk (blk_below (g := gbq) (o := .cells #[.string a1] 9 (0, 0)) (by (with_reducible repeat (first | refine blk_drewN ?_ _ | refine blk_drew ?_ | refine blk_alloc ?_ _)); exact BKq.out) hb); have mb_ := Aside0.mk (below_step (by repeat (first | (with_reducible first | exact HB.out | apply below_alloc | apply pw_below_drewN | apply below_drew1) | exact HB.out)) hb); clear HB; have HB := mb_; clear mb_; clear BKs; have BKs := ms_; clear ms_; clear BKq; have BKq := mq_; clear mq_; clear hb; have hcz11_0 : w10_.cell? ⟨gbs, 0, none⟩ = some (.int .i64 a0_0) := (blk_cell BKs.out 0).trans rfl; have hfz11_0 := blk_frozen BKs.out 0; have hcz11_1 : w10_.cell? ⟨gbs, 1, none⟩ = some (.int .i64 a0_1) := (blk_cell BKs.out 1).trans rfl; have hfz11_1 := blk_frozen BKs.out 1; have hcz11_2 : w10_.cell? ⟨gbs, 2, none⟩ = some (.int .i64 a0_2) := (blk_cell BKs.out 2).trans rfl; have hfz11_2 := blk_frozen BKs.out 2; have hcz12_0 : w10_.cell? ⟨gbq, 0, none⟩ = some (.string a1) := (blk_cell BKq.out 0).trans rfl; have hfz12_0 := blk_frozen BKq.out 0))
        go_ret2
        exact ⟨_, rfl, by (with_reducible repeat (first | apply Kd.R_alloc | apply Kd.R_drewN | apply Kd.R_drew)); exact HO9.out, by repeat (first | (with_reducible first | exact HB.out | apply below_alloc | apply pw_below_drewN | apply below_drew1) | exact HB.out)⟩
      · rw [if_neg c2] at h
        have HCb : Aside0 (decide (0 ≤ Lib.indexByte (⟨#[110, 101, 115, 119]⟩ : ByteArray).data.toList (a1.data.getD 0 0)) = false) := ⟨decide_eq_false c2⟩
        clear c2
        simp only [Option.some.injEq, Prod.mk.injEq] at h
        obtain ⟨rfl, rfl⟩ := h
        go_enter Try.func53, Try.ntmps53
        go_wp2_with (first | ((with_reducible refine gate_dst (N := 2) rfl ?_); refine box_event ?hg (N := 2) ?hd (cs := #[.int .i64 a0_0, .int .i64 a0_1, .int .i64 a0_2]) (t := 44) ?hr ?_; (case hd => rfl); (case hg => rfl); (case hr => first | (go_simp; done) | (go_simp; rfl)); intro gbs hg w13_ hbox hb; have BKs := Aside0.mk hbox; have GWs := Aside0.mk ((by rw [hg]; exact (below_size (by repeat (first | (with_reducible first | exact HB.out | apply below_alloc | apply pw_below_drewN | apply below_drew1) | exact HB.out))) : w.heap.size ≤ gbs)); clear hbox hg; have mb_ := Aside0.mk (below_step (by repeat (first | (with_reducible first | exact HB.out | apply below_alloc | apply pw_below_drewN | apply below_drew1) | exact HB.out)) hb); clear HB; have HB := mb_; clear mb_; clear hb; have hcz14_0 : w13_.cell? ⟨gbs, 0, none⟩ = some (.int .i64 a0_0) := (blk_cell BKs.out 0).trans rfl; have hfz14_0 := blk_frozen BKs.out 0; have hcz14_1 : w13_.cell? ⟨gbs, 1, none⟩ = some (.int .i64 a0_1) := (blk_cell BKs.out 1).trans rfl; have hfz14_1 := blk_frozen BKs.out 1; have hcz14_2 : w13_.cell? ⟨gbs, 2, none⟩ = some (.int .i64 a0_2) := (blk_cell BKs.out 2).trans rfl; have hfz14_2 := blk_frozen BKs.out 2) | ((with_reducible refine gate_dst (N := 3) rfl ?_); refine box_event ?hg (N := 3) ?hd (cs := #[.string a1]) (t := 9) ?hr ?_; (case hd => rfl); (case hg => rfl); (case hr => first | (go_simp; done) | (go_simp; rfl)); intro gbq hg w15_ hbox hb; have BKq := Aside0.mk hbox; have GWq := Aside0.mk ((by rw [hg]; exact (below_size (by repeat (first | (with_reducible first | exact HB.out | apply below_alloc | apply pw_below_drewN | apply below_drew1) | exact HB.out))) : w.heap.size ≤ gbq)); clear hbox hg; have ms_ := Aside0.mk (blk_below (g := gbs) (o := .cells #[.int .i64 a0_0, .int .i64 a0_1, .int .i64 a0_2] 44 (0, 0)) (by (with_reducible repeat (first | refine blk_drewN ?_ _ | refine blk_drew ?_ | refine blk_alloc ?_ _)); exact BKs.out) hb); have mb_ := Aside0.mk (below_step (by repeat (first | (with_reducible first | exact HB.out | apply below_alloc | apply pw_below_drewN | apply below_drew1) | exact HB.out)) hb); clear HB; have HB := mb_; clear mb_; clear BKs; have BKs := ms_; clear ms_; clear hb; have hcz16_0 : w15_.cell? ⟨gbs, 0, none⟩ = some (.int .i64 a0_0) := (blk_cell BKs.out 0).trans rfl; have hfz16_0 := blk_frozen BKs.out 0; have hcz16_1 : w15_.cell? ⟨gbs, 1, none⟩ = some (.int .i64 a0_1) := (blk_cell BKs.out 1).trans rfl; have hfz16_1 := blk_frozen BKs.out 1; have hcz16_2 : w15_.cell? ⟨gbs, 2, none⟩ = some (.int .i64 a0_2) := (blk_cell BKs.out 2).trans rfl; have hfz16_2 := blk_frozen BKs.out 2; have hcz17_0 : w15_.cell? ⟨gbq, 0, none⟩ = some (.string a1) := (blk_cell BKq.out 0).trans rfl; have hfz17_0 := blk_frozen BKq.out 0) | ((with_reducible refine gate_callee (f := 49) rfl ?_); refine goesL_ (some 7) rfl rfl Try.func49 (by kernel_rfl) rfl #[.agg #[.int .i64 a0_0, .int .i64 a0_1, .int .i64 a0_2]] rfl (by (try simp only [List.map_toArray, List.map_cons, List.map_nil]); first | done | rfl | (simp only [List.length_drop, List.length_take]; rfl)) ?_; (with_reducible refine (impl_IsSpiral.calls a0_0 a0_1 a0_2 true _ HA.out).mono ?_); rintro e w18_ ⟨rfl, hb⟩; refine ⟨_, rfl, ?_⟩; have ms_ := Aside0.mk (blk_below (g := gbs) (o := .cells #[.int .i64 a0_0, .int .i64 a0_1, .int .i64 a0_2] 44 (0, 0)) (by (with_reducible repeat (first | refine blk_drewN ?_ _ | refine blk_drew ?_ | refine blk_alloc ?_ _)); exact BKs.out) hb); have mq_ := Aside0.mk (blk_below (g := gbq) (o := .cells #[.string a1] 9 (0, 0)) (by (with_reducible repeat (first | refine blk_drewN ?_ _ | refine blk_drew ?_ | refine blk_alloc ?_ _)); exact BKq.out) hb); have mb_ := Aside0.mk (below_step (by repeat (first | (with_reducible first | exact HB.out | apply below_alloc | apply pw_below_drewN | apply below_drew1) | exact HB.out)) hb); clear HB; have HB := mb_; clear mb_; clear BKs; have BKs := ms_; clear ms_; clear BKq; have BKq := mq_; clear mq_; clear hb; have hcz19_0 : w18_.cell? ⟨gbs, 0, none⟩ = some (.int .i64 a0_0) := (blk_cell BKs.out 0).trans rfl; have hfz19_0 := blk_frozen BKs.out 0; have hcz19_1 : w18_.cell? ⟨gbs, 1, none⟩ = some (.int .i64 a0_1) := (blk_cell BKs.out 1).trans rfl; have hfz19_1 := blk_frozen BKs.out 1; have hcz19_2 : w18_.cell? ⟨gbs, 2, none⟩ = some (.int .i64 a0_2) := (blk_cell BKs.out 2).trans rfl; have hfz19_2 := blk_frozen BKs.out 2; have hcz20_0 : w18_.cell? ⟨gbq, 0, none⟩ = some (.string a1) := (blk_cell BKq.out 0).trans rfl; have hfz20_0 := blk_frozen BKq.out 0) | (go_at_call 99; (with_reducible refine (sContains _ a1 _ HCc.out false HCb.out _).mono ?_); rintro e w21_ ⟨rfl, rfl⟩))
        go_ret2
        exact ⟨_, rfl, Kd.R_nil _ _ _ _ _, by repeat (first | (with_reducible first | exact HB.out | apply below_alloc | apply pw_below_drewN | apply below_drew1) | exact HB.out)⟩
    · rw [if_neg c1] at h
      have c1b0 : ((a1.size : Int) == 1) = false := beq_eq_false_iff_ne.mpr (by omega)
      have c1b1 : ((a1.size : Int) != 1) = true := by rw [bne, c1b0]; rfl
      have c1b2 : decide ((a1.size : Int) = 1) = false := decide_eq_false (by omega)
      have c1b3 : ¬ (a1.size : Int) = 1 := by omega
      clear c1
      simp only [Option.some.injEq, Prod.mk.injEq] at h
      obtain ⟨rfl, rfl⟩ := h
      go_enter Try.func53, Try.ntmps53
      go_wp2_with (first | ((with_reducible refine gate_dst (N := 2) rfl ?_); refine box_event ?hg (N := 2) ?hd (cs := #[.int .i64 a0_0, .int .i64 a0_1, .int .i64 a0_2]) (t := 44) ?hr ?_; (case hd => rfl); (case hg => rfl); (case hr => first | (go_simp; done) | (go_simp; rfl)); intro gbs hg w22_ hbox hb; have BKs := Aside0.mk hbox; have GWs := Aside0.mk ((by rw [hg]; exact (below_size (by repeat (first | (with_reducible first | exact HB.out | apply below_alloc | apply pw_below_drewN | apply below_drew1) | exact HB.out))) : w.heap.size ≤ gbs)); clear hbox hg; have mb_ := Aside0.mk (below_step (by repeat (first | (with_reducible first | exact HB.out | apply below_alloc | apply pw_below_drewN | apply below_drew1) | exact HB.out)) hb); clear HB; have HB := mb_; clear mb_; clear hb; have hcz23_0 : w22_.cell? ⟨gbs, 0, none⟩ = some (.int .i64 a0_0) := (blk_cell BKs.out 0).trans rfl; have hfz23_0 := blk_frozen BKs.out 0; have hcz23_1 : w22_.cell? ⟨gbs, 1, none⟩ = some (.int .i64 a0_1) := (blk_cell BKs.out 1).trans rfl; have hfz23_1 := blk_frozen BKs.out 1; have hcz23_2 : w22_.cell? ⟨gbs, 2, none⟩ = some (.int .i64 a0_2) := (blk_cell BKs.out 2).trans rfl; have hfz23_2 := blk_frozen BKs.out 2) | ((with_reducible refine gate_dst (N := 3) rfl ?_); refine box_event ?hg (N := 3) ?hd (cs := #[.string a1]) (t := 9) ?hr ?_; (case hd => rfl); (case hg => rfl); (case hr => first | (go_simp; done) | (go_simp; rfl)); intro gbq hg w24_ hbox hb; have BKq := Aside0.mk hbox; have GWq := Aside0.mk ((by rw [hg]; exact (below_size (by repeat (first | (with_reducible first | exact HB.out | apply below_alloc | apply pw_below_drewN | apply below_drew1) | exact HB.out))) : w.heap.size ≤ gbq)); clear hbox hg; have ms_ := Aside0.mk (blk_below (g := gbs) (o := .cells #[.int .i64 a0_0, .int .i64 a0_1, .int .i64 a0_2] 44 (0, 0)) (by (with_reducible repeat (first | refine blk_drewN ?_ _ | refine blk_drew ?_ | refine blk_alloc ?_ _)); exact BKs.out) hb); have mb_ := Aside0.mk (below_step (by repeat (first | (with_reducible first | exact HB.out | apply below_alloc | apply pw_below_drewN | apply below_drew1) | exact HB.out)) hb); clear HB; have HB := mb_; clear mb_; clear BKs; have BKs := ms_; clear ms_; clear hb; have hcz25_0 : w24_.cell? ⟨gbs, 0, none⟩ = some (.int .i64 a0_0) := (blk_cell BKs.out 0).trans rfl; have hfz25_0 := blk_frozen BKs.out 0; have hcz25_1 : w24_.cell? ⟨gbs, 1, none⟩ = some (.int .i64 a0_1) := (blk_cell BKs.out 1).trans rfl; have hfz25_1 := blk_frozen BKs.out 1; have hcz25_2 : w24_.cell? ⟨gbs, 2, none⟩ = some (.int .i64 a0_2) := (blk_cell BKs.out 2).trans rfl; have hfz25_2 := blk_frozen BKs.out 2; have hcz26_0 : w24_.cell? ⟨gbq, 0, none⟩ = some (.string a1) := (blk_cell BKq.out 0).trans rfl; have hfz26_0 := blk_frozen BKq.out 0) | ((with_reducible refine gate_callee (f := 49) rfl ?_); refine goesL_ (some 7) rfl rfl Try.func49 (by kernel_rfl) rfl #[.agg #[.int .i64 a0_0, .int .i64 a0_1, .int .i64 a0_2]] rfl (by (try simp only [List.map_toArray, List.map_cons, List.map_nil]); first | done | rfl | (simp only [List.length_drop, List.length_take]; rfl)) ?_; (with_reducible refine (impl_IsSpiral.calls a0_0 a0_1 a0_2 true _ HA.out).mono ?_); rintro e w27_ ⟨rfl, hb⟩; refine ⟨_, rfl, ?_⟩; have ms_ := Aside0.mk (blk_below (g := gbs) (o := .cells #[.int .i64 a0_0, .int .i64 a0_1, .int .i64 a0_2] 44 (0, 0)) (by (with_reducible repeat (first | refine blk_drewN ?_ _ | refine blk_drew ?_ | refine blk_alloc ?_ _)); exact BKs.out) hb); have mq_ := Aside0.mk (blk_below (g := gbq) (o := .cells #[.string a1] 9 (0, 0)) (by (with_reducible repeat (first | refine blk_drewN ?_ _ | refine blk_drew ?_ | refine blk_alloc ?_ _)); exact BKq.out) hb); have mb_ := Aside0.mk (below_step (by repeat (first | (with_reducible first | exact HB.out | apply below_alloc | apply pw_below_drewN | apply below_drew1) | exact HB.out)) hb); clear HB; have HB := mb_; clear mb_; clear BKs; have BKs := ms_; clear ms_; clear BKq; have BKq := mq_; clear mq_; clear hb; have hcz28_0 : w27_.cell? ⟨gbs, 0, none⟩ = some (.int .i64 a0_0) := (blk_cell BKs.out 0).trans rfl; have hfz28_0 := blk_frozen BKs.out 0; have hcz28_1 : w27_.cell? ⟨gbs, 1, none⟩ = some (.int .i64 a0_1) := (blk_cell BKs.out 1).trans rfl; have hfz28_1 := blk_frozen BKs.out 1; have hcz28_2 : w27_.cell? ⟨gbs, 2, none⟩ = some (.int .i64 a0_2) := (blk_cell BKs.out 2).trans rfl; have hfz28_2 := blk_frozen BKs.out 2; have hcz29_0 : w27_.cell? ⟨gbq, 0, none⟩ = some (.string a1) := (blk_cell BKq.out 0).trans rfl; have hfz29_0 := blk_frozen BKq.out 0))
      go_ret2
      exact ⟨_, rfl, Kd.R_nil _ _ _ _ _, by repeat (first | (with_reducible first | exact HB.out | apply below_alloc | apply pw_below_drewN | apply below_drew1) | exact HB.out)⟩
  | false =>
    rw [if_neg (by decide)] at h
    simp only [Option.some.injEq, Prod.mk.injEq] at h
    obtain ⟨rfl, rfl⟩ := h
    go_enter Try.func53, Try.ntmps53
    go_wp2_with (first | ((with_reducible refine gate_dst (N := 2) rfl ?_); refine box_event ?hg (N := 2) ?hd (cs := #[.int .i64 a0_0, .int .i64 a0_1, .int .i64 a0_2]) (t := 44) ?hr ?_; (case hd => rfl); (case hg => rfl); (case hr => first | (go_simp; done) | (go_simp; rfl)); intro gbs hg w30_ hbox hb; have BKs := Aside0.mk hbox; have GWs := Aside0.mk ((by rw [hg]; exact (below_size (by repeat (first | (with_reducible first | exact HB.out | apply below_alloc | apply pw_below_drewN | apply below_drew1) | exact HB.out))) : w.heap.size ≤ gbs)); clear hbox hg; have mb_ := Aside0.mk (below_step (by repeat (first | (with_reducible first | exact HB.out | apply below_alloc | apply pw_below_drewN | apply below_drew1) | exact HB.out)) hb); clear HB; have HB := mb_; clear mb_; clear hb; have hcz31_0 : w30_.cell? ⟨gbs, 0, none⟩ = some (.int .i64 a0_0) := (blk_cell BKs.out 0).trans rfl; have hfz31_0 := blk_frozen BKs.out 0; have hcz31_1 : w30_.cell? ⟨gbs, 1, none⟩ = some (.int .i64 a0_1) := (blk_cell BKs.out 1).trans rfl; have hfz31_1 := blk_frozen BKs.out 1; have hcz31_2 : w30_.cell? ⟨gbs, 2, none⟩ = some (.int .i64 a0_2) := (blk_cell BKs.out 2).trans rfl; have hfz31_2 := blk_frozen BKs.out 2) | ((with_reducible refine gate_dst (N := 3) rfl ?_); refine box_event ?hg (N := 3) ?hd (cs := #[.string a1]) (t := 9) ?hr ?_; (case hd => rfl); (case hg => rfl); (case hr => first | (go_simp; done) | (go_simp; rfl)); intro gbq hg w32_ hbox hb; have BKq := Aside0.mk hbox; have GWq := Aside0.mk ((by rw [hg]; exact (below_size (by repeat (first | (with_reducible first | exact HB.out | apply below_alloc | apply pw_below_drewN | apply below_drew1) | exact HB.out))) : w.heap.size ≤ gbq)); clear hbox hg; have ms_ := Aside0.mk (blk_below (g := gbs) (o := .cells #[.int .i64 a0_0, .int .i64 a0_1, .int .i64 a0_2] 44 (0, 0)) (by (with_reducible repeat (first | refine blk_drewN ?_ _ | refine blk_drew ?_ | refine blk_alloc ?_ _)); exact BKs.out) hb); have mb_ := Aside0.mk (below_step (by repeat (first | (with_reducible first | exact HB.out | apply below_alloc | apply pw_below_drewN | apply below_drew1) | exact HB.out)) hb); clear HB; have HB := mb_; clear mb_; clear BKs; have BKs := ms_; clear ms_; clear hb; have hcz33_0 : w32_.cell? ⟨gbs, 0, none⟩ = some (.int .i64 a0_0) := (blk_cell BKs.out 0).trans rfl; have hfz33_0 := blk_frozen BKs.out 0; have hcz33_1 : w32_.cell? ⟨gbs, 1, none⟩ = some (.int .i64 a0_1) := (blk_cell BKs.out 1).trans rfl; have hfz33_1 := blk_frozen BKs.out 1; have hcz33_2 : w32_.cell? ⟨gbs, 2, none⟩ = some (.int .i64 a0_2) := (blk_cell BKs.out 2).trans rfl; have hfz33_2 := blk_frozen BKs.out 2; have hcz34_0 : w32_.cell? ⟨gbq, 0, none⟩ = some (.string a1) := (blk_cell BKq.out 0).trans rfl; have hfz34_0 := blk_frozen BKq.out 0) | ((with_reducible refine gate_callee (f := 49) rfl ?_); refine goesL_ (some 7) rfl rfl Try.func49 (by kernel_rfl) rfl #[.agg #[.int .i64 a0_0, .int .i64 a0_1, .int .i64 a0_2]] rfl (by (try simp only [List.map_toArray, List.map_cons, List.map_nil]); first | done | rfl | (simp only [List.length_drop, List.length_take]; rfl)) ?_; (with_reducible refine (impl_IsSpiral.calls a0_0 a0_1 a0_2 false _ HA.out).mono ?_); rintro e w35_ ⟨rfl, hb⟩; refine ⟨_, rfl, ?_⟩; have ms_ := Aside0.mk (blk_below (g := gbs) (o := .cells #[.int .i64 a0_0, .int .i64 a0_1, .int .i64 a0_2] 44 (0, 0)) (by (with_reducible repeat (first | refine blk_drewN ?_ _ | refine blk_drew ?_ | refine blk_alloc ?_ _)); exact BKs.out) hb); have mq_ := Aside0.mk (blk_below (g := gbq) (o := .cells #[.string a1] 9 (0, 0)) (by (with_reducible repeat (first | refine blk_drewN ?_ _ | refine blk_drew ?_ | refine blk_alloc ?_ _)); exact BKq.out) hb); have mb_ := Aside0.mk (below_step (by repeat (first | (with_reducible first | exact HB.out | apply below_alloc | apply pw_below_drewN | apply below_drew1) | exact HB.out)) hb); clear HB; have HB := mb_; clear mb_; clear BKs; have BKs := ms_; clear ms_; clear BKq; have BKq := mq_; clear mq_; clear hb; have hcz36_0 : w35_.cell? ⟨gbs, 0, none⟩ = some (.int .i64 a0_0) := (blk_cell BKs.out 0).trans rfl; have hfz36_0 := blk_frozen BKs.out 0; have hcz36_1 : w35_.cell? ⟨gbs, 1, none⟩ = some (.int .i64 a0_1) := (blk_cell BKs.out 1).trans rfl; have hfz36_1 := blk_frozen BKs.out 1; have hcz36_2 : w35_.cell? ⟨gbs, 2, none⟩ = some (.int .i64 a0_2) := (blk_cell BKs.out 2).trans rfl; have hfz36_2 := blk_frozen BKs.out 2; have hcz37_0 : w35_.cell? ⟨gbq, 0, none⟩ = some (.string a1) := (blk_cell BKq.out 0).trans rfl; have hfz37_0 := blk_frozen BKq.out 0))
    go_ret2
    exact ⟨_, rfl, Kd.R_nil _ _ _ _ _, by repeat (first | (with_reducible first | exact HB.out | apply below_alloc | apply pw_below_drewN | apply below_drew1) | exact HB.out)⟩

/-! ### laws_wRises: function 54 -/
def laws_wRises.l0 : Nat → List Int → Int → Option (Bool)
  | 0, _, _ => none
  | k + 1, x0, x3 => if x3 < (x0.length : Int) then (if 0 ≤ (wrap64 (x3 - 1)) then (if (wrap64 (x3 - 1)) < (x0.length : Int) then (if 0 ≤ x3 then (if (rd x0 (wrap64 (x3 - 1))) ≥ (rd x0 x3) then (some false) else (laws_wRises.l0 k x0 (wrap64 (x3 + 1)))) else (none)) else (none)) else (none)) else (some true)
def laws_wRises.f (k : Nat) (l0 : List Int) : Option (Bool) := laws_wRises.l0 k l0 1
set_option maxHeartbeats 8000000 in
set_option maxRecDepth 100000 in
theorem laws_wRises.calls (k : Nat) (A0 : Option Addr) (c0 : Nat) (l0 : List Int) (r : Bool) (w : World) (hr0 : Kd.C (Kd.int .i64) w A0 l0.length l0) (hc0 : l0.length ≤ c0) (h : laws_wRises.f k l0 = some r) :
    Calls Try.prog 54 #[.slice A0 l0.length c0] w fun e w' => e = .returned (.bool r) ∧ Drawn0 w w' := by
  have HR0 := Aside0.mk hr0
  have HC0 := Aside0.mk hc0
  clear hr0 hc0
  have H : (laws_wRises.l0 k l0 1) = some r := h
  clear h
  have H' := Aside0.mk H
  clear H
  go_enter Try.func54, Try.ntmps54
  go_wp2
  repeat (go_quiet (fail); try go_wp2)
  go_loopg [3] k (fun kq v3 w' => ∃ (x3_1 : Int), v3 = .int .i64 x3_1 ∧ Aside0 (laws_wRises.l0 kq l0 x3_1 = some r) ∧ Aside0 (kq ≤ k) ∧ Drawn0 w w')
  case atStart => exact ⟨(1), (by first | rfl | (simp; done) | (simp [*]; done)), H', ⟨Nat.le_refl _⟩, by repeat (first | exact Drawn0.refl _ | apply Drawn0.step)⟩
  case round =>
    clear H'
    obtain ⟨x3_1, rfl, HA, HK1, ⟨m1, rfl⟩⟩ := hrel
    cases gk with
    | zero => exact absurd HA.out (by simp [laws_wRises.l0])
    | succ k1 =>
      have H := HA.out
      clear HA
      simp only [laws_wRises.l0] at H
      by_cases c2 : x3_1 < (l0.length : Int)
      · rw [if_pos c2] at H
        have c2b0 : decide (x3_1 < (l0.length : Int)) = true := decide_eq_true c2
        clear c2
        obtain ⟨ji3, hji3⟩ : ∃ j_ : Int, (wrap64 (x3_1 - 1)) = j_ := ⟨_, rfl⟩
        replace H : (if 0 ≤ (ji3) then (if (ji3) < (l0.length : Int) then (if 0 ≤ x3_1 then (if (rd l0 (ji3)) ≥ (rd l0 x3_1) then (some false) else (laws_wRises.l0 k1 l0 (wrap64 (x3_1 + 1)))) else (none)) else (none)) else (none)) = some r := by first | (rw [hji3] at H; exact H) | (simp only [hji3] at H ⊢; exact H)
        have hji3w : (IntKind.i64.wrap (x3_1 - 1)) = ji3 := (i64_w _).trans hji3
        by_cases c4 : 0 ≤ (ji3)
        · rw [if_pos c4] at H
          have c4b0 : decide (0 ≤ (ji3)) = true := decide_eq_true c4
          clear c4
          by_cases c5 : (ji3) < (l0.length : Int)
          · rw [if_pos c5] at H
            have c5b0 : decide ((ji3) < (l0.length : Int)) = true := decide_eq_true c5
            clear c5
            by_cases c6 : 0 ≤ x3_1
            · rw [if_pos c6] at H
              have c6b0 : decide (0 ≤ x3_1) = true := decide_eq_true c6
              clear c6
              by_cases c7 : (rd l0 (ji3)) ≥ (rd l0 x3_1)
              · rw [if_pos c7] at H
                have c7b0 : decide ((rd l0 x3_1) ≤ (rd l0 (ji3))) = true := decide_eq_true c7
                clear c7
                obtain rfl := Option.some.inj H
                have p202 : 0 ≤ ((ji3) : Int) := of_decide_eq_true (by first | (with_reducible assumption) | assumption)
                have q202 : (ji3) < (l0.length : Int) := of_decide_eq_true (by first | (with_reducible assumption) | assumption)
                obtain ⟨ad202, e202, hx202_0⟩ := Kd.at_int HR0.out (ji3) p202 q202
                cases e202
                replace p202 := eq_true p202
                replace q202 := eq_true q202
                have p203 : 0 ≤ (x3_1 : Int) := of_decide_eq_true (by first | (with_reducible assumption) | assumption)
                have q203 : x3_1 < (l0.length : Int) := of_decide_eq_true (by first | (with_reducible assumption) | assumption)
                obtain ⟨ad203, e203, hx203_0⟩ := Kd.at_int HR0.out x3_1 p203 q203
                obtain rfl : ad202 = ad203 := (by injection e203)
                replace p203 := eq_true p203
                replace q203 := eq_true q203
                go_wp2
                repeat (go_quiet (fail); try go_wp2)
                go_ret
                exact ⟨by first | rfl | (simp; done) | (simp only [← hji3] <;> (first | rfl | simp)) | (simp [*]; done), by repeat (first | exact Drawn0.refl _ | apply Drawn0.step)⟩
              · rw [if_neg c7] at H
                have c7b0 : decide ((rd l0 x3_1) ≤ (rd l0 (ji3))) = false := decide_eq_false c7
                clear c7
                have H' := Aside0.mk H
                clear H
                have p202 : 0 ≤ ((ji3) : Int) := of_decide_eq_true (by first | (with_reducible assumption) | assumption)
                have q202 : (ji3) < (l0.length : Int) := of_decide_eq_true (by first | (with_reducible assumption) | assumption)
                obtain ⟨ad202, e202, hx202_0⟩ := Kd.at_int HR0.out (ji3) p202 q202
                cases e202
                replace p202 := eq_true p202
                replace q202 := eq_true q202
                have p203 : 0 ≤ (x3_1 : Int) := of_decide_eq_true (by first | (with_reducible assumption) | assumption)
                have q203 : x3_1 < (l0.length : Int) := of_decide_eq_true (by first | (with_reducible assumption) | assumption)
                obtain ⟨ad203, e203, hx203_0⟩ := Kd.at_int HR0.out x3_1 p203 q203
                obtain rfl : ad202 = ad203 := (by injection e203)
                replace p203 := eq_true p203
                replace q203 := eq_true q203
                go_wp2
                repeat (go_quiet (fail); try go_wp2)
                go_roundg k1
                case measure => have := HK1.out; omega
                case rel => exact ⟨(wrap64 (x3_1 + 1)), (by first | rfl | (simp; done) | (simp [*]; done)), H', ⟨by have := HK1.out; omega⟩, by repeat (first | exact Drawn0.refl _ | apply Drawn0.step)⟩
            · rw [if_neg c6] at H
              exact absurd H (by simp)
          · rw [if_neg c5] at H
            exact absurd H (by simp)
        · rw [if_neg c4] at H
          exact absurd H (by simp)
      · rw [if_neg c2] at H
        have c2b0 : decide (x3_1 < (l0.length : Int)) = false := decide_eq_false c2
        clear c2
        obtain rfl := Option.some.inj H
        go_wp2
        repeat (go_quiet (fail); try go_wp2)
        go_ret
        exact ⟨by first | rfl | (simp; done) | (simp [*]; done), by repeat (first | exact Drawn0.refl _ | apply Drawn0.step)⟩

end Go.Proofs.Ytbbkbooiefoihaa.PFnSpiralsTurnOfAll
