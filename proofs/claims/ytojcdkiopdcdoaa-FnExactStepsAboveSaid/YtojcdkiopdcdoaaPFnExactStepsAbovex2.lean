-- Written by this session's own program wip/myprint.py. Not trusted: Lean checks it.
import Derived.Test.YtojcdkiopdcdoaaPFnExactStepsAbovex0
import Derived.Test.YtojcdkiopdcdoaaPFnExactStepsAbovex1
namespace Go.Proofs.Ytojcdkiopdcdoaa.PFnExactStepsAbove
open Go.RowKit Go.Proofs.YtojcdkiopdcdoaaW.PrintWords Go.Proofs.YtojcdkiopdcdoaaW.PrintLast Go.Proofs.YtojcdkiopdcdoaaW.PrintMore
attribute [local go_sem] max2_int min2_int max_two min_two max_three min_three max_four min_four   -- for this text's walks alone
set_option linter.unusedVariables false
set_option linter.unusedSimpArgs false

/-! ### impl_Spiral_angle: function 60 -/
def impl_Spiral_angle.f (a0_0 : Int) (a0_1 : Int) (a0_2 : Int) (a1 : Int) : Option (Int) := if a0_1 = 0 then (none) else (some (Int.tmod (wrap64 (a1 - 1)) a0_1))
set_option maxHeartbeats 8000000 in
set_option maxRecDepth 100000 in
theorem impl_Spiral_angle.calls (a0_0 : Int) (a0_1 : Int) (a0_2 : Int) (a1 : Int) (r : Int) (w : World) (h : impl_Spiral_angle.f a0_0 a0_1 a0_2 a1 = some r) :
    Calls Try.prog 60 #[.agg #[.int .i64 a0_0, .int .i64 a0_1, .int .i64 a0_2], .int .i64 a1] w fun e w' => e = .returned (.int .i64 r) ∧ Below w.heap.size w w' := by
  have hu27 := Try.underlying27
  have HB := Aside0.mk (Below.refl w.heap.size w)
  have H : (if a0_1 = 0 then (none) else (some (Int.tmod (wrap64 (a1 - 1)) a0_1))) = some r := h
  clear h
  by_cases c3 : a0_1 = 0
  · rw [if_pos c3] at H
    exact absurd H (by simp)
  · rw [if_neg c3] at H
    have c3b0 : (a0_1 == 0) = false := beq_eq_false_iff_ne.mpr c3
    have c3b1 : (a0_1 != 0) = true := bne_iff_ne.mpr c3
    obtain rfl := Option.some.inj H
    go_enter Try.func60, Try.ntmps60
    go_wp2_with (first | ((with_reducible refine gate_dst (N := 2) rfl ?_); refine box_event ?hg (N := 2) ?hd (cs := #[.int .i64 a0_0, .int .i64 a0_1, .int .i64 a0_2]) (t := 27) ?hr ?_; (case hd => rfl); (case hg => rfl); (case hr => first | (go_simp; done) | (go_simp; rfl)); intro gb128 hg w4 hbox hb; have n0_ := Aside0.mk (below_step (by repeat (first | (with_reducible first | exact HB.out | apply below_alloc | apply pw_below_drewN | apply below_drew1) | exact HB.out)) hb); have n1_ := Aside0.mk (hbox); have n2_ := Aside0.mk ((by rw [hg]; exact (below_size (by repeat (first | (with_reducible first | exact HB.out | apply below_alloc | apply pw_below_drewN | apply below_drew1) | exact HB.out))) : w.heap.size ≤ gb128)); have n3_ := Aside0.mk ((by rw [hg]; exact (below_size (by repeat (first | (with_reducible first | exact HB.out | apply below_alloc | apply pw_below_drewN | apply below_drew1) | exact HB.out))) : w.heap.size ≤ gb128)); clear HB; have HB := n0_; have BK128 := n1_; have GW128 := n2_; have GE128 := n3_; clear n0_ n1_ n2_ n3_; clear hb hbox hg; have hcz5_0 : w4.cell? ⟨gb128, 0, none⟩ = some (.int .i64 a0_0) := (blk_cell BK128.out 0).trans rfl; have hcz5_1 : w4.cell? ⟨gb128, 1, none⟩ = some (.int .i64 a0_1) := (blk_cell BK128.out 1).trans rfl; have hcz5_2 : w4.cell? ⟨gb128, 2, none⟩ = some (.int .i64 a0_2) := (blk_cell BK128.out 2).trans rfl; have hfz5_0 := blk_frozen BK128.out 0; have hfz5_1 := blk_frozen BK128.out 1; have hfz5_2 := blk_frozen BK128.out 2))
    go_ret
    exact ⟨by first | rfl | (simp [errW_none, errW_some] <;> rfl) | (simp [*, errW_none, errW_some] <;> rfl), by repeat (first | (with_reducible first | exact HB.out | apply below_alloc | apply pw_below_drewN | apply below_drew1 | refine below_set ?_ GE128.out) | exact HB.out)⟩

/-! ### impl_StepsAbove: function 27 -/
/-! ### a function value with captured variables, called in turn with 1, 2, .. -/
def thoseW (q : Int → Option Bool) : Nat → Int → Int → List Int → Option (List Int)
  | 0, _, _, _ => none
  | k + 1, a, i, acc => if i ≤ a then ((q i).bind fun b => if b = true then (if acc.length < 17592186044416 then thoseW q k a (wrap64 (i + 1)) (acc ++ [i]) else none) else thoseW q k a (wrap64 (i + 1)) acc) else some acc
theorem thoseW_mono (q q' : Int → Option Bool) (hq : ∀ n, LeO (q n) (q' n)) : ∀ (k : Nat) (a i : Int) (acc : List Int), LeO (thoseW q k a i acc) (thoseW q' (k + 1) a i acc)
  | 0, _, _, _ => fun r h => by simp [thoseW] at h
  | k + 1, a, i, acc => by
    have ih := thoseW_mono q q' hq k
    rw [thoseW, thoseW]
    refine LeO.ite ?_ (LeO.refl _)
    refine LeO.bind (hq i) (fun b => ?_)
    refine LeO.ite ?_ (ih _ _ _)
    exact LeO.ite (ih _ _ _) (LeO.none _)
set_option maxHeartbeats 8000000 in
set_option maxRecDepth 100000 in
theorem spThose59 (q : Int → Option Bool) (c0_ c1_ : Value) (k : Nat) (a0_0 a0_1 a0_2 : Int) (r : List Int) (w : World)
    (hp0 : ∀ (n : Int) (b : Bool) (W : World), q n = some b → Below w.heap.size w W → Calls Try.prog 59 #[.int .i64 n, c0_, c1_] W fun e w' => e = .returned (.bool b) ∧ Below W.heap.size W w')
    (h : thoseW q k a0_0 1 [] = some r) :
    Calls Try.prog 41 #[.agg #[.int .i64 a0_0, .int .i64 a0_1, .int .i64 a0_2], .func (.func 59) #[] #[c0_, c1_]] w fun e w' => ∃ v0_ : Value, e = .returned (v0_) ∧ Kd.R (Kd.int .i64) 3 w' w.heap.size (fun _ => True) v0_ r ∧ Below w.heap.size w w' := by
  have hu := Try.underlying27
  have HP := Aside0.mk hp0
  have HB := Aside0.mk (Below.refl w.heap.size w)
  clear hp0
  obtain ⟨y135, hy135⟩ : ∃ y_ : List Int, y_ = (([] : List Int)) := ⟨_, rfl⟩
  rw [← hy135] at h
  have H' := Aside0.mk h
  have Ny135 := Aside0.mk hy135
  clear h hy135
  go_enter Try.func41, Try.ntmps41
  go_wp2_with (first | ((with_reducible refine gate_dst (N := 2) rfl ?_); refine box_event ?hg (N := 2) ?hd (cs := #[.int .i64 a0_0, .int .i64 a0_1, .int .i64 a0_2]) (t := 27) ?hr ?_; (case hd => rfl); (case hg => rfl); (case hr => first | (go_simp; done) | (go_simp; rfl)); intro gb1 hg w5 hbox hb; have n0_ := Aside0.mk (below_step (by repeat (first | (with_reducible first | exact HB.out | apply below_alloc | apply pw_below_drewN | apply below_drew1) | exact HB.out)) hb); have n1_ := Aside0.mk (hbox); have n2_ := Aside0.mk ((by rw [hg]; exact (below_size (by repeat (first | (with_reducible first | exact HB.out | apply below_alloc | apply pw_below_drewN | apply below_drew1) | exact HB.out))) : w.heap.size ≤ gb1)); clear HB; have HB := n0_; have BK1 := n1_; have GE1 := n2_; clear n0_ n1_ n2_; clear hb hbox hg) | ((with_reducible refine gate_dst (N := 7) rfl ?_); refine Kd.R_lit (Kd.int .i64) _ 3 ?hg (N := 7) ?hd (xs := ([] : List Int)) (inner := []) (ok := fun _ => True) (okp := fun _ => True) ?hr ?hp (fun _ hk => hk) trivial (Below.refl _ _) (Nat.le_refl _) (by simp) ?_; (case hd => rfl); (case hg => rfl); (case hr => first | (go_simp; done) | (go_simp; rfl)); (case hp => exact (Reps.none _ _)); intro v136 w3 ho4 hb hg_ hnew_; clear hg_ hnew_; (first | rw [← Ny135.out] at ho4 | (simp only [Int.reduceToNat] at ho4; rw [← Ny135.out] at ho4)); have n0_ := Aside0.mk (Kd.R_lower ho4 (below_size (by repeat (first | (with_reducible first | exact HB.out | apply below_alloc | apply pw_below_drewN | apply below_drew1) | exact HB.out)))); have n1_ := Aside0.mk (below_step (by repeat (first | (with_reducible first | exact HB.out | apply below_alloc | apply pw_below_drewN | apply below_drew1) | exact HB.out)) hb); have n2_ := Aside0.mk (blk_below (g := gb1) (o := .cells #[.int .i64 a0_0, .int .i64 a0_1, .int .i64 a0_2] 27 (0, 0)) (by (with_reducible repeat (first | refine blk_drewN ?_ _ | refine blk_drew ?_ | refine blk_alloc ?_ _)); exact BK1.out) hb); clear HB; clear BK1; have HO137 := n0_; have HB := n1_; have BK1 := n2_; clear n0_ n1_ n2_; clear hb ho4))
  go_loopg [5, 6] k (fun kq v5 v6 w' => ∃ (x5_1 : List Int) (x6_1 : Int), v6 = .int .i64 x6_1 ∧ Aside0 (thoseW q kq a0_0 x6_1 x5_1 = some r) ∧ Aside0 (kq ≤ k) ∧ Aside0 (Kd.R (Kd.int .i64) 3 w' w.heap.size (fun _ => True) v5 x5_1) ∧ Aside0 (w'.heap[gb1]? = some (.cells #[.int .i64 a0_0, .int .i64 a0_1, .int .i64 a0_2] 27 (0, 0))) ∧ Aside0 (Below w.heap.size w w'))
  case atStart => exact ⟨(y135), (1), (by first | rfl | (simp; done) | (simp [*]; done)), H', ⟨Nat.le_refl _⟩, ⟨by (with_reducible repeat (first | apply Kd.R_alloc | apply Kd.R_drewN | apply Kd.R_drew)); exact HO137.out⟩, ⟨by (with_reducible repeat (first | refine blk_drewN ?_ _ | refine blk_drew ?_ | refine blk_alloc ?_ _)); exact BK1.out⟩, ⟨by repeat (first | (with_reducible first | exact HB.out | apply below_alloc | apply pw_below_drewN | apply below_drew1) | exact HB.out)⟩⟩
  case round =>
    clear H'
    obtain ⟨x5_1, x6_1, rfl, HA, HK1, HO_5, BK1, HB⟩ := hrel
    cases gk with
    | zero => exact absurd HA.out (by simp [thoseW])
    | succ k1 =>
      have H := HA.out
      clear HA
      simp only [thoseW] at H
      have hcz_0 : wr.cell? ⟨gb1, 0, none⟩ = some (.int .i64 a0_0) := (blk_cell BK1.out 0).trans rfl
      have hfz_0 := blk_frozen BK1.out 0
      by_cases c5 : x6_1 ≤ a0_0
      · rw [if_pos c5] at H
        have c5b0 : decide (x6_1 ≤ a0_0) = true := decide_eq_true c5
        clear c5
        obtain ⟨b, hb0, H⟩ := Option.bind_eq_some_iff.mp H
        have hcall := fun (W : World) (hW : Below wr.heap.size wr W) => HP.out x6_1 b W hb0 (below_step HB.out hW)
        clear hb0
        have HC := Aside0.mk hcall
        clear hcall
        cases b with
        | true =>
          rw [if_pos rfl] at H
          by_cases c8 : x5_1.length < 17592186044416
          · rw [if_pos c8] at H
            have LMc8 := Aside0.mk c8
            clear c8
            obtain ⟨y139, hy139⟩ : ∃ y_ : List Int, y_ = (x5_1 ++ [x6_1]) := ⟨_, rfl⟩
            rw [← hy139] at H
            have Ny139 := Aside0.mk hy139
            clear hy139
            have H' := Aside0.mk H
            clear H
            go_wp2_with (first | (go_at_call 59; refine (HC.out _ (Below.refl _ _)).mono ?_; rintro e w9 ⟨rfl, hb⟩; have n0_ := Aside0.mk (Kd.R_below (by (with_reducible repeat (first | apply Kd.R_alloc | apply Kd.R_drewN | apply Kd.R_drew)); exact HO_5.out) hb); have n1_ := Aside0.mk (below_step (by repeat (first | (with_reducible first | exact HB.out | apply below_alloc | apply pw_below_drewN | apply below_drew1) | exact HB.out)) hb); have n2_ := Aside0.mk (blk_below (g := gb1) (o := .cells #[.int .i64 a0_0, .int .i64 a0_1, .int .i64 a0_2] 27 (0, 0)) BK1.out hb); clear HO_5; clear HB; clear BK1; have HO_5 := n0_; have HB := n1_; have BK1 := n2_; clear n0_ n1_ n2_; clear hb) | ((with_reducible refine gate_builtin (b := .append) (xs := #[.tmp 17, .tmp 19]) rfl ?_); at_builtin; refine Kd.R_append (Kd.int .i64) (w0 := w) w.heap.size rfl (.tmp 17) (.tmp 19) 24 3 (.int .i64 0) 8 rfl Try.underlying24 info3 rfl (by decide) (by omega) u5 x5_1 x6_1 [.int .i64 x6_1] (fun _ => True) (fun _ => False) rfl rfl ?aP (fun _ hk => hk.elim) ?aF ?aO ?aB ?aS ?aL ?_; (case aP => exact rfl); (case aB => exact (by repeat (first | (with_reducible first | exact HB.out | apply below_alloc | apply pw_below_drewN | apply below_drew1) | exact HB.out))); (case aF => exact (fun _ _ => trivial)); (case aO => exact (by (with_reducible repeat (first | apply Kd.R_alloc | apply Kd.R_drewN | apply Kd.R_drew)); exact HO_5.out)); (case aS => exact (below_size (by repeat (first | (with_reducible first | exact HB.out | apply below_alloc | apply pw_below_drewN | apply below_drew1) | exact HB.out)))); (case aL => have := LMc8.out; omega); intro v140 w10 ho hb hg hat; rw [← Ny139.out] at ho; have n0_ := Aside0.mk (hb); have n1_ := Aside0.mk (ho); have n2_ := Aside0.mk (blk_grown (o := .cells #[.int .i64 a0_0, .int .i64 a0_1, .int .i64 a0_2] 27 (0, 0)) (by (with_reducible repeat (first | refine blk_drewN ?_ _ | refine blk_drew ?_ | refine blk_alloc ?_ _)); exact BK1.out) hg (Kd.R_ne HO_5.out BK1.out (by decide))); clear HB; clear HO_5; clear BK1; have HB := n0_; have HO141 := n1_; have BK1 := n2_; clear n0_ n1_ n2_; clear ho hb hg hat))
            go_roundg k1
            case measure => have := HK1.out; omega
            case rel => exact ⟨(y139), (wrap64 (x6_1 + 1)), (by first | rfl | (simp; done) | (simp [*]; done)), H', ⟨by have := HK1.out; omega⟩, ⟨by (with_reducible repeat (first | apply Kd.R_alloc | apply Kd.R_drewN | apply Kd.R_drew)); exact HO141.out⟩, ⟨by (with_reducible repeat (first | refine blk_drewN ?_ _ | refine blk_drew ?_ | refine blk_alloc ?_ _)); exact BK1.out⟩, ⟨by repeat (first | (with_reducible first | exact HB.out | apply below_alloc | apply pw_below_drewN | apply below_drew1) | exact HB.out)⟩⟩
          · rw [if_neg c8] at H
            exact absurd H (by simp)
        | false =>
          rw [if_neg (by decide)] at H
          have H' := Aside0.mk H
          clear H
          go_wp2_with (first | (go_at_call 59; refine (HC.out _ (Below.refl _ _)).mono ?_; rintro e w9 ⟨rfl, hb⟩; have n0_ := Aside0.mk (Kd.R_below (by (with_reducible repeat (first | apply Kd.R_alloc | apply Kd.R_drewN | apply Kd.R_drew)); exact HO_5.out) hb); have n1_ := Aside0.mk (below_step (by repeat (first | (with_reducible first | exact HB.out | apply below_alloc | apply pw_below_drewN | apply below_drew1) | exact HB.out)) hb); have n2_ := Aside0.mk (blk_below (g := gb1) (o := .cells #[.int .i64 a0_0, .int .i64 a0_1, .int .i64 a0_2] 27 (0, 0)) BK1.out hb); clear HO_5; clear HB; clear BK1; have HO_5 := n0_; have HB := n1_; have BK1 := n2_; clear n0_ n1_ n2_; clear hb))
          go_roundg k1
          case measure => have := HK1.out; omega
          case rel => exact ⟨(x5_1), (wrap64 (x6_1 + 1)), (by first | rfl | (simp; done) | (simp [*]; done)), H', ⟨by have := HK1.out; omega⟩, ⟨by (with_reducible repeat (first | apply Kd.R_alloc | apply Kd.R_drewN | apply Kd.R_drew)); exact HO_5.out⟩, ⟨by (with_reducible repeat (first | refine blk_drewN ?_ _ | refine blk_drew ?_ | refine blk_alloc ?_ _)); exact BK1.out⟩, ⟨by repeat (first | (with_reducible first | exact HB.out | apply below_alloc | apply pw_below_drewN | apply below_drew1) | exact HB.out)⟩⟩
      · rw [if_neg c5] at H
        have c5b0 : decide (x6_1 ≤ a0_0) = false := decide_eq_false c5
        clear c5
        obtain rfl := Option.some.inj H
        go_wp2
        go_ret
        exact ⟨_, by first | rfl | (simp [errW_none, errW_some] <;> rfl) | (simp [*, errW_none, errW_some] <;> rfl), by (with_reducible repeat (first | apply Kd.R_alloc | apply Kd.R_drewN | apply Kd.R_drew)); exact HO_5.out, by repeat (first | (with_reducible first | exact HB.out | apply below_alloc | apply pw_below_drewN | apply below_drew1) | exact HB.out)⟩
def impl_StepsAbove.q (a0_0 a0_1 a0_2 a1 n : Int) : Option Bool := if n > a1 then (impl_Spiral_angle.f a0_0 a0_1 a0_2 n).bind fun x => (impl_Spiral_angle.f a0_0 a0_1 a0_2 a1).bind fun y => some (x == y) else some false
set_option maxHeartbeats 2000000 in
theorem above1 (a0_0 a0_1 a0_2 a1 n : Int) (b : Bool) (gp gs : Nat) (w : World) (hp : w.heap[gp]? = some (.cells #[.int .i64 a1] 3 (0, 0))) (hs : w.heap[gs]? = some (.cells #[.int .i64 a0_0, .int .i64 a0_1, .int .i64 a0_2] 27 (0, 0))) (h : impl_StepsAbove.q a0_0 a0_1 a0_2 a1 n = some b) :
    Calls Try.prog 59 #[.int .i64 n, .pointer (some ⟨gp, 0, none⟩), .pointer (some ⟨gs, 0, none⟩)] w fun e w' => e = .returned (.bool b) ∧ Below w.heap.size w w' := by
  have hu := Try.underlying27
  have hp0 : w.cell? ⟨gp, 0, none⟩ = some (.int .i64 a1) := (blk_cell hp 0).trans rfl
  have hs0 : w.cell? ⟨gs, 0, none⟩ = some (.int .i64 a0_0) := (blk_cell hs 0).trans rfl
  have hs1 : w.cell? ⟨gs, 1, none⟩ = some (.int .i64 a0_1) := (blk_cell hs 1).trans rfl
  have hs2 : w.cell? ⟨gs, 2, none⟩ = some (.int .i64 a0_2) := (blk_cell hs 2).trans rfl
  have lp := blk_lt hp
  have ls := blk_lt hs
  clear hp hs
  unfold impl_StepsAbove.q at h
  have HB0 := Aside0.mk (Below.refl w.heap.size w)
  by_cases c : n > a1
  · rw [if_pos c] at h
    have c0 : decide (a1 < n) = true := decide_eq_true c
    clear c
    obtain ⟨x, hx, h⟩ := Option.bind_eq_some_iff.mp h
    obtain ⟨y, hy, h⟩ := Option.bind_eq_some_iff.mp h
    obtain rfl := Option.some.inj h
    clear h
    have HX := Aside0.mk hx
    have HY := Aside0.mk hy
    clear hx hy
    go_enter Try.func59, Try.ntmps59
    go_wp2
    go_region_held3 (fun w' => (w'.cell? ⟨gp, 0, none⟩ = some (.int .i64 a1) ∧ w'.cell? ⟨gs, 0, none⟩ = some (.int .i64 a0_0) ∧ w'.cell? ⟨gs, 1, none⟩ = some (.int .i64 a0_1) ∧ w'.cell? ⟨gs, 2, none⟩ = some (.int .i64 a0_2)) ∧ Aside0 (Below w.heap.size w w'))
      (first | exact ⟨⟨by assumption, by assumption, by assumption, by assumption⟩, by assumption⟩ | exact ⟨⟨hp0, hs0, hs1, hs2⟩, ⟨below_drew1 HB0.out⟩⟩ | exact ⟨⟨pw_cell_below hb (by assumption), pw_cell_below hb (by assumption), pw_cell_below hb (by assumption), pw_cell_below hb (by assumption)⟩, ⟨below_step (Aside0.out (by assumption)) hb⟩⟩ | go_keep)
      (first | (go_at_call 60; refine (impl_Spiral_angle.calls a0_0 a0_1 a0_2 n x _ HX.out).mono ?_; rintro e w1 ⟨rfl, hb⟩; (have hh := ‹(_ ∧ _ ∧ _ ∧ _) ∧ Aside0 (Below w.heap.size w _)›); have q0 := pw_cell_below hb hh.1.1; have q1 := pw_cell_below hb hh.1.2.1; have q2 := pw_cell_below hb hh.1.2.2.1; have q3 := pw_cell_below hb hh.1.2.2.2; have q4 := Aside0.mk (below_step hh.2.out hb); clear hh) | (go_at_call 60; refine (impl_Spiral_angle.calls a0_0 a0_1 a0_2 a1 y _ HY.out).mono ?_; rintro e w1 ⟨rfl, hb⟩; (have hh := ‹(_ ∧ _ ∧ _ ∧ _) ∧ Aside0 (Below w.heap.size w _)›); have q0 := pw_cell_below hb hh.1.1; have q1 := pw_cell_below hb hh.1.2.1; have q2 := pw_cell_below hb hh.1.2.2.1; have q3 := pw_cell_below hb hh.1.2.2.2; have q4 := Aside0.mk (below_step hh.2.out hb); clear hh))
    have hh := (‹(_ ∧ _ ∧ _ ∧ _) ∧ Aside0 (Below w.heap.size w _)›).2
    go_wp2
    go_ret
    exact ⟨by first | rfl | (simp; done), hh.out⟩
  · rw [if_neg c] at h
    have c0 : decide (a1 < n) = false := decide_eq_false c
    clear c
    obtain rfl := Option.some.inj h
    clear h
    go_enter Try.func59, Try.ntmps59
    go_wp2
    go_quiet (fail)
    go_wp2
    go_ret
    exact ⟨by first | rfl | (simp; done), by repeat (first | (with_reducible first | exact HB0.out | apply below_alloc | apply pw_below_drewN | apply below_drew1) | exact HB0.out)⟩

def impl_StepsAbove.f (k : Nat) (a0_0 a0_1 a0_2 a1 : Int) : Option (List Int × Bool) := (impl_Spiral_has.f k a0_0 a0_1 a0_2 [a1]).bind fun b0 => if b0 = true then ((thoseW (impl_StepsAbove.q a0_0 a0_1 a0_2 a1) k a0_0 1 []).bind fun tt => some (tt, true)) else some ([], false)
theorem impl_StepsAbove.mono : ∀ a0_0 a0_1 a0_2 a1 k, LeO (impl_StepsAbove.f k a0_0 a0_1 a0_2 a1) (impl_StepsAbove.f (k + 1) a0_0 a0_1 a0_2 a1) := by
  intro a0_0 a0_1 a0_2 a1 k
  unfold impl_StepsAbove.f
  refine LeO.bind (impl_Spiral_has.mono _ _ _ _ _) (fun _ => ?_)
  refine LeO.ite ?_ (LeO.refl _)
  exact LeO.bind (thoseW_mono _ _ (fun n => LeO.refl _) _ _ _ _) (fun _ => LeO.refl _)
set_option maxHeartbeats 8000000 in
set_option maxRecDepth 100000 in
theorem impl_StepsAbove.calls (k : Nat) (a0_0 a0_1 a0_2 a1 : Int) (r1 : List Int) (r2 : Bool) (w : World) (h : impl_StepsAbove.f k a0_0 a0_1 a0_2 a1 = some (r1, r2)) :
    Calls Try.prog 27 #[.agg #[.int .i64 a0_0, .int .i64 a0_1, .int .i64 a0_2], .int .i64 a1] w fun e w' => ∃ v0_ : Value, e = .returned (.tuple #[v0_, .bool r2]) ∧ Kd.R (Kd.int .i64) 3 w' w.heap.size (fun _ => True) v0_ r1 ∧ Below w.heap.size w w' := by
  have hu_ := Try.underlying27
  have HB := Aside0.mk (Below.refl w.heap.size w)
  unfold impl_StepsAbove.f at h
  obtain ⟨y129, hy129⟩ : ∃ y_ : List Int, y_ = ([a1] : List Int) := ⟨_, rfl⟩
  rw [← hy129] at h
  have Ny129 := Aside0.mk hy129
  clear hy129
  obtain ⟨b0, hraw, h⟩ := Option.bind_eq_some_iff.mp h
  have HA0 := Aside0.mk hraw
  clear hraw
  cases b0 with
  | true =>
    rw [if_pos rfl] at h
    obtain ⟨tt, HT0, h⟩ := Option.bind_eq_some_iff.mp h
    have HT := Aside0.mk HT0
    clear HT0
    simp only [Option.some.injEq, Prod.mk.injEq] at h
    obtain ⟨rfl, rfl⟩ := h
    go_enter Try.func27, Try.ntmps27
    go_wp2_with (first | ((with_reducible refine gate_dst (N := 2) rfl ?_); refine box_event ?hg (N := 2) ?hd (cs := #[.int .i64 a0_0, .int .i64 a0_1, .int .i64 a0_2]) (t := 27) ?hr ?_; (case hd => rfl); (case hg => rfl); (case hr => first | (go_simp; done) | (go_simp; rfl)); intro gbs hg w1_ hbox hb; have BKs := Aside0.mk hbox; have GWs := Aside0.mk ((by rw [hg]; exact (below_size (by repeat (first | (with_reducible first | exact HB.out | apply below_alloc | apply pw_below_drewN | apply below_drew1) | exact HB.out))) : w.heap.size ≤ gbs)); clear hbox hg; have mb_ := Aside0.mk (below_step (by repeat (first | (with_reducible first | exact HB.out | apply below_alloc | apply pw_below_drewN | apply below_drew1) | exact HB.out)) hb); clear HB; have HB := mb_; clear mb_; clear hb; have hcz2_0 : w1_.cell? ⟨gbs, 0, none⟩ = some (.int .i64 a0_0) := (blk_cell BKs.out 0).trans rfl; have hfz2_0 := blk_frozen BKs.out 0; have hcz2_1 : w1_.cell? ⟨gbs, 1, none⟩ = some (.int .i64 a0_1) := (blk_cell BKs.out 1).trans rfl; have hfz2_1 := blk_frozen BKs.out 1; have hcz2_2 : w1_.cell? ⟨gbs, 2, none⟩ = some (.int .i64 a0_2) := (blk_cell BKs.out 2).trans rfl; have hfz2_2 := blk_frozen BKs.out 2) | ((with_reducible refine gate_dst (N := 3) rfl ?_); refine box_event ?hg (N := 3) ?hd (cs := #[.int .i64 a1]) (t := 3) ?hr ?_; (case hd => rfl); (case hg => rfl); (case hr => first | (go_simp; done) | (go_simp; rfl)); intro gbp hg w3_ hbox hb; have BKp := Aside0.mk hbox; have GWp := Aside0.mk ((by rw [hg]; exact (below_size (by repeat (first | (with_reducible first | exact HB.out | apply below_alloc | apply pw_below_drewN | apply below_drew1) | exact HB.out))) : w.heap.size ≤ gbp)); clear hbox hg; have ms_ := Aside0.mk (blk_below (g := gbs) (o := .cells #[.int .i64 a0_0, .int .i64 a0_1, .int .i64 a0_2] 27 (0, 0)) (by (with_reducible repeat (first | refine blk_drewN ?_ _ | refine blk_drew ?_ | refine blk_alloc ?_ _)); exact BKs.out) hb); have mb_ := Aside0.mk (below_step (by repeat (first | (with_reducible first | exact HB.out | apply below_alloc | apply pw_below_drewN | apply below_drew1) | exact HB.out)) hb); clear HB; have HB := mb_; clear mb_; clear BKs; have BKs := ms_; clear ms_; clear hb; have hcz4_0 : w3_.cell? ⟨gbs, 0, none⟩ = some (.int .i64 a0_0) := (blk_cell BKs.out 0).trans rfl; have hfz4_0 := blk_frozen BKs.out 0; have hcz4_1 : w3_.cell? ⟨gbs, 1, none⟩ = some (.int .i64 a0_1) := (blk_cell BKs.out 1).trans rfl; have hfz4_1 := blk_frozen BKs.out 1; have hcz4_2 : w3_.cell? ⟨gbs, 2, none⟩ = some (.int .i64 a0_2) := (blk_cell BKs.out 2).trans rfl; have hfz4_2 := blk_frozen BKs.out 2; have hcz5_0 : w3_.cell? ⟨gbp, 0, none⟩ = some (.int .i64 a1) := (blk_cell BKp.out 0).trans rfl; have hfz5_0 := blk_frozen BKp.out 0) | ((with_reducible refine gate_dst (N := 8) rfl ?_); refine Kd.R_lit (Kd.int .i64) _ 3 ?hg (N := 8) ?hd (xs := ([a1] : List Int)) (inner := [.int .i64 a1]) (ok := fun _ => True) (okp := fun _ => True) ?hr ?hp (fun _ hk => hk) trivial (Below.refl _ _) (Nat.le_refl _) (by simp) ?_; (case hd => rfl); (case hg => rfl); (case hr => first | (go_simp; done) | (go_simp; rfl)); (case hp => exact (Reps.one (show Kd.M (Kd.int .i64) _ _ _ a1 [.int .i64 a1] from rfl) (Reps.none _ _))); intro v130 w6_ ho hb hg_ hnew_; clear hg_ hnew_; (first | rw [← Ny129.out] at ho | (simp only [Int.reduceToNat] at ho; rw [← Ny129.out] at ho)); have HO131 := Aside0.mk (Kd.R_lower ho (below_size (by repeat (first | (with_reducible first | exact HB.out | apply below_alloc | apply pw_below_drewN | apply below_drew1) | exact HB.out)))); clear ho; have ms_ := Aside0.mk (blk_below (g := gbs) (o := .cells #[.int .i64 a0_0, .int .i64 a0_1, .int .i64 a0_2] 27 (0, 0)) (by (with_reducible repeat (first | refine blk_drewN ?_ _ | refine blk_drew ?_ | refine blk_alloc ?_ _)); exact BKs.out) hb); have mp_ := Aside0.mk (blk_below (g := gbp) (o := .cells #[.int .i64 a1] 3 (0, 0)) (by (with_reducible repeat (first | refine blk_drewN ?_ _ | refine blk_drew ?_ | refine blk_alloc ?_ _)); exact BKp.out) hb); have mb_ := Aside0.mk (below_step (by repeat (first | (with_reducible first | exact HB.out | apply below_alloc | apply pw_below_drewN | apply below_drew1) | exact HB.out)) hb); clear HB; have HB := mb_; clear mb_; clear BKs; have BKs := ms_; clear ms_; clear BKp; have BKp := mp_; clear mp_; clear hb; have hcz7_0 : w6_.cell? ⟨gbs, 0, none⟩ = some (.int .i64 a0_0) := (blk_cell BKs.out 0).trans rfl; have hfz7_0 := blk_frozen BKs.out 0; have hcz7_1 : w6_.cell? ⟨gbs, 1, none⟩ = some (.int .i64 a0_1) := (blk_cell BKs.out 1).trans rfl; have hfz7_1 := blk_frozen BKs.out 1; have hcz7_2 : w6_.cell? ⟨gbs, 2, none⟩ = some (.int .i64 a0_2) := (blk_cell BKs.out 2).trans rfl; have hfz7_2 := blk_frozen BKs.out 2; have hcz8_0 : w6_.cell? ⟨gbp, 0, none⟩ = some (.int .i64 a1) := (blk_cell BKp.out 0).trans rfl; have hfz8_0 := blk_frozen BKp.out 0; obtain ⟨Ao14, co14, eo14⟩ := Kd.R_slice HO131.out; subst eo14) | ((with_reducible refine gate_callee (f := 47) rfl ?_); refine goesL_ (some 9) rfl rfl Try.func47 (by kernel_rfl) rfl #[.agg #[.int .i64 a0_0, .int .i64 a0_1, .int .i64 a0_2], .slice Ao14 y129.length co14] rfl (by (try simp only [List.map_toArray, List.map_cons, List.map_nil]); first | done | rfl | (simp only [List.length_drop, List.length_take]; rfl)) ?_; (with_reducible refine (impl_Spiral_has.calls k a0_0 a0_1 a0_2 _ _ y129 true _ ?side1 ?side2 HA0.out).mono ?_); (case side1 => repeat (first | exact (Kd.R_reads' HO131.out).2.2 | (with_reducible refine Kd.C_alloc ?_ _) | (with_reducible refine Kd.C_drewN ?_ _) | (with_reducible refine Kd.C_drew ?_))); (case side2 => exact (Kd.R_reads' HO131.out).2.1); rintro e w9_ ⟨rfl, hb⟩; refine ⟨_, rfl, ?_⟩; have ms_ := Aside0.mk (blk_below (g := gbs) (o := .cells #[.int .i64 a0_0, .int .i64 a0_1, .int .i64 a0_2] 27 (0, 0)) (by (with_reducible repeat (first | refine blk_drewN ?_ _ | refine blk_drew ?_ | refine blk_alloc ?_ _)); exact BKs.out) hb); have mp_ := Aside0.mk (blk_below (g := gbp) (o := .cells #[.int .i64 a1] 3 (0, 0)) (by (with_reducible repeat (first | refine blk_drewN ?_ _ | refine blk_drew ?_ | refine blk_alloc ?_ _)); exact BKp.out) hb); have mb_ := Aside0.mk (below_step (by repeat (first | (with_reducible first | exact HB.out | apply below_alloc | apply pw_below_drewN | apply below_drew1) | exact HB.out)) hb); clear HB; have HB := mb_; clear mb_; clear BKs; have BKs := ms_; clear ms_; clear BKp; have BKp := mp_; clear mp_; clear hb; have hcz10_0 : w9_.cell? ⟨gbs, 0, none⟩ = some (.int .i64 a0_0) := (blk_cell BKs.out 0).trans rfl; have hfz10_0 := blk_frozen BKs.out 0; have hcz10_1 : w9_.cell? ⟨gbs, 1, none⟩ = some (.int .i64 a0_1) := (blk_cell BKs.out 1).trans rfl; have hfz10_1 := blk_frozen BKs.out 1; have hcz10_2 : w9_.cell? ⟨gbs, 2, none⟩ = some (.int .i64 a0_2) := (blk_cell BKs.out 2).trans rfl; have hfz10_2 := blk_frozen BKs.out 2; have hcz11_0 : w9_.cell? ⟨gbp, 0, none⟩ = some (.int .i64 a1) := (blk_cell BKp.out 0).trans rfl; have hfz11_0 := blk_frozen BKp.out 0) | ((with_reducible refine gate_callee (f := 41) rfl ?_); refine goesL_ (some 13) rfl rfl Try.func41 (by kernel_rfl) rfl #[.agg #[.int .i64 a0_0, .int .i64 a0_1, .int .i64 a0_2], .func (.func 59) #[] #[.pointer (some ⟨gbp, 0, none⟩), .pointer (some ⟨gbs, 0, none⟩)]] rfl (by (try simp only [List.map_toArray, List.map_cons, List.map_nil]); first | done | rfl | (simp only [List.length_drop, List.length_take]; rfl)) ?_; (with_reducible refine (spThose59 (impl_StepsAbove.q a0_0 a0_1 a0_2 a1) _ _ k a0_0 a0_1 a0_2 tt _ ?hq HT.out).mono ?_); (case hq => intro n b W hn hW; exact above1 a0_0 a0_1 a0_2 a1 n b gbp gbs W (blk_below (g := gbp) (o := .cells #[.int .i64 a1] 3 (0, 0)) (by (with_reducible repeat (first | refine blk_drewN ?_ _ | refine blk_drew ?_ | refine blk_alloc ?_ _)); exact BKp.out) hW) (blk_below (g := gbs) (o := .cells #[.int .i64 a0_0, .int .i64 a0_1, .int .i64 a0_2] 27 (0, 0)) (by (with_reducible repeat (first | refine blk_drewN ?_ _ | refine blk_drew ?_ | refine blk_alloc ?_ _)); exact BKs.out) hW) hn); rintro e w12_ ⟨v0_, rfl, ho, hb⟩; refine ⟨_, rfl, ?_⟩; have HO9 := Aside0.mk (Kd.R_lower ho (below_size (by repeat (first | (with_reducible first | exact HB.out | apply below_alloc | apply pw_below_drewN | apply below_drew1) | exact HB.out)))); clear ho; have ms_ := Aside0.mk (blk_below (g := gbs) (o := .cells #[.int .i64 a0_0, .int .i64 a0_1, .int .i64 a0_2] 27 (0, 0)) (by (with_reducible repeat (first | refine blk_drewN ?_ _ | refine blk_drew ?_ | refine blk_alloc ?_ _)); exact BKs.out) hb); have mp_ := Aside0.mk (blk_below (g := gbp) (o := .cells #[.int .i64 a1] 3 (0, 0)) (by (with_reducible repeat (first | refine blk_drewN ?_ _ | refine blk_drew ?_ | refine blk_alloc ?_ _)); exact BKp.out) hb); have mb_ := Aside0.mk (below_step (by repeat (first | (with_reducible first | exact HB.out | apply below_alloc | apply pw_below_drewN | apply below_drew1) | exact HB.out)) hb); clear HB; have HB := mb_; clear mb_; clear BKs; have BKs := ms_; clear ms_; clear BKp; have BKp := mp_; clear mp_; clear hb; have hcz13_0 : w12_.cell? ⟨gbs, 0, none⟩ = some (.int .i64 a0_0) := (blk_cell BKs.out 0).trans rfl; have hfz13_0 := blk_frozen BKs.out 0; have hcz13_1 : w12_.cell? ⟨gbs, 1, none⟩ = some (.int .i64 a0_1) := (blk_cell BKs.out 1).trans rfl; have hfz13_1 := blk_frozen BKs.out 1; have hcz13_2 : w12_.cell? ⟨gbs, 2, none⟩ = some (.int .i64 a0_2) := (blk_cell BKs.out 2).trans rfl; have hfz13_2 := blk_frozen BKs.out 2; have hcz14_0 : w12_.cell? ⟨gbp, 0, none⟩ = some (.int .i64 a1) := (blk_cell BKp.out 0).trans rfl; have hfz14_0 := blk_frozen BKp.out 0))
    go_ret2
    exact ⟨_, rfl, by (with_reducible repeat (first | apply Kd.R_alloc | apply Kd.R_drewN | apply Kd.R_drew)); exact HO9.out, by repeat (first | (with_reducible first | exact HB.out | apply below_alloc | apply pw_below_drewN | apply below_drew1) | exact HB.out)⟩
  | false =>
    rw [if_neg (by decide)] at h
    simp only [Option.some.injEq, Prod.mk.injEq] at h
    obtain ⟨rfl, rfl⟩ := h
    go_enter Try.func27, Try.ntmps27
    go_wp2_with (first | ((with_reducible refine gate_dst (N := 2) rfl ?_); refine box_event ?hg (N := 2) ?hd (cs := #[.int .i64 a0_0, .int .i64 a0_1, .int .i64 a0_2]) (t := 27) ?hr ?_; (case hd => rfl); (case hg => rfl); (case hr => first | (go_simp; done) | (go_simp; rfl)); intro gbs hg w15_ hbox hb; have BKs := Aside0.mk hbox; have GWs := Aside0.mk ((by rw [hg]; exact (below_size (by repeat (first | (with_reducible first | exact HB.out | apply below_alloc | apply pw_below_drewN | apply below_drew1) | exact HB.out))) : w.heap.size ≤ gbs)); clear hbox hg; have mb_ := Aside0.mk (below_step (by repeat (first | (with_reducible first | exact HB.out | apply below_alloc | apply pw_below_drewN | apply below_drew1) | exact HB.out)) hb); clear HB; have HB := mb_; clear mb_; clear hb; have hcz16_0 : w15_.cell? ⟨gbs, 0, none⟩ = some (.int .i64 a0_0) := (blk_cell BKs.out 0).trans rfl; have hfz16_0 := blk_frozen BKs.out 0; have hcz16_1 : w15_.cell? ⟨gbs, 1, none⟩ = some (.int .i64 a0_1) := (blk_cell BKs.out 1).trans rfl; have hfz16_1 := blk_frozen BKs.out 1; have hcz16_2 : w15_.cell? ⟨gbs, 2, none⟩ = some (.int .i64 a0_2) := (blk_cell BKs.out 2).trans rfl; have hfz16_2 := blk_frozen BKs.out 2) | ((with_reducible refine gate_dst (N := 3) rfl ?_); refine box_event ?hg (N := 3) ?hd (cs := #[.int .i64 a1]) (t := 3) ?hr ?_; (case hd => rfl); (case hg => rfl); (case hr => first | (go_simp; done) | (go_simp; rfl)); intro gbp hg w17_ hbox hb; have BKp := Aside0.mk hbox; have GWp := Aside0.mk ((by rw [hg]; exact (below_size (by repeat (first | (with_reducible first | exact HB.out | apply below_alloc | apply pw_below_drewN | apply below_drew1) | exact HB.out))) : w.heap.size ≤ gbp)); clear hbox hg; have ms_ := Aside0.mk (blk_below (g := gbs) (o := .cells #[.int .i64 a0_0, .int .i64 a0_1, .int .i64 a0_2] 27 (0, 0)) (by (with_reducible repeat (first | refine blk_drewN ?_ _ | refine blk_drew ?_ | refine blk_alloc ?_ _)); exact BKs.out) hb); have mb_ := Aside0.mk (below_step (by repeat (first | (with_reducible first | exact HB.out | apply below_alloc | apply pw_below_drewN | apply below_drew1) | exact HB.out)) hb); clear HB; have HB := mb_; clear mb_; clear BKs; have BKs := ms_; clear ms_; clear hb; have hcz18_0 : w17_.cell? ⟨gbs, 0, none⟩ = some (.int .i64 a0_0) := (blk_cell BKs.out 0).trans rfl; have hfz18_0 := blk_frozen BKs.out 0; have hcz18_1 : w17_.cell? ⟨gbs, 1, none⟩ = some (.int .i64 a0_1) := (blk_cell BKs.out 1).trans rfl; have hfz18_1 := blk_frozen BKs.out 1; have hcz18_2 : w17_.cell? ⟨gbs, 2, none⟩ = some (.int .i64 a0_2) := (blk_cell BKs.out 2).trans rfl; have hfz18_2 := blk_frozen BKs.out 2; have hcz19_0 : w17_.cell? ⟨gbp, 0, none⟩ = some (.int .i64 a1) := (blk_cell BKp.out 0).trans rfl; have hfz19_0 := blk_frozen BKp.out 0) | ((with_reducible refine gate_dst (N := 8) rfl ?_); refine Kd.R_lit (Kd.int .i64) _ 3 ?hg (N := 8) ?hd (xs := ([a1] : List Int)) (inner := [.int .i64 a1]) (ok := fun _ => True) (okp := fun _ => True) ?hr ?hp (fun _ hk => hk) trivial (Below.refl _ _) (Nat.le_refl _) (by simp) ?_; (case hd => rfl); (case hg => rfl); (case hr => first | (go_simp; done) | (go_simp; rfl)); (case hp => exact (Reps.one (show Kd.M (Kd.int .i64) _ _ _ a1 [.int .i64 a1] from rfl) (Reps.none _ _))); intro v130 w20_ ho hb hg_ hnew_; clear hg_ hnew_; (first | rw [← Ny129.out] at ho | (simp only [Int.reduceToNat] at ho; rw [← Ny129.out] at ho)); have HO131 := Aside0.mk (Kd.R_lower ho (below_size (by repeat (first | (with_reducible first | exact HB.out | apply below_alloc | apply pw_below_drewN | apply below_drew1) | exact HB.out)))); clear ho; have ms_ := Aside0.mk (blk_below (g := gbs) (o := .cells #[.int .i64 a0_0, .int .i64 a0_1, .int .i64 a0_2] 27 (0, 0)) (by (with_reducible repeat (first | refine blk_drewN ?_ _ | refine blk_drew ?_ | refine blk_alloc ?_ _)); exact BKs.out) hb); have mp_ := Aside0.mk (blk_below (g := gbp) (o := .cells #[.int .i64 a1] 3 (0, 0)) (by (with_reducible repeat (first | refine blk_drewN ?_ _ | refine blk_drew ?_ | refine blk_alloc ?_ _)); exact BKp.out) hb); have mb_ := Aside0.mk (below_step (by repeat (first | (with_reducible first | exact HB.out | apply below_alloc | apply pw_below_drewN | apply below_drew1) | exact HB.out)) hb); clear HB; have HB := mb_; clear mb_; clear BKs; have BKs := ms_; clear ms_; clear BKp; have BKp := mp_; clear mp_; clear hb; have hcz21_0 : w20_.cell? ⟨gbs, 0, none⟩ = some (.int .i64 a0_0) := (blk_cell BKs.out 0).trans rfl; have hfz21_0 := blk_frozen BKs.out 0; have hcz21_1 : w20_.cell? ⟨gbs, 1, none⟩ = some (.int .i64 a0_1) := (blk_cell BKs.out 1).trans rfl; have hfz21_1 := blk_frozen BKs.out 1; have hcz21_2 : w20_.cell? ⟨gbs, 2, none⟩ = some (.int .i64 a0_2) := (blk_cell BKs.out 2).trans rfl; have hfz21_2 := blk_frozen BKs.out 2; have hcz22_0 : w20_.cell? ⟨gbp, 0, none⟩ = some (.int .i64 a1) := (blk_cell BKp.out 0).trans rfl; have hfz22_0 := blk_frozen BKp.out 0; obtain ⟨Ao14, co14, eo14⟩ := Kd.R_slice HO131.out; subst eo14) | ((with_reducible refine gate_callee (f := 47) rfl ?_); refine goesL_ (some 9) rfl rfl Try.func47 (by kernel_rfl) rfl #[.agg #[.int .i64 a0_0, .int .i64 a0_1, .int .i64 a0_2], .slice Ao14 y129.length co14] rfl (by (try simp only [List.map_toArray, List.map_cons, List.map_nil]); first | done | rfl | (simp only [List.length_drop, List.length_take]; rfl)) ?_; (with_reducible refine (impl_Spiral_has.calls k a0_0 a0_1 a0_2 _ _ y129 false _ ?side1 ?side2 HA0.out).mono ?_); (case side1 => repeat (first | exact (Kd.R_reads' HO131.out).2.2 | (with_reducible refine Kd.C_alloc ?_ _) | (with_reducible refine Kd.C_drewN ?_ _) | (with_reducible refine Kd.C_drew ?_))); (case side2 => exact (Kd.R_reads' HO131.out).2.1); rintro e w23_ ⟨rfl, hb⟩; refine ⟨_, rfl, ?_⟩; have ms_ := Aside0.mk (blk_below (g := gbs) (o := .cells #[.int .i64 a0_0, .int .i64 a0_1, .int .i64 a0_2] 27 (0, 0)) (by (with_reducible repeat (first | refine blk_drewN ?_ _ | refine blk_drew ?_ | refine blk_alloc ?_ _)); exact BKs.out) hb); have mp_ := Aside0.mk (blk_below (g := gbp) (o := .cells #[.int .i64 a1] 3 (0, 0)) (by (with_reducible repeat (first | refine blk_drewN ?_ _ | refine blk_drew ?_ | refine blk_alloc ?_ _)); exact BKp.out) hb); have mb_ := Aside0.mk (below_step (by repeat (first | (with_reducible first | exact HB.out | apply below_alloc | apply pw_below_drewN | apply below_drew1) | exact HB.out)) hb); clear HB; have HB := mb_; clear mb_; clear BKs; have BKs := ms_; clear ms_; clear BKp; have BKp := mp_; clear mp_; clear hb; have hcz24_0 : w23_.cell? ⟨gbs, 0, none⟩ = some (.int .i64 a0_0) := (blk_cell BKs.out 0).trans rfl; have hfz24_0 := blk_frozen BKs.out 0; have hcz24_1 : w23_.cell? ⟨gbs, 1, none⟩ = some (.int .i64 a0_1) := (blk_cell BKs.out 1).trans rfl; have hfz24_1 := blk_frozen BKs.out 1; have hcz24_2 : w23_.cell? ⟨gbs, 2, none⟩ = some (.int .i64 a0_2) := (blk_cell BKs.out 2).trans rfl; have hfz24_2 := blk_frozen BKs.out 2; have hcz25_0 : w23_.cell? ⟨gbp, 0, none⟩ = some (.int .i64 a1) := (blk_cell BKp.out 0).trans rfl; have hfz25_0 := blk_frozen BKp.out 0))
    go_ret2
    exact ⟨_, rfl, Kd.R_nil _ _ _ _ _, by repeat (first | (with_reducible first | exact HB.out | apply below_alloc | apply pw_below_drewN | apply below_drew1) | exact HB.out)⟩

/-! ### laws_FnExactStepsAbove: function 7 -/
mutual
def laws_FnExactStepsAbove.j0 : Nat → Int → List Int → Bool → List Int → Bool → Int → Int → Int → Option (Bool)
  | 0, _, _, _, _, _, _, _, _ => none
  | k + 1, x1, x5, x6, x7, x35, x130000, x130001, x130002 => if x35 = true then (some false) else ((laws_markIntS.f k x7 1).bind fun bt145 => ((laws_heldIntS.f k bt145.2 1).bind fun t147 => (if t147 < 0 then (some false) else (if t147 = bt145.1 then ((laws_toSpiral.f x130000 x130001 x130002).bind fun bt148 => ((impl_StepsAbove.f k bt148.1 bt148.2.1 bt148.2.2 x1).bind fun bt151 => ((laws_eqIntS.f k bt151.1 x5).bind fun t155 => (if t155 = true then (laws_FnExactStepsAbove.j1 k bt145.2 bt145.1 (bt151.2 != x6)) else (laws_FnExactStepsAbove.j1 k bt145.2 bt145.1 true))))) else (some false)))))
def laws_FnExactStepsAbove.j1 : Nat → List Int → Int → Bool → Option (Bool)
  | 0, _, _, _ => none
  | k + 1, x7, x9, x62 => if x62 = true then (some false) else ((laws_heldIntS.f k x7 1).bind fun t156 => (if t156 < 0 then (some false) else (if t156 = x9 then (some true) else (some false))))
end
def laws_FnExactStepsAbove.f (k : Nat) (a0_0 : Int) (a0_1 : Int) (a0_2 : Int) (a1 : Int) : Option (Bool) := (laws_toSpiral.f a0_0 a0_1 a0_2).bind fun bt130 => ((spec_StepsAbove.f k bt130.1 bt130.2.1 bt130.2.2 a1).bind fun bt133 => ((laws_toSpiral.f a0_0 a0_1 a0_2).bind fun bt137 => ((impl_StepsAbove.f k bt137.1 bt137.2.1 bt137.2.2 a1).bind fun bt140 => ((laws_eqIntS.f k bt140.1 bt133.1).bind fun t144 => (if t144 = true then (laws_FnExactStepsAbove.j0 k a1 bt133.1 bt133.2 bt140.1 (bt140.2 != bt133.2) a0_0 a0_1 a0_2) else (laws_FnExactStepsAbove.j0 k a1 bt133.1 bt133.2 bt140.1 true a0_0 a0_1 a0_2))))))
theorem laws_FnExactStepsAbove.mono_l : ∀ k, (∀ y0 y1 y2 y3 y4 y5 y6 y7, LeO (laws_FnExactStepsAbove.j0 k y0 y1 y2 y3 y4 y5 y6 y7) (laws_FnExactStepsAbove.j0 (k + 1) y0 y1 y2 y3 y4 y5 y6 y7)) ∧ (∀ y0 y1 y2, LeO (laws_FnExactStepsAbove.j1 k y0 y1 y2) (laws_FnExactStepsAbove.j1 (k + 1) y0 y1 y2))
  | 0 => ⟨fun _ _ _ _ _ _ _ _ r h => by simp [laws_FnExactStepsAbove.j0] at h, fun _ _ _ r h => by simp [laws_FnExactStepsAbove.j1] at h⟩
  | k + 1 => by
    obtain ⟨ih0, ih1⟩ := laws_FnExactStepsAbove.mono_l k
    refine ⟨?_, ?_⟩
    · intro y0 y1 y2 y3 y4 y5 y6 y7
      unfold laws_FnExactStepsAbove.j0
      repeat' first
      | (with_reducible exact ih0 _ _ _ _ _ _ _ _)
      | (with_reducible exact ih1 _ _ _)
      | (with_reducible exact impl_StepsAbove.mono _ _ _ _ _)
      | (with_reducible exact laws_eqIntS.mono _ _ _)
      | (with_reducible exact laws_heldIntS.mono _ _ _)
      | (with_reducible exact laws_markIntS.mono _ _ _)
      | (with_reducible exact spec_StepsAbove.mono _ _ _ _ _)
      | (with_reducible exact LeO.refl _)
      | (with_reducible exact LeO.none _)
      | (with_reducible refine LeO.ite ?_ ?_)
      | (with_reducible refine LeO.bind ?_ (fun _ => ?_))
      | exact ih0 _ _ _ _ _ _ _ _
      | exact ih1 _ _ _
      | exact impl_StepsAbove.mono _ _ _ _ _
      | exact laws_eqIntS.mono _ _ _
      | exact laws_heldIntS.mono _ _ _
      | exact laws_markIntS.mono _ _ _
      | exact spec_StepsAbove.mono _ _ _ _ _
      | exact LeO.none _
      | refine LeO.ite ?_ ?_
      | refine LeO.bind ?_ (fun _ => ?_)
    · intro y0 y1 y2
      unfold laws_FnExactStepsAbove.j1
      repeat' first
      | (with_reducible exact ih0 _ _ _ _ _ _ _ _)
      | (with_reducible exact ih1 _ _ _)
      | (with_reducible exact impl_StepsAbove.mono _ _ _ _ _)
      | (with_reducible exact laws_eqIntS.mono _ _ _)
      | (with_reducible exact laws_heldIntS.mono _ _ _)
      | (with_reducible exact laws_markIntS.mono _ _ _)
      | (with_reducible exact spec_StepsAbove.mono _ _ _ _ _)
      | (with_reducible exact LeO.refl _)
      | (with_reducible exact LeO.none _)
      | (with_reducible refine LeO.ite ?_ ?_)
      | (with_reducible refine LeO.bind ?_ (fun _ => ?_))
      | exact ih0 _ _ _ _ _ _ _ _
      | exact ih1 _ _ _
      | exact impl_StepsAbove.mono _ _ _ _ _
      | exact laws_eqIntS.mono _ _ _
      | exact laws_heldIntS.mono _ _ _
      | exact laws_markIntS.mono _ _ _
      | exact spec_StepsAbove.mono _ _ _ _ _
      | exact LeO.none _
      | refine LeO.ite ?_ ?_
      | refine LeO.bind ?_ (fun _ => ?_)
theorem laws_FnExactStepsAbove.mono : ∀ a0 a1 a2 a3 k, LeO (laws_FnExactStepsAbove.f k a0 a1 a2 a3) (laws_FnExactStepsAbove.f (k + 1) a0 a1 a2 a3) := by
  intro a0 a1 a2 a3 k
  obtain ⟨ih0, ih1⟩ := laws_FnExactStepsAbove.mono_l k
  unfold laws_FnExactStepsAbove.f
  repeat' first
      | (with_reducible exact ih0 _ _ _ _ _ _ _ _)
      | (with_reducible exact ih1 _ _ _)
      | (with_reducible exact impl_StepsAbove.mono _ _ _ _ _)
      | (with_reducible exact laws_eqIntS.mono _ _ _)
      | (with_reducible exact laws_heldIntS.mono _ _ _)
      | (with_reducible exact laws_markIntS.mono _ _ _)
      | (with_reducible exact spec_StepsAbove.mono _ _ _ _ _)
      | (with_reducible exact LeO.refl _)
      | (with_reducible exact LeO.none _)
      | (with_reducible refine LeO.ite ?_ ?_)
      | (with_reducible refine LeO.bind ?_ (fun _ => ?_))
      | exact ih0 _ _ _ _ _ _ _ _
      | exact ih1 _ _ _
      | exact impl_StepsAbove.mono _ _ _ _ _
      | exact laws_eqIntS.mono _ _ _
      | exact laws_heldIntS.mono _ _ _
      | exact laws_markIntS.mono _ _ _
      | exact spec_StepsAbove.mono _ _ _ _ _
      | exact LeO.none _
      | refine LeO.ite ?_ ?_
      | refine LeO.bind ?_ (fun _ => ?_)
set_option maxHeartbeats 8000000 in
set_option maxRecDepth 100000 in
theorem laws_FnExactStepsAbove.calls (k : Nat) (a0_0 : Int) (a0_1 : Int) (a0_2 : Int) (a1 : Int) (r : Bool) (w : World) (h : laws_FnExactStepsAbove.f k a0_0 a0_1 a0_2 a1 = some r) :
    Calls Try.prog 7 #[.agg #[.int .i64 a0_0, .int .i64 a0_1, .int .i64 a0_2], .int .i64 a1] w fun e w' => e = .returned (.bool r) ∧ Below w.heap.size w w' := by
  have hu23 := Try.underlying23
  have HB := Aside0.mk (Below.refl w.heap.size w)
  have H : ((laws_toSpiral.f a0_0 a0_1 a0_2).bind fun bt130 => ((spec_StepsAbove.f k bt130.1 bt130.2.1 bt130.2.2 a1).bind fun bt133 => ((laws_toSpiral.f a0_0 a0_1 a0_2).bind fun bt137 => ((impl_StepsAbove.f k bt137.1 bt137.2.1 bt137.2.2 a1).bind fun bt140 => ((laws_eqIntS.f k bt140.1 bt133.1).bind fun t144 => (if t144 = true then (laws_FnExactStepsAbove.j0 k a1 bt133.1 bt133.2 bt140.1 (bt140.2 != bt133.2) a0_0 a0_1 a0_2) else (laws_FnExactStepsAbove.j0 k a1 bt133.1 bt133.2 bt140.1 true a0_0 a0_1 a0_2))))))) = some r := h
  clear h
  replace H := Option.bind_eq_some_iff.mp H
  obtain ⟨⟨t130, t131, t132⟩, A30, H⟩ := H
  replace H : ((spec_StepsAbove.f k t130 t131 t132 a1).bind fun bt133 => ((laws_toSpiral.f a0_0 a0_1 a0_2).bind fun bt137 => ((impl_StepsAbove.f k bt137.1 bt137.2.1 bt137.2.2 a1).bind fun bt140 => ((laws_eqIntS.f k bt140.1 bt133.1).bind fun t144 => (if t144 = true then (laws_FnExactStepsAbove.j0 k a1 bt133.1 bt133.2 bt140.1 (bt140.2 != bt133.2) a0_0 a0_1 a0_2) else (laws_FnExactStepsAbove.j0 k a1 bt133.1 bt133.2 bt140.1 true a0_0 a0_1 a0_2)))))) = some r := H
  have A3 := Aside0.mk A30
  clear A30
  replace H := Option.bind_eq_some_iff.mp H
  obtain ⟨⟨t133, t136⟩, A40, H⟩ := H
  replace H : ((laws_toSpiral.f a0_0 a0_1 a0_2).bind fun bt137 => ((impl_StepsAbove.f k bt137.1 bt137.2.1 bt137.2.2 a1).bind fun bt140 => ((laws_eqIntS.f k bt140.1 t133).bind fun t144 => (if t144 = true then (laws_FnExactStepsAbove.j0 k a1 t133 t136 bt140.1 (bt140.2 != t136) a0_0 a0_1 a0_2) else (laws_FnExactStepsAbove.j0 k a1 t133 t136 bt140.1 true a0_0 a0_1 a0_2))))) = some r := H
  have A4 := Aside0.mk A40
  clear A40
  replace H := Option.bind_eq_some_iff.mp H
  obtain ⟨⟨t137, t138, t139⟩, A50, H⟩ := H
  replace H : ((impl_StepsAbove.f k t137 t138 t139 a1).bind fun bt140 => ((laws_eqIntS.f k bt140.1 t133).bind fun t144 => (if t144 = true then (laws_FnExactStepsAbove.j0 k a1 t133 t136 bt140.1 (bt140.2 != t136) a0_0 a0_1 a0_2) else (laws_FnExactStepsAbove.j0 k a1 t133 t136 bt140.1 true a0_0 a0_1 a0_2)))) = some r := H
  have A5 := Aside0.mk A50
  clear A50
  replace H := Option.bind_eq_some_iff.mp H
  obtain ⟨⟨t140, t143⟩, A60, H⟩ := H
  replace H : ((laws_eqIntS.f k t140 t133).bind fun t144 => (if t144 = true then (laws_FnExactStepsAbove.j0 k a1 t133 t136 t140 (t143 != t136) a0_0 a0_1 a0_2) else (laws_FnExactStepsAbove.j0 k a1 t133 t136 t140 true a0_0 a0_1 a0_2))) = some r := H
  have A6 := Aside0.mk A60
  clear A60
  have HC7 := Aside0.mk H
  clear H
  go_enter Try.func7, Try.ntmps7
  go_upto_region 3 with (first | ((with_reducible refine gate_dst (N := 2) rfl ?_); refine box_event ?hg (N := 2) ?hd (cs := #[.int .i64 a0_0, .int .i64 a0_1, .int .i64 a0_2]) (t := 23) ?hr ?_; (case hd => rfl); (case hg => rfl); (case hr => first | (go_simp; done) | (go_simp; rfl)); intro gb129 hg w8 hbox hb; have n0_ := Aside0.mk (below_step (by repeat (first | (with_reducible first | exact HB.out | apply below_alloc | apply pw_below_drewN | apply below_drew1) | exact HB.out)) hb); have n1_ := Aside0.mk (hbox); have n2_ := Aside0.mk ((by rw [hg]; exact (below_size (by repeat (first | (with_reducible first | exact HB.out | apply below_alloc | apply pw_below_drewN | apply below_drew1) | exact HB.out))) : w.heap.size ≤ gb129)); have n3_ := Aside0.mk ((by rw [hg]; exact (below_size (by repeat (first | (with_reducible first | exact HB.out | apply below_alloc | apply pw_below_drewN | apply below_drew1) | exact HB.out))) : w.heap.size ≤ gb129)); clear HB; have HB := n0_; have BK129 := n1_; have GW129 := n2_; have GE129 := n3_; clear n0_ n1_ n2_ n3_; clear hb hbox hg; have hcz9_0 : w8.cell? ⟨gb129, 0, none⟩ = some (.int .i64 a0_0) := (blk_cell BK129.out 0).trans rfl; have hcz9_1 : w8.cell? ⟨gb129, 1, none⟩ = some (.int .i64 a0_1) := (blk_cell BK129.out 1).trans rfl; have hcz9_2 : w8.cell? ⟨gb129, 2, none⟩ = some (.int .i64 a0_2) := (blk_cell BK129.out 2).trans rfl; have hfz9_0 := blk_frozen BK129.out 0; have hfz9_1 := blk_frozen BK129.out 1; have hfz9_2 := blk_frozen BK129.out 2) | ((with_reducible refine gate_callee (f := 14) rfl ?_); refine goesL_ (some 15) rfl rfl Try.func14 (by kernel_rfl) rfl #[.agg #[.int .i64 a0_0, .int .i64 a0_1, .int .i64 a0_2]] rfl (by (try simp only [List.map_toArray, List.map_cons, List.map_nil]); first | done | rfl | (simp only [List.length_drop, List.length_take]; rfl)) ?_; (with_reducible refine (laws_toSpiral.calls a0_0 a0_1 a0_2 t130 t131 t132 _ A3.out).mono ?_); rintro e w10 ⟨rfl, hb⟩; refine ⟨_, rfl, ?_⟩; have n0_ := Aside0.mk (blk_below (g := gb129) (o := .cells #[.int .i64 a0_0, .int .i64 a0_1, .int .i64 a0_2] 23 (0, 0)) (by (with_reducible repeat (first | refine blk_drewN ?_ _ | refine blk_drew ?_ | refine blk_alloc ?_ _)); exact BK129.out) hb); have n1_ := Aside0.mk (below_step (by repeat (first | (with_reducible first | exact HB.out | apply below_alloc | apply pw_below_drewN | apply below_drew1 | refine below_set ?_ GE129.out) | exact HB.out)) hb); clear BK129; clear HB; have BK129 := n0_; have HB := n1_; clear n0_ n1_; (try clear hb); (try clear hb2); (try clear hk); (try clear hi)) | ((with_reducible refine gate_callee (f := 26) rfl ?_); refine goesL_ (some 17) rfl rfl Try.func26 (by kernel_rfl) rfl #[.agg #[.int .i64 t130, .int .i64 t131, .int .i64 t132], .int .i64 a1] rfl (by (try simp only [List.map_toArray, List.map_cons, List.map_nil]); first | done | rfl | (simp only [List.length_drop, List.length_take]; rfl)) ?_; (with_reducible refine (spec_StepsAbove.calls k t130 t131 t132 a1 t133 t136 _ A4.out).mono ?_); rintro e w11 ⟨v134, rfl, ho0, hb⟩; refine ⟨_, rfl, ?_⟩; have n0_ := Aside0.mk (Kd.R_lower ho0 (below_size (by repeat (first | (with_reducible first | exact HB.out | apply below_alloc | apply pw_below_drewN | apply below_drew1 | refine below_set ?_ GE129.out) | exact HB.out)))); have n1_ := Aside0.mk (blk_below (g := gb129) (o := .cells #[.int .i64 a0_0, .int .i64 a0_1, .int .i64 a0_2] 23 (0, 0)) (by (with_reducible repeat (first | refine blk_drewN ?_ _ | refine blk_drew ?_ | refine blk_alloc ?_ _)); exact BK129.out) hb); have n2_ := Aside0.mk (below_step (by repeat (first | (with_reducible first | exact HB.out | apply below_alloc | apply pw_below_drewN | apply below_drew1 | refine below_set ?_ GE129.out) | exact HB.out)) hb); clear BK129; clear HB; have HO135 := n0_; have BK129 := n1_; have HB := n2_; clear n0_ n1_ n2_; (try clear hb); (try clear hb2); (try clear hk); (try clear hi); (try clear ho0); have hcz12_0 : w11.cell? ⟨gb129, 0, none⟩ = some (.int .i64 a0_0) := (blk_cell BK129.out 0).trans rfl; have hcz12_1 : w11.cell? ⟨gb129, 1, none⟩ = some (.int .i64 a0_1) := (blk_cell BK129.out 1).trans rfl; have hcz12_2 : w11.cell? ⟨gb129, 2, none⟩ = some (.int .i64 a0_2) := (blk_cell BK129.out 2).trans rfl; have hfz12_0 := blk_frozen BK129.out 0; have hfz12_1 := blk_frozen BK129.out 1; have hfz12_2 := blk_frozen BK129.out 2) | ((with_reducible refine gate_callee (f := 14) rfl ?_); refine goesL_ (some 22) rfl rfl Try.func14 (by kernel_rfl) rfl #[.agg #[.int .i64 a0_0, .int .i64 a0_1, .int .i64 a0_2]] rfl (by (try simp only [List.map_toArray, List.map_cons, List.map_nil]); first | done | rfl | (simp only [List.length_drop, List.length_take]; rfl)) ?_; (with_reducible refine (laws_toSpiral.calls a0_0 a0_1 a0_2 t137 t138 t139 _ A5.out).mono ?_); rintro e w13 ⟨rfl, hb⟩; refine ⟨_, rfl, ?_⟩; have n0_ := Aside0.mk (Kd.R_below (by (with_reducible repeat (first | apply Kd.R_alloc | apply Kd.R_drewN | apply Kd.R_drew)); exact HO135.out) hb); have n1_ := Aside0.mk (blk_below (g := gb129) (o := .cells #[.int .i64 a0_0, .int .i64 a0_1, .int .i64 a0_2] 23 (0, 0)) (by (with_reducible repeat (first | refine blk_drewN ?_ _ | refine blk_drew ?_ | refine blk_alloc ?_ _)); exact BK129.out) hb); have n2_ := Aside0.mk (below_step (by repeat (first | (with_reducible first | exact HB.out | apply below_alloc | apply pw_below_drewN | apply below_drew1 | refine below_set ?_ GE129.out) | exact HB.out)) hb); clear HO135; clear BK129; clear HB; have HO135 := n0_; have BK129 := n1_; have HB := n2_; clear n0_ n1_ n2_; (try clear hb); (try clear hb2); (try clear hk); (try clear hi)) | ((with_reducible refine gate_callee (f := 27) rfl ?_); refine goesL_ (some 24) rfl rfl Try.func27 (by kernel_rfl) rfl #[.agg #[.int .i64 t137, .int .i64 t138, .int .i64 t139], .int .i64 a1] rfl (by (try simp only [List.map_toArray, List.map_cons, List.map_nil]); first | done | rfl | (simp only [List.length_drop, List.length_take]; rfl)) ?_; (with_reducible refine (impl_StepsAbove.calls k t137 t138 t139 a1 t140 t143 _ A6.out).mono ?_); rintro e w14 ⟨v141, rfl, ho0, hb⟩; refine ⟨_, rfl, ?_⟩; have n0_ := Aside0.mk (Kd.R_elder' (by (with_reducible repeat (first | apply Kd.R_alloc | apply Kd.R_drewN | apply Kd.R_drew)); exact HO135.out) (Kd.R_base ho0) hb); have n1_ := Aside0.mk (Kd.R_lower (Kd.R_new' ho0 (Kd.R_lt (by (with_reducible repeat (first | apply Kd.R_alloc | apply Kd.R_drewN | apply Kd.R_drew)); exact HO135.out))) (below_size (by repeat (first | (with_reducible first | exact HB.out | apply below_alloc | apply pw_below_drewN | apply below_drew1 | refine below_set ?_ GE129.out) | exact HB.out)))); have n2_ := Aside0.mk (blk_below (g := gb129) (o := .cells #[.int .i64 a0_0, .int .i64 a0_1, .int .i64 a0_2] 23 (0, 0)) (by (with_reducible repeat (first | refine blk_drewN ?_ _ | refine blk_drew ?_ | refine blk_alloc ?_ _)); exact BK129.out) hb); have n3_ := Aside0.mk (below_step (by repeat (first | (with_reducible first | exact HB.out | apply below_alloc | apply pw_below_drewN | apply below_drew1 | refine below_set ?_ GE129.out) | exact HB.out)) hb); clear HO135; clear BK129; clear HB; have HO135 := n0_; have HO142 := n1_; have BK129 := n2_; have HB := n3_; clear n0_ n1_ n2_ n3_; (try clear hb); (try clear hb2); (try clear hk); (try clear hi); (try clear ho0)))
  (try simp only [Act.put, List.setIfInBounds_toArray, List.set_cons_zero, List.set_cons_succ])
  go_cut [35] (fun v35 wc => ∃ (kq : Nat) (x35_6 : Bool), v35 = .bool x35_6 ∧ Aside0 (laws_FnExactStepsAbove.j0 kq a1 t133 t136 t140 x35_6 a0_0 a0_1 a0_2 = some r) ∧ Aside0 (kq ≤ k) ∧ Aside0 (Kd.R (Kd.int .i64) 3 wc w.heap.size (fun k_ => some k_ ≠ (v141 : Value).ownBlock) v134 t133) ∧ Aside0 (Kd.R (Kd.int .i64) 3 wc w.heap.size (fun k_ => some k_ ≠ (v134 : Value).ownBlock) v141 t140) ∧ Aside0 (wc.heap[gb129]? = some (.cells #[.int .i64 a0_0, .int .i64 a0_1, .int .i64 a0_2] 23 (0, 0))) ∧ Aside0 (Below w.heap.size w wc))
  case first =>
    have H := HC7.out
    clear HC7
    replace H := Option.bind_eq_some_iff.mp H
    obtain ⟨t144, A150, H⟩ := H
    replace H : (if t144 = true then (laws_FnExactStepsAbove.j0 k a1 t133 t136 t140 (t143 != t136) a0_0 a0_1 a0_2) else (laws_FnExactStepsAbove.j0 k a1 t133 t136 t140 true a0_0 a0_1 a0_2)) = some r := H
    have A15 := Aside0.mk A150
    clear A150
    by_cases c16 : t144 = true
    · subst c16
      have H1 : (laws_FnExactStepsAbove.j0 k a1 t133 t136 t140 (t143 != t136) a0_0 a0_1 a0_2) = some r := by rw [if_pos rfl] at H; exact H
      clear H
      have H := H1
      clear H1
      have H' := Aside0.mk H
      clear H
      obtain ⟨Ao17, co17, eo17⟩ := Kd.R_slice HO142.out
      subst eo17
      obtain ⟨Ao18, co18, eo18⟩ := Kd.R_slice HO135.out
      subst eo18
      go_wp2_with (first | ((with_reducible refine gate_callee (f := 16) rfl ?_); refine goesL_ (some 29) rfl rfl Try.func16 (by kernel_rfl) rfl #[.slice Ao17 t140.length co17, .slice Ao18 t133.length co18] rfl (by (try simp only [List.map_toArray, List.map_cons, List.map_nil]); first | done | rfl | (simp only [List.length_drop, List.length_take]; rfl)) ?_; (with_reducible refine (laws_eqIntS.calls k _ _ t140 _ _ t133 true _ ?side1 ?side2 ?side3 ?side4 A15.out).mono ?_); (case side1 => repeat (first | exact (Kd.R_reads' HO142.out).2.2 | (with_reducible refine Kd.C_alloc ?_ _) | (with_reducible refine Kd.C_drewN ?_ _) | (with_reducible refine Kd.C_drew ?_))); (case side2 => exact (Kd.R_reads' HO142.out).2.1); (case side3 => repeat (first | exact (Kd.R_reads' HO135.out).2.2 | (with_reducible refine Kd.C_alloc ?_ _) | (with_reducible refine Kd.C_drewN ?_ _) | (with_reducible refine Kd.C_drew ?_))); (case side4 => exact (Kd.R_reads' HO135.out).2.1); rintro e w' ⟨rfl, ⟨nd, rfl⟩⟩; refine ⟨_, rfl, ?_⟩))
      go_meet
      case rel => exact ⟨_, ((t143 != t136)), (by first | rfl | (simp; done) | (simp [*]; done)), H', ⟨by first | omega | exact Nat.le_refl _⟩, ⟨by (with_reducible repeat (first | apply Kd.R_alloc | apply Kd.R_drewN | apply Kd.R_drew)); exact Kd.R_mono HO135.out (fun _ hk => hk.2)⟩, ⟨by (with_reducible repeat (first | apply Kd.R_alloc | apply Kd.R_drewN | apply Kd.R_drew)); exact Kd.R_mono HO142.out (fun _ hk => hk.2)⟩, ⟨by (with_reducible repeat (first | refine blk_drewN ?_ _ | refine blk_drew ?_ | refine blk_alloc ?_ _)); exact BK129.out⟩, ⟨by repeat (first | (with_reducible first | exact HB.out | apply below_alloc | apply pw_below_drewN | apply below_drew1 | refine below_set ?_ GE129.out) | exact HB.out)⟩⟩
    · replace c16 := Bool.eq_false_iff.mpr c16
      subst c16
      have H1 : (laws_FnExactStepsAbove.j0 k a1 t133 t136 t140 true a0_0 a0_1 a0_2) = some r := by rw [if_neg (show ¬ (false = true) by decide)] at H; exact H
      clear H
      have H := H1
      clear H1
      have H' := Aside0.mk H
      clear H
      obtain ⟨Ao19, co19, eo19⟩ := Kd.R_slice HO142.out
      subst eo19
      obtain ⟨Ao20, co20, eo20⟩ := Kd.R_slice HO135.out
      subst eo20
      go_wp2_with (first | ((with_reducible refine gate_callee (f := 16) rfl ?_); refine goesL_ (some 29) rfl rfl Try.func16 (by kernel_rfl) rfl #[.slice Ao19 t140.length co19, .slice Ao20 t133.length co20] rfl (by (try simp only [List.map_toArray, List.map_cons, List.map_nil]); first | done | rfl | (simp only [List.length_drop, List.length_take]; rfl)) ?_; (with_reducible refine (laws_eqIntS.calls k _ _ t140 _ _ t133 false _ ?side1 ?side2 ?side3 ?side4 A15.out).mono ?_); (case side1 => repeat (first | exact (Kd.R_reads' HO142.out).2.2 | (with_reducible refine Kd.C_alloc ?_ _) | (with_reducible refine Kd.C_drewN ?_ _) | (with_reducible refine Kd.C_drew ?_))); (case side2 => exact (Kd.R_reads' HO142.out).2.1); (case side3 => repeat (first | exact (Kd.R_reads' HO135.out).2.2 | (with_reducible refine Kd.C_alloc ?_ _) | (with_reducible refine Kd.C_drewN ?_ _) | (with_reducible refine Kd.C_drew ?_))); (case side4 => exact (Kd.R_reads' HO135.out).2.1); rintro e w' ⟨rfl, ⟨nd, rfl⟩⟩; refine ⟨_, rfl, ?_⟩))
      go_meet
      case rel => exact ⟨_, (true), (by first | rfl | (simp; done) | (simp [*]; done)), H', ⟨by first | omega | exact Nat.le_refl _⟩, ⟨by (with_reducible repeat (first | apply Kd.R_alloc | apply Kd.R_drewN | apply Kd.R_drew)); exact Kd.R_mono HO135.out (fun _ hk => hk.2)⟩, ⟨by (with_reducible repeat (first | apply Kd.R_alloc | apply Kd.R_drewN | apply Kd.R_drew)); exact Kd.R_mono HO142.out (fun _ hk => hk.2)⟩, ⟨by (with_reducible repeat (first | refine blk_drewN ?_ _ | refine blk_drew ?_ | refine blk_alloc ?_ _)); exact BK129.out⟩, ⟨by repeat (first | (with_reducible first | exact HB.out | apply below_alloc | apply pw_below_drewN | apply below_drew1 | refine below_set ?_ GE129.out) | exact HB.out)⟩⟩
  case rest =>
    clear HC7
    try clear c1
    try clear c2
    try clear p2
    try clear c7
    try clear c14
    try clear c16
    try clear hcz12_0
    try clear hcz12_1
    try clear hcz12_2
    try clear hcz9_0
    try clear hcz9_1
    try clear hcz9_2
    try clear hfz12_0
    try clear hfz12_1
    try clear hfz12_2
    try clear hfz9_0
    try clear hfz9_1
    try clear hfz9_2
    obtain ⟨kq, x35_6, rfl, HA, HJ6, HO_5, HO_7, BK129, HB⟩ := hcut
    cases kq with
    | zero => exact absurd HA.out (by simp [laws_FnExactStepsAbove.j0])
    | succ kj6 =>
      have H := HA.out
      clear HA
      simp only [laws_FnExactStepsAbove.j0] at H
      by_cases c21 : x35_6 = true
      · subst c21
        have H1 : (some false) = some r := by rw [if_pos rfl] at H; exact H
        clear H
        have H := H1
        clear H1
        obtain rfl := Option.some.inj H
        go_wp2
        go_ret
        exact ⟨by first | rfl | (simp [errW_none, errW_some] <;> rfl) | (simp [*, errW_none, errW_some] <;> rfl), by repeat (first | (with_reducible first | exact HB.out | apply below_alloc | apply pw_below_drewN | apply below_drew1 | refine below_set ?_ GE129.out) | exact HB.out)⟩
      · replace c21 := Bool.eq_false_iff.mpr c21
        subst c21
        have H1 : ((laws_markIntS.f kj6 t140 1).bind fun bt145 => ((laws_heldIntS.f kj6 bt145.2 1).bind fun t147 => (if t147 < 0 then (some false) else (if t147 = bt145.1 then ((laws_toSpiral.f a0_0 a0_1 a0_2).bind fun bt148 => ((impl_StepsAbove.f kj6 bt148.1 bt148.2.1 bt148.2.2 a1).bind fun bt151 => ((laws_eqIntS.f kj6 bt151.1 t133).bind fun t155 => (if t155 = true then (laws_FnExactStepsAbove.j1 kj6 bt145.2 bt145.1 (bt151.2 != t136)) else (laws_FnExactStepsAbove.j1 kj6 bt145.2 bt145.1 true))))) else (some false))))) = some r := by rw [if_neg (show ¬ (false = true) by decide)] at H; exact H
        clear H
        have H := H1
        clear H1
        replace H := Option.bind_eq_some_iff.mp H
        obtain ⟨⟨t145, t146⟩, A220, H⟩ := H
        replace H : ((laws_heldIntS.f kj6 t146 1).bind fun t147 => (if t147 < 0 then (some false) else (if t147 = t145 then ((laws_toSpiral.f a0_0 a0_1 a0_2).bind fun bt148 => ((impl_StepsAbove.f kj6 bt148.1 bt148.2.1 bt148.2.2 a1).bind fun bt151 => ((laws_eqIntS.f kj6 bt151.1 t133).bind fun t155 => (if t155 = true then (laws_FnExactStepsAbove.j1 kj6 t146 t145 (bt151.2 != t136)) else (laws_FnExactStepsAbove.j1 kj6 t146 t145 true))))) else (some false)))) = some r := H
        have A22 := Aside0.mk A220
        clear A220
        replace H := Option.bind_eq_some_iff.mp H
        obtain ⟨t147, A230, H⟩ := H
        replace H : (if t147 < 0 then (some false) else (if t147 = t145 then ((laws_toSpiral.f a0_0 a0_1 a0_2).bind fun bt148 => ((impl_StepsAbove.f kj6 bt148.1 bt148.2.1 bt148.2.2 a1).bind fun bt151 => ((laws_eqIntS.f kj6 bt151.1 t133).bind fun t155 => (if t155 = true then (laws_FnExactStepsAbove.j1 kj6 t146 t145 (bt151.2 != t136)) else (laws_FnExactStepsAbove.j1 kj6 t146 t145 true))))) else (some false))) = some r := H
        have A23 := Aside0.mk A230
        clear A230
        by_cases c24 : t147 < 0
        · rw [if_pos c24] at H
          have c24b0 : decide (t147 < 0) = true := decide_eq_true c24
          clear c24
          obtain rfl := Option.some.inj H
          obtain ⟨Ao25, co25, eo25⟩ := Kd.R_slice HO_7.out
          subst eo25
          go_wp2_with (first | ((with_reducible refine gate_callee (f := 17) rfl ?_); refine goesL_ (some 38) rfl rfl Try.func17 (by kernel_rfl) rfl #[.slice Ao25 t140.length co25, .int .i64 1] rfl (by (try simp only [List.map_toArray, List.map_cons, List.map_nil]); first | done | rfl | (simp only [List.length_drop, List.length_take]; rfl)) ?_; (with_reducible refine (laws_markIntS.calls kj6 (fun k_ => some k_ = (.slice Ao25 t140.length co25 : Value).ownBlock) (.slice Ao25 t140.length co25) t140 1 t145 t146 w _ ?side1 ?side2 A22.out).mono ?_); (case side1 => repeat (first | (with_reducible first | exact HB.out | apply below_alloc | apply pw_below_drewN | apply below_drew1 | refine below_set ?_ GE129.out) | exact HB.out)); (case side2 => exact Kd.R_tight rfl HO_7.out); rintro e w26 ⟨rfl, hy0, hb, hkp⟩; refine ⟨_, rfl, ?_⟩; have n0_ := Aside0.mk (Kd.R_mono (ok' := fun k_ => some k_ ≠ (.slice Ao25 t140.length co25 : Value).ownBlock) (Kd.R_keptB (HO_5.out) hkp (fun k_ hk_ hs_ => (hk_) hs_)) (fun k_ hk_ => hk_.1)); have n1_ := Aside0.mk (Kd.R_reok rfl hy0 (fun k_ e_ => HO_7.out.1 k_ e_)); have n2_ := Aside0.mk (blk_kept (by (with_reducible repeat (first | refine blk_drewN ?_ _ | refine blk_drew ?_ | refine blk_alloc ?_ _)); exact BK129.out) hkp (fun hs_ => (fun e_ => (Kd.R_ne HO_7.out BK129.out (by decide)) e_) hs_)); have n3_ := Aside0.mk (hb); clear HO_5; clear HO_7; clear BK129; clear HB; have HO_5 := n0_; have HO_7 := n1_; have BK129 := n2_; have HB := n3_; clear n0_ n1_ n2_ n3_; (try clear hb); (try clear hkp); (try clear hy0)) | ((with_reducible refine gate_callee (f := 18) rfl ?_); refine goesL_ (some 41) rfl rfl Try.func18 (by kernel_rfl) rfl #[.slice Ao25 t146.length co25, .int .i64 1] rfl (by (try simp only [List.map_toArray, List.map_cons, List.map_nil]); first | done | (rw [show t146.length = t140.length from (Kd.R_reads' HO_7.out).1.symm] <;> rfl) | rfl | (simp only [List.length_drop, List.length_take]; rfl)) ?_; (with_reducible refine (laws_heldIntS.calls kj6 _ _ t146 1 t147 _ ?side1 ?side2 A23.out).mono ?_); (case side1 => repeat (first | exact (Kd.R_reads' HO_7.out).2.2 | (with_reducible refine Kd.C_alloc ?_ _) | (with_reducible refine Kd.C_drewN ?_ _) | (with_reducible refine Kd.C_drew ?_))); (case side2 => rw [show t146.length = t140.length from (Kd.R_reads' HO_7.out).1.symm]; exact (Kd.R_reads' HO_7.out).2.1); rintro e w' ⟨rfl, ⟨nd, rfl⟩⟩; refine ⟨_, rfl, ?_⟩))
          go_ret
          exact ⟨by first | rfl | (simp [errW_none, errW_some] <;> rfl) | (simp [*, errW_none, errW_some] <;> rfl), by repeat (first | (with_reducible first | exact HB.out | apply below_alloc | apply pw_below_drewN | apply below_drew1 | refine below_set ?_ GE129.out) | exact HB.out)⟩
        · rw [if_neg c24] at H
          have c24b0 : decide (t147 < 0) = false := decide_eq_false c24
          clear c24
          by_cases c27 : t147 = t145
          · rw [if_pos c27] at H
            have c27b0 : (t147 == t145) = true := beq_iff_eq.mpr c27
            have c27b1 : (t147 != t145) = false := bne_eq_false_iff_eq.mpr c27
            clear c27
            replace H := Option.bind_eq_some_iff.mp H
            obtain ⟨⟨t148, t149, t150⟩, A280, H⟩ := H
            replace H : ((impl_StepsAbove.f kj6 t148 t149 t150 a1).bind fun bt151 => ((laws_eqIntS.f kj6 bt151.1 t133).bind fun t155 => (if t155 = true then (laws_FnExactStepsAbove.j1 kj6 t146 t145 (bt151.2 != t136)) else (laws_FnExactStepsAbove.j1 kj6 t146 t145 true)))) = some r := H
            have A28 := Aside0.mk A280
            clear A280
            replace H := Option.bind_eq_some_iff.mp H
            obtain ⟨⟨t151, t154⟩, A290, H⟩ := H
            replace H : ((laws_eqIntS.f kj6 t151 t133).bind fun t155 => (if t155 = true then (laws_FnExactStepsAbove.j1 kj6 t146 t145 (t154 != t136)) else (laws_FnExactStepsAbove.j1 kj6 t146 t145 true))) = some r := H
            have A29 := Aside0.mk A290
            clear A290
            have HC30 := Aside0.mk H
            clear H
            obtain ⟨Ao31, co31, eo31⟩ := Kd.R_slice HO_7.out
            subst eo31
            go_upto_region 14 with (first | ((with_reducible refine gate_callee (f := 17) rfl ?_); refine goesL_ (some 38) rfl rfl Try.func17 (by kernel_rfl) rfl #[.slice Ao31 t140.length co31, .int .i64 1] rfl (by (try simp only [List.map_toArray, List.map_cons, List.map_nil]); first | done | rfl | (simp only [List.length_drop, List.length_take]; rfl)) ?_; (with_reducible refine (laws_markIntS.calls kj6 (fun k_ => some k_ = (.slice Ao31 t140.length co31 : Value).ownBlock) (.slice Ao31 t140.length co31) t140 1 t145 t146 w _ ?side1 ?side2 A22.out).mono ?_); (case side1 => repeat (first | (with_reducible first | exact HB.out | apply below_alloc | apply pw_below_drewN | apply below_drew1 | refine below_set ?_ GE129.out) | exact HB.out)); (case side2 => exact Kd.R_tight rfl HO_7.out); rintro e w32 ⟨rfl, hy0, hb, hkp⟩; refine ⟨_, rfl, ?_⟩; have n0_ := Aside0.mk (Kd.R_mono (ok' := fun k_ => some k_ ≠ (.slice Ao31 t140.length co31 : Value).ownBlock) (Kd.R_keptB (HO_5.out) hkp (fun k_ hk_ hs_ => (hk_) hs_)) (fun k_ hk_ => hk_.1)); have n1_ := Aside0.mk (Kd.R_reok rfl hy0 (fun k_ e_ => HO_7.out.1 k_ e_)); have n2_ := Aside0.mk (blk_kept (by (with_reducible repeat (first | refine blk_drewN ?_ _ | refine blk_drew ?_ | refine blk_alloc ?_ _)); exact BK129.out) hkp (fun hs_ => (fun e_ => (Kd.R_ne HO_7.out BK129.out (by decide)) e_) hs_)); have n3_ := Aside0.mk (hb); clear HO_5; clear HO_7; clear BK129; clear HB; have HO_5 := n0_; have HO_7 := n1_; have BK129 := n2_; have HB := n3_; clear n0_ n1_ n2_ n3_; (try clear hb); (try clear hkp); (try clear hy0)) | ((with_reducible refine gate_callee (f := 18) rfl ?_); refine goesL_ (some 41) rfl rfl Try.func18 (by kernel_rfl) rfl #[.slice Ao31 t146.length co31, .int .i64 1] rfl (by (try simp only [List.map_toArray, List.map_cons, List.map_nil]); first | done | (rw [show t146.length = t140.length from (Kd.R_reads' HO_7.out).1.symm] <;> rfl) | rfl | (simp only [List.length_drop, List.length_take]; rfl)) ?_; (with_reducible refine (laws_heldIntS.calls kj6 _ _ t146 1 t147 _ ?side1 ?side2 A23.out).mono ?_); (case side1 => repeat (first | exact (Kd.R_reads' HO_7.out).2.2 | (with_reducible refine Kd.C_alloc ?_ _) | (with_reducible refine Kd.C_drewN ?_ _) | (with_reducible refine Kd.C_drew ?_))); (case side2 => rw [show t146.length = t140.length from (Kd.R_reads' HO_7.out).1.symm]; exact (Kd.R_reads' HO_7.out).2.1); rintro e w' ⟨rfl, ⟨nd, rfl⟩⟩; refine ⟨_, rfl, ?_⟩; have hcz33_0 : w32.cell? ⟨gb129, 0, none⟩ = some (.int .i64 a0_0) := (blk_cell BK129.out 0).trans rfl; have hcz33_1 : w32.cell? ⟨gb129, 1, none⟩ = some (.int .i64 a0_1) := (blk_cell BK129.out 1).trans rfl; have hcz33_2 : w32.cell? ⟨gb129, 2, none⟩ = some (.int .i64 a0_2) := (blk_cell BK129.out 2).trans rfl; have hfz33_0 := blk_frozen BK129.out 0; have hfz33_1 := blk_frozen BK129.out 1; have hfz33_2 := blk_frozen BK129.out 2) | ((with_reducible refine gate_callee (f := 14) rfl ?_); refine goesL_ (some 49) rfl rfl Try.func14 (by kernel_rfl) rfl #[.agg #[.int .i64 a0_0, .int .i64 a0_1, .int .i64 a0_2]] rfl (by (try simp only [List.map_toArray, List.map_cons, List.map_nil]); first | done | rfl | (simp only [List.length_drop, List.length_take]; rfl)) ?_; (with_reducible refine (laws_toSpiral.calls a0_0 a0_1 a0_2 t148 t149 t150 _ A28.out).mono ?_); rintro e w34 ⟨rfl, hb⟩; refine ⟨_, rfl, ?_⟩; have n0_ := Aside0.mk (Kd.R_below (by (with_reducible repeat (first | apply Kd.R_alloc | apply Kd.R_drewN | apply Kd.R_drew)); exact HO_5.out) hb); have n1_ := Aside0.mk (Kd.R_below (by (with_reducible repeat (first | apply Kd.R_alloc | apply Kd.R_drewN | apply Kd.R_drew)); exact HO_7.out) hb); have n2_ := Aside0.mk (blk_below (g := gb129) (o := .cells #[.int .i64 a0_0, .int .i64 a0_1, .int .i64 a0_2] 23 (0, 0)) (by (with_reducible repeat (first | refine blk_drewN ?_ _ | refine blk_drew ?_ | refine blk_alloc ?_ _)); exact BK129.out) hb); have n3_ := Aside0.mk (below_step (by repeat (first | (with_reducible first | exact HB.out | apply below_alloc | apply pw_below_drewN | apply below_drew1 | refine below_set ?_ GE129.out) | exact HB.out)) hb); clear HO_5; clear HO_7; clear BK129; clear HB; have HO_5 := n0_; have HO_7 := n1_; have BK129 := n2_; have HB := n3_; clear n0_ n1_ n2_ n3_; (try clear hb); (try clear hb2); (try clear hk); (try clear hi)) | ((with_reducible refine gate_callee (f := 27) rfl ?_); refine goesL_ (some 51) rfl rfl Try.func27 (by kernel_rfl) rfl #[.agg #[.int .i64 t148, .int .i64 t149, .int .i64 t150], .int .i64 a1] rfl (by (try simp only [List.map_toArray, List.map_cons, List.map_nil]); first | done | rfl | (simp only [List.length_drop, List.length_take]; rfl)) ?_; (with_reducible refine (impl_StepsAbove.calls kj6 t148 t149 t150 a1 t151 t154 _ A29.out).mono ?_); rintro e w35 ⟨v152, rfl, ho0, hb⟩; refine ⟨_, rfl, ?_⟩; have n0_ := Aside0.mk (Kd.R_elder' (by (with_reducible repeat (first | apply Kd.R_alloc | apply Kd.R_drewN | apply Kd.R_drew)); exact HO_5.out) (Kd.R_base ho0) hb); have n1_ := Aside0.mk (Kd.R_elder' (by (with_reducible repeat (first | apply Kd.R_alloc | apply Kd.R_drewN | apply Kd.R_drew)); exact HO_7.out) (Kd.R_base ho0) hb); have n2_ := Aside0.mk (Kd.R_lower (Kd.R_new' (Kd.R_new' ho0 (Kd.R_lt (by (with_reducible repeat (first | apply Kd.R_alloc | apply Kd.R_drewN | apply Kd.R_drew)); exact HO_5.out))) (Kd.R_lt (by (with_reducible repeat (first | apply Kd.R_alloc | apply Kd.R_drewN | apply Kd.R_drew)); exact HO_7.out))) (below_size (by repeat (first | (with_reducible first | exact HB.out | apply below_alloc | apply pw_below_drewN | apply below_drew1 | refine below_set ?_ GE129.out) | exact HB.out)))); have n3_ := Aside0.mk (blk_below (g := gb129) (o := .cells #[.int .i64 a0_0, .int .i64 a0_1, .int .i64 a0_2] 23 (0, 0)) (by (with_reducible repeat (first | refine blk_drewN ?_ _ | refine blk_drew ?_ | refine blk_alloc ?_ _)); exact BK129.out) hb); have n4_ := Aside0.mk (below_step (by repeat (first | (with_reducible first | exact HB.out | apply below_alloc | apply pw_below_drewN | apply below_drew1 | refine below_set ?_ GE129.out) | exact HB.out)) hb); clear HO_5; clear HO_7; clear BK129; clear HB; have HO_5 := n0_; have HO_7 := n1_; have HO153 := n2_; have BK129 := n3_; have HB := n4_; clear n0_ n1_ n2_ n3_ n4_; (try clear hb); (try clear hb2); (try clear hk); (try clear hi); (try clear ho0)))
            (try simp only [Act.put, List.setIfInBounds_toArray, List.set_cons_zero, List.set_cons_succ])
            go_cut [62] (fun v62 wc => ∃ (kq : Nat) (x62_29 : Bool), v62 = .bool x62_29 ∧ Aside0 (laws_FnExactStepsAbove.j1 kq t146 t145 x62_29 = some r) ∧ Aside0 (kq ≤ kj6) ∧ Aside0 (Kd.R (Kd.int .i64) 3 wc w.heap.size (fun _ => True) (.slice Ao31 t140.length co31) t146) ∧ Aside0 (wc.heap[gb129]? = some (.cells #[.int .i64 a0_0, .int .i64 a0_1, .int .i64 a0_2] 23 (0, 0))) ∧ Aside0 (Below w.heap.size w wc))
            case first =>
              have H := HC30.out
              clear HC30
              replace H := Option.bind_eq_some_iff.mp H
              obtain ⟨t155, A360, H⟩ := H
              replace H : (if t155 = true then (laws_FnExactStepsAbove.j1 kj6 t146 t145 (t154 != t136)) else (laws_FnExactStepsAbove.j1 kj6 t146 t145 true)) = some r := H
              have A36 := Aside0.mk A360
              clear A360
              by_cases c37 : t155 = true
              · subst c37
                have H1 : (laws_FnExactStepsAbove.j1 kj6 t146 t145 (t154 != t136)) = some r := by rw [if_pos rfl] at H; exact H
                clear H
                have H := H1
                clear H1
                have H' := Aside0.mk H
                clear H
                obtain ⟨Ao38, co38, eo38⟩ := Kd.R_slice HO153.out
                subst eo38
                obtain ⟨Ao39, co39, eo39⟩ := Kd.R_slice HO_5.out
                subst eo39
                go_wp2_with (first | ((with_reducible refine gate_callee (f := 16) rfl ?_); refine goesL_ (some 56) rfl rfl Try.func16 (by kernel_rfl) rfl #[.slice Ao38 t151.length co38, .slice Ao39 t133.length co39] rfl (by (try simp only [List.map_toArray, List.map_cons, List.map_nil]); first | done | rfl | (simp only [List.length_drop, List.length_take]; rfl)) ?_; (with_reducible refine (laws_eqIntS.calls kj6 _ _ t151 _ _ t133 true _ ?side1 ?side2 ?side3 ?side4 A36.out).mono ?_); (case side1 => repeat (first | exact (Kd.R_reads' HO153.out).2.2 | (with_reducible refine Kd.C_alloc ?_ _) | (with_reducible refine Kd.C_drewN ?_ _) | (with_reducible refine Kd.C_drew ?_))); (case side2 => exact (Kd.R_reads' HO153.out).2.1); (case side3 => repeat (first | exact (Kd.R_reads' HO_5.out).2.2 | (with_reducible refine Kd.C_alloc ?_ _) | (with_reducible refine Kd.C_drewN ?_ _) | (with_reducible refine Kd.C_drew ?_))); (case side4 => exact (Kd.R_reads' HO_5.out).2.1); rintro e w' ⟨rfl, ⟨nd, rfl⟩⟩; refine ⟨_, rfl, ?_⟩))
                go_meet
                case rel => exact ⟨_, ((t154 != t136)), (by first | rfl | (simp; done) | (simp [*]; done)), H', ⟨by have := HJ6.out; first | omega | exact Nat.le_refl _⟩, ⟨by (with_reducible repeat (first | apply Kd.R_alloc | apply Kd.R_drewN | apply Kd.R_drew)); exact Kd.R_mono HO_7.out (fun _ hk => trivial)⟩, ⟨by (with_reducible repeat (first | refine blk_drewN ?_ _ | refine blk_drew ?_ | refine blk_alloc ?_ _)); exact BK129.out⟩, ⟨by repeat (first | (with_reducible first | exact HB.out | apply below_alloc | apply pw_below_drewN | apply below_drew1 | refine below_set ?_ GE129.out) | exact HB.out)⟩⟩
              · replace c37 := Bool.eq_false_iff.mpr c37
                subst c37
                have H1 : (laws_FnExactStepsAbove.j1 kj6 t146 t145 true) = some r := by rw [if_neg (show ¬ (false = true) by decide)] at H; exact H
                clear H
                have H := H1
                clear H1
                have H' := Aside0.mk H
                clear H
                obtain ⟨Ao40, co40, eo40⟩ := Kd.R_slice HO153.out
                subst eo40
                obtain ⟨Ao41, co41, eo41⟩ := Kd.R_slice HO_5.out
                subst eo41
                go_wp2_with (first | ((with_reducible refine gate_callee (f := 16) rfl ?_); refine goesL_ (some 56) rfl rfl Try.func16 (by kernel_rfl) rfl #[.slice Ao40 t151.length co40, .slice Ao41 t133.length co41] rfl (by (try simp only [List.map_toArray, List.map_cons, List.map_nil]); first | done | rfl | (simp only [List.length_drop, List.length_take]; rfl)) ?_; (with_reducible refine (laws_eqIntS.calls kj6 _ _ t151 _ _ t133 false _ ?side1 ?side2 ?side3 ?side4 A36.out).mono ?_); (case side1 => repeat (first | exact (Kd.R_reads' HO153.out).2.2 | (with_reducible refine Kd.C_alloc ?_ _) | (with_reducible refine Kd.C_drewN ?_ _) | (with_reducible refine Kd.C_drew ?_))); (case side2 => exact (Kd.R_reads' HO153.out).2.1); (case side3 => repeat (first | exact (Kd.R_reads' HO_5.out).2.2 | (with_reducible refine Kd.C_alloc ?_ _) | (with_reducible refine Kd.C_drewN ?_ _) | (with_reducible refine Kd.C_drew ?_))); (case side4 => exact (Kd.R_reads' HO_5.out).2.1); rintro e w' ⟨rfl, ⟨nd, rfl⟩⟩; refine ⟨_, rfl, ?_⟩))
                go_meet
                case rel => exact ⟨_, (true), (by first | rfl | (simp; done) | (simp [*]; done)), H', ⟨by have := HJ6.out; first | omega | exact Nat.le_refl _⟩, ⟨by (with_reducible repeat (first | apply Kd.R_alloc | apply Kd.R_drewN | apply Kd.R_drew)); exact Kd.R_mono HO_7.out (fun _ hk => trivial)⟩, ⟨by (with_reducible repeat (first | refine blk_drewN ?_ _ | refine blk_drew ?_ | refine blk_alloc ?_ _)); exact BK129.out⟩, ⟨by repeat (first | (with_reducible first | exact HB.out | apply below_alloc | apply pw_below_drewN | apply below_drew1 | refine below_set ?_ GE129.out) | exact HB.out)⟩⟩
            case rest =>
              clear HC30
              try clear c1
              try clear c2
              try clear p2
              try clear c3
              try clear c7
              try clear c14
              try clear c16
              try clear c17
              try clear c18
              try clear c21
              try clear c24
              try clear c24b0
              try clear c26
              try clear c27
              try clear c27b0
              try clear c27b1
              try clear c37
              try clear hcz12_0
              try clear hcz12_1
              try clear hcz12_2
              try clear hcz33_0
              try clear hcz33_1
              try clear hcz33_2
              try clear hcz9_0
              try clear hcz9_1
              try clear hcz9_2
              try clear hfz12_0
              try clear hfz12_1
              try clear hfz12_2
              try clear hfz33_0
              try clear hfz33_1
              try clear hfz33_2
              try clear hfz9_0
              try clear hfz9_1
              try clear hfz9_2
              try clear p2
              obtain ⟨kq, x62_29, rfl, HA, HJ29, HO_7, BK129, HB⟩ := hcut
              have hl7_29 := (Kd.R_reads' HO_7.out).1
              rw [hl7_29] at HO_7
              (try simp only [hl7_29])
              (try simp only [hl7_29] at BK129)
              cases kq with
              | zero => exact absurd HA.out (by simp [laws_FnExactStepsAbove.j1])
              | succ kj29 =>
                have H := HA.out
                clear HA
                simp only [laws_FnExactStepsAbove.j1] at H
                by_cases c42 : x62_29 = true
                · subst c42
                  have H1 : (some false) = some r := by rw [if_pos rfl] at H; exact H
                  clear H
                  have H := H1
                  clear H1
                  obtain rfl := Option.some.inj H
                  go_wp2
                  go_ret
                  exact ⟨by first | rfl | (simp [errW_none, errW_some] <;> rfl) | (simp [*, errW_none, errW_some] <;> rfl), by repeat (first | (with_reducible first | exact HB.out | apply below_alloc | apply pw_below_drewN | apply below_drew1 | refine below_set ?_ GE129.out) | exact HB.out)⟩
                · replace c42 := Bool.eq_false_iff.mpr c42
                  subst c42
                  have H1 : ((laws_heldIntS.f kj29 t146 1).bind fun t156 => (if t156 < 0 then (some false) else (if t156 = t145 then (some true) else (some false)))) = some r := by rw [if_neg (show ¬ (false = true) by decide)] at H; exact H
                  clear H
                  have H := H1
                  clear H1
                  replace H := Option.bind_eq_some_iff.mp H
                  obtain ⟨t156, A430, H⟩ := H
                  replace H : (if t156 < 0 then (some false) else (if t156 = t145 then (some true) else (some false))) = some r := H
                  have A43 := Aside0.mk A430
                  clear A430
                  by_cases c44 : t156 < 0
                  · rw [if_pos c44] at H
                    have c44b0 : decide (t156 < 0) = true := decide_eq_true c44
                    clear c44
                    obtain rfl := Option.some.inj H
                    go_wp2_with (first | ((with_reducible refine gate_callee (f := 18) rfl ?_); refine goesL_ (some 65) rfl rfl Try.func18 (by kernel_rfl) rfl #[.slice Ao31 t146.length co31, .int .i64 1] rfl (by (try simp only [List.map_toArray, List.map_cons, List.map_nil]); first | done | rfl | (simp only [List.length_drop, List.length_take]; rfl)) ?_; (with_reducible refine (laws_heldIntS.calls kj29 _ _ t146 1 t156 _ ?side1 ?side2 A43.out).mono ?_); (case side1 => repeat (first | exact (Kd.R_reads' HO_7.out).2.2 | (with_reducible refine Kd.C_alloc ?_ _) | (with_reducible refine Kd.C_drewN ?_ _) | (with_reducible refine Kd.C_drew ?_))); (case side2 => exact (Kd.R_reads' HO_7.out).2.1); rintro e w' ⟨rfl, ⟨nd, rfl⟩⟩; refine ⟨_, rfl, ?_⟩))
                    go_ret
                    exact ⟨by first | rfl | (simp [errW_none, errW_some] <;> rfl) | (simp [*, errW_none, errW_some] <;> rfl), by repeat (first | (with_reducible first | exact HB.out | apply below_alloc | apply pw_below_drewN | apply below_drew1 | refine below_set ?_ GE129.out) | exact HB.out)⟩
                  · rw [if_neg c44] at H
                    have c44b0 : decide (t156 < 0) = false := decide_eq_false c44
                    clear c44
                    by_cases c45 : t156 = t145
                    · rw [if_pos c45] at H
                      have c45b0 : (t156 == t145) = true := beq_iff_eq.mpr c45
                      have c45b1 : (t156 != t145) = false := bne_eq_false_iff_eq.mpr c45
                      clear c45
                      obtain rfl := Option.some.inj H
                      go_wp2_with (first | ((with_reducible refine gate_callee (f := 18) rfl ?_); refine goesL_ (some 65) rfl rfl Try.func18 (by kernel_rfl) rfl #[.slice Ao31 t146.length co31, .int .i64 1] rfl (by (try simp only [List.map_toArray, List.map_cons, List.map_nil]); first | done | rfl | (simp only [List.length_drop, List.length_take]; rfl)) ?_; (with_reducible refine (laws_heldIntS.calls kj29 _ _ t146 1 t156 _ ?side1 ?side2 A43.out).mono ?_); (case side1 => repeat (first | exact (Kd.R_reads' HO_7.out).2.2 | (with_reducible refine Kd.C_alloc ?_ _) | (with_reducible refine Kd.C_drewN ?_ _) | (with_reducible refine Kd.C_drew ?_))); (case side2 => exact (Kd.R_reads' HO_7.out).2.1); rintro e w' ⟨rfl, ⟨nd, rfl⟩⟩; refine ⟨_, rfl, ?_⟩))
                      go_ret
                      exact ⟨by first | rfl | (simp [errW_none, errW_some] <;> rfl) | (simp [*, errW_none, errW_some] <;> rfl), by repeat (first | (with_reducible first | exact HB.out | apply below_alloc | apply pw_below_drewN | apply below_drew1 | refine below_set ?_ GE129.out) | exact HB.out)⟩
                    · rw [if_neg c45] at H
                      have c45b0 : (t156 == t145) = false := beq_eq_false_iff_ne.mpr c45
                      have c45b1 : (t156 != t145) = true := bne_iff_ne.mpr c45
                      obtain rfl := Option.some.inj H
                      go_wp2_with (first | ((with_reducible refine gate_callee (f := 18) rfl ?_); refine goesL_ (some 65) rfl rfl Try.func18 (by kernel_rfl) rfl #[.slice Ao31 t146.length co31, .int .i64 1] rfl (by (try simp only [List.map_toArray, List.map_cons, List.map_nil]); first | done | rfl | (simp only [List.length_drop, List.length_take]; rfl)) ?_; (with_reducible refine (laws_heldIntS.calls kj29 _ _ t146 1 t156 _ ?side1 ?side2 A43.out).mono ?_); (case side1 => repeat (first | exact (Kd.R_reads' HO_7.out).2.2 | (with_reducible refine Kd.C_alloc ?_ _) | (with_reducible refine Kd.C_drewN ?_ _) | (with_reducible refine Kd.C_drew ?_))); (case side2 => exact (Kd.R_reads' HO_7.out).2.1); rintro e w' ⟨rfl, ⟨nd, rfl⟩⟩; refine ⟨_, rfl, ?_⟩))
                      go_ret
                      exact ⟨by first | rfl | (simp [errW_none, errW_some] <;> rfl) | (simp [*, errW_none, errW_some] <;> rfl), by repeat (first | (with_reducible first | exact HB.out | apply below_alloc | apply pw_below_drewN | apply below_drew1 | refine below_set ?_ GE129.out) | exact HB.out)⟩
          · rw [if_neg c27] at H
            have c27b0 : (t147 == t145) = false := beq_eq_false_iff_ne.mpr c27
            have c27b1 : (t147 != t145) = true := bne_iff_ne.mpr c27
            obtain rfl := Option.some.inj H
            obtain ⟨Ao46, co46, eo46⟩ := Kd.R_slice HO_7.out
            subst eo46
            go_wp2_with (first | ((with_reducible refine gate_callee (f := 17) rfl ?_); refine goesL_ (some 38) rfl rfl Try.func17 (by kernel_rfl) rfl #[.slice Ao46 t140.length co46, .int .i64 1] rfl (by (try simp only [List.map_toArray, List.map_cons, List.map_nil]); first | done | rfl | (simp only [List.length_drop, List.length_take]; rfl)) ?_; (with_reducible refine (laws_markIntS.calls kj6 (fun k_ => some k_ = (.slice Ao46 t140.length co46 : Value).ownBlock) (.slice Ao46 t140.length co46) t140 1 t145 t146 w _ ?side1 ?side2 A22.out).mono ?_); (case side1 => repeat (first | (with_reducible first | exact HB.out | apply below_alloc | apply pw_below_drewN | apply below_drew1 | refine below_set ?_ GE129.out) | exact HB.out)); (case side2 => exact Kd.R_tight rfl HO_7.out); rintro e w47 ⟨rfl, hy0, hb, hkp⟩; refine ⟨_, rfl, ?_⟩; have n0_ := Aside0.mk (Kd.R_mono (ok' := fun k_ => some k_ ≠ (.slice Ao46 t140.length co46 : Value).ownBlock) (Kd.R_keptB (HO_5.out) hkp (fun k_ hk_ hs_ => (hk_) hs_)) (fun k_ hk_ => hk_.1)); have n1_ := Aside0.mk (Kd.R_reok rfl hy0 (fun k_ e_ => HO_7.out.1 k_ e_)); have n2_ := Aside0.mk (blk_kept (by (with_reducible repeat (first | refine blk_drewN ?_ _ | refine blk_drew ?_ | refine blk_alloc ?_ _)); exact BK129.out) hkp (fun hs_ => (fun e_ => (Kd.R_ne HO_7.out BK129.out (by decide)) e_) hs_)); have n3_ := Aside0.mk (hb); clear HO_5; clear HO_7; clear BK129; clear HB; have HO_5 := n0_; have HO_7 := n1_; have BK129 := n2_; have HB := n3_; clear n0_ n1_ n2_ n3_; (try clear hb); (try clear hkp); (try clear hy0)) | ((with_reducible refine gate_callee (f := 18) rfl ?_); refine goesL_ (some 41) rfl rfl Try.func18 (by kernel_rfl) rfl #[.slice Ao46 t146.length co46, .int .i64 1] rfl (by (try simp only [List.map_toArray, List.map_cons, List.map_nil]); first | done | (rw [show t146.length = t140.length from (Kd.R_reads' HO_7.out).1.symm] <;> rfl) | rfl | (simp only [List.length_drop, List.length_take]; rfl)) ?_; (with_reducible refine (laws_heldIntS.calls kj6 _ _ t146 1 t147 _ ?side1 ?side2 A23.out).mono ?_); (case side1 => repeat (first | exact (Kd.R_reads' HO_7.out).2.2 | (with_reducible refine Kd.C_alloc ?_ _) | (with_reducible refine Kd.C_drewN ?_ _) | (with_reducible refine Kd.C_drew ?_))); (case side2 => rw [show t146.length = t140.length from (Kd.R_reads' HO_7.out).1.symm]; exact (Kd.R_reads' HO_7.out).2.1); rintro e w' ⟨rfl, ⟨nd, rfl⟩⟩; refine ⟨_, rfl, ?_⟩))
            go_ret
            exact ⟨by first | rfl | (simp [errW_none, errW_some] <;> rfl) | (simp [*, errW_none, errW_some] <;> rfl), by repeat (first | (with_reducible first | exact HB.out | apply below_alloc | apply pw_below_drewN | apply below_drew1 | refine below_set ?_ GE129.out) | exact HB.out)⟩

/-- THE ONE PURE STATEMENT of laws_FnExactStepsAbove. -/
def laws_FnExactStepsAbove.Pure : Prop := ∀ (a0_0 : Int) (a0_1 : Int) (a0_2 : Int) (a1 : Int), (Lit.int .i64 a0_0).wf = true → (Lit.int .i64 a0_1).wf = true → (Lit.int .i64 a0_2).wf = true → (Lit.int .i64 a1).wf = true → ∃ k, laws_FnExactStepsAbove.f k a0_0 a0_1 a0_2 a1 = some true
theorem laws_FnExactStepsAbove.walk (P : laws_FnExactStepsAbove.Pure) (a0_0 : Int) (a0_1 : Int) (a0_2 : Int) (a1 : Int) (w : World) (w0_0 : (Lit.int .i64 a0_0).wf = true) (w0_1 : (Lit.int .i64 a0_1).wf = true) (w0_2 : (Lit.int .i64 a0_2).wf = true) (w1 : (Lit.int .i64 a1).wf = true) :
    Calls Try.prog 7 #[.agg #[.int .i64 a0_0, .int .i64 a0_1, .int .i64 a0_2], .int .i64 a1] w fun e w' => e = .returned (.bool true) ∧ Below w.heap.size w w' := by
  obtain ⟨k, h⟩ := P a0_0 a0_1 a0_2 a1 w0_0 w0_1 w0_2 w1
  refine (laws_FnExactStepsAbove.calls k a0_0 a0_1 a0_2 a1 true w h).mono ?_
  rintro e w' ⟨rfl, hd⟩
  exact ⟨rfl, hd⟩

end Go.Proofs.Ytojcdkiopdcdoaa.PFnExactStepsAbove
