-- Written by this session's own program wip/myprint.py. Not trusted: Lean checks it.
import Derived.Test.YtlajnkdokmbpeaaPFnExactNeededStepsx0
import Derived.Test.YtlajnkdokmbpeaaPFnExactNeededStepsx5
import Derived.Test.YtlajnkdokmbpeaaPFnExactNeededStepsx6
namespace Go.Proofs.Ytlajnkdokmbpeaa.PFnExactNeededSteps
open Go.RowKit Go.Proofs.YtlajnkdokmbpeaaW.PrintWords Go.Proofs.YtlajnkdokmbpeaaW.PrintLast Go.Proofs.YtlajnkdokmbpeaaW.PrintMore
attribute [local go_sem] max2_int min2_int max_two min_two max_three min_three max_four min_four   -- for this text's walks alone
set_option linter.unusedVariables false
set_option linter.unusedSimpArgs false

/-! ### impl_NeededSteps: function 45 -/
/-! ### a function value with captured variables, called in turn with 1, 2, .. -/
def thoseW (q : Int → Option Bool) : Nat → Int → Int → List Int → Option (List Int)
  | 0, _, _, _ => none
  | k + 1, a, i, acc => if i ≤ a then ((q i).bind fun b => if b = true then (if acc.length < 17592186044416 then thoseW q k a (wrap64 (i + 1)) (acc ++ [i]) else none) else thoseW q k a (wrap64 (i + 1)) acc) else some acc
theorem thoseW_mono (q q' : Int → Option Bool) (hq : ∀ n, LeO (q n) (q' n)) : ∀ (k : Nat) (a i : Int) (acc : List Int), LeO (thoseW q k a i acc) (thoseW q' (k + 1) a i acc)
  | 0, _, _, _ => fun r h => by simp [thoseW] at h
  | k + 1, a, i, acc => by
    have ih := thoseW_mono q q' hq k
    rw [thoseW, thoseW]
    refine LeO.ite ?_ (LeO.refl _)
    refine LeO.bind (hq i) (fun b => ?_)
    refine LeO.ite ?_ (ih _ _ _)
    exact LeO.ite (ih _ _ _) (LeO.none _)
set_option maxHeartbeats 8000000 in
set_option maxRecDepth 100000 in
theorem spThose89 (q : Int → Option Bool) (c0_ c1_ : Value) (k : Nat) (a0_0 : Int) (v1_ v2_ : Value) (r : List Int) (w : World)
    (hp0 : ∀ (n : Int) (b : Bool) (W : World), q n = some b → Below w.heap.size w W → Calls Try.prog 89 #[.int .i64 n, c0_, c1_] W fun e w' => e = .returned (.bool b) ∧ Below W.heap.size W w')
    (h : thoseW q k a0_0 1 [] = some r) :
    Calls Try.prog 74 #[.agg #[.int .i64 a0_0, v1_, v2_], .func (.func 89) #[] #[c0_, c1_]] w fun e w' => ∃ v0_ : Value, e = .returned (v0_) ∧ Kd.R (Kd.int .i64) 3 w' w.heap.size (fun _ => True) v0_ r ∧ Below w.heap.size w w' := by
  have hu := Try.underlying45
  have HP := Aside0.mk hp0
  have HB := Aside0.mk (Below.refl w.heap.size w)
  clear hp0
  obtain ⟨y135, hy135⟩ : ∃ y_ : List Int, y_ = (([] : List Int)) := ⟨_, rfl⟩
  rw [← hy135] at h
  have H' := Aside0.mk h
  have Ny135 := Aside0.mk hy135
  clear h hy135
  go_enter Try.func74, Try.ntmps74
  go_wp2_with (first | ((with_reducible refine gate_dst (N := 2) rfl ?_); refine box_event ?hg (N := 2) ?hd (cs := #[.int .i64 a0_0, v1_, v2_]) (t := 45) ?hr ?_; (case hd => rfl); (case hg => rfl); (case hr => first | (go_simp; done) | (go_simp; rfl)); intro gb1 hg w5 hbox hb; have n0_ := Aside0.mk (below_step (by repeat (first | (with_reducible first | exact HB.out | apply below_alloc | apply pw_below_drewN | apply below_drew1) | exact HB.out)) hb); have n1_ := Aside0.mk (hbox); have n2_ := Aside0.mk ((by rw [hg]; exact (below_size (by repeat (first | (with_reducible first | exact HB.out | apply below_alloc | apply pw_below_drewN | apply below_drew1) | exact HB.out))) : w.heap.size ≤ gb1)); clear HB; have HB := n0_; have BK1 := n1_; have GE1 := n2_; clear n0_ n1_ n2_; clear hb hbox hg) | ((with_reducible refine gate_dst (N := 7) rfl ?_); refine Kd.R_lit (Kd.int .i64) _ 3 ?hg (N := 7) ?hd (xs := ([] : List Int)) (inner := []) (ok := fun _ => True) (okp := fun _ => True) ?hr ?hp (fun _ hk => hk) trivial (Below.refl _ _) (Nat.le_refl _) (by simp) ?_; (case hd => rfl); (case hg => rfl); (case hr => first | (go_simp; done) | (go_simp; rfl)); (case hp => exact (Reps.none _ _)); intro v136 w3 ho4 hb hg_ hnew_; clear hg_ hnew_; (first | rw [← Ny135.out] at ho4 | (simp only [Int.reduceToNat] at ho4; rw [← Ny135.out] at ho4)); have n0_ := Aside0.mk (Kd.R_lower ho4 (below_size (by repeat (first | (with_reducible first | exact HB.out | apply below_alloc | apply pw_below_drewN | apply below_drew1) | exact HB.out)))); have n1_ := Aside0.mk (below_step (by repeat (first | (with_reducible first | exact HB.out | apply below_alloc | apply pw_below_drewN | apply below_drew1) | exact HB.out)) hb); have n2_ := Aside0.mk (blk_below (g := gb1) (o := .cells #[.int .i64 a0_0, v1_, v2_] 45 (0, 0)) (by (with_reducible repeat (first | refine blk_drewN ?_ _ | refine blk_drew ?_ | refine blk_alloc ?_ _)); exact BK1.out) hb); clear HB; clear BK1; have HO137 := n0_; have HB := n1_; have BK1 := n2_; clear n0_ n1_ n2_; clear hb ho4))
  go_loopg [5, 6] k (fun kq v5 v6 w' => ∃ (x5_1 : List Int) (x6_1 : Int), v6 = .int .i64 x6_1 ∧ Aside0 (thoseW q kq a0_0 x6_1 x5_1 = some r) ∧ Aside0 (kq ≤ k) ∧ Aside0 (Kd.R (Kd.int .i64) 3 w' w.heap.size (fun _ => True) v5 x5_1) ∧ Aside0 (w'.heap[gb1]? = some (.cells #[.int .i64 a0_0, v1_, v2_] 45 (0, 0))) ∧ Aside0 (Below w.heap.size w w'))
  case atStart => exact ⟨(y135), (1), (by first | rfl | (simp; done) | (simp [*]; done)), H', ⟨Nat.le_refl _⟩, ⟨by (with_reducible repeat (first | apply Kd.R_alloc | apply Kd.R_drewN | apply Kd.R_drew)); exact HO137.out⟩, ⟨by (with_reducible repeat (first | refine blk_drewN ?_ _ | refine blk_drew ?_ | refine blk_alloc ?_ _)); exact BK1.out⟩, ⟨by repeat (first | (with_reducible first | exact HB.out | apply below_alloc | apply pw_below_drewN | apply below_drew1) | exact HB.out)⟩⟩
  case round =>
    clear H'
    obtain ⟨x5_1, x6_1, rfl, HA, HK1, HO_5, BK1, HB⟩ := hrel
    cases gk with
    | zero => exact absurd HA.out (by simp [thoseW])
    | succ k1 =>
      have H := HA.out
      clear HA
      simp only [thoseW] at H
      have hcz_0 : wr.cell? ⟨gb1, 0, none⟩ = some (.int .i64 a0_0) := (blk_cell BK1.out 0).trans rfl
      have hfz_0 := blk_frozen BK1.out 0
      by_cases c5 : x6_1 ≤ a0_0
      · rw [if_pos c5] at H
        have c5b0 : decide (x6_1 ≤ a0_0) = true := decide_eq_true c5
        clear c5
        obtain ⟨b, hb0, H⟩ := Option.bind_eq_some_iff.mp H
        have hcall := fun (W : World) (hW : Below wr.heap.size wr W) => HP.out x6_1 b W hb0 (below_step HB.out hW)
        clear hb0
        have HC := Aside0.mk hcall
        clear hcall
        cases b with
        | true =>
          rw [if_pos rfl] at H
          by_cases c8 : x5_1.length < 17592186044416
          · rw [if_pos c8] at H
            have LMc8 := Aside0.mk c8
            clear c8
            obtain ⟨y139, hy139⟩ : ∃ y_ : List Int, y_ = (x5_1 ++ [x6_1]) := ⟨_, rfl⟩
            rw [← hy139] at H
            have Ny139 := Aside0.mk hy139
            clear hy139
            have H' := Aside0.mk H
            clear H
            go_wp2_with (first | (go_at_call 89; refine (HC.out _ (Below.refl _ _)).mono ?_; rintro e w9 ⟨rfl, hb⟩; have n0_ := Aside0.mk (Kd.R_below (by (with_reducible repeat (first | apply Kd.R_alloc | apply Kd.R_drewN | apply Kd.R_drew)); exact HO_5.out) hb); have n1_ := Aside0.mk (below_step (by repeat (first | (with_reducible first | exact HB.out | apply below_alloc | apply pw_below_drewN | apply below_drew1) | exact HB.out)) hb); have n2_ := Aside0.mk (blk_below (g := gb1) (o := .cells #[.int .i64 a0_0, v1_, v2_] 45 (0, 0)) BK1.out hb); clear HO_5; clear HB; clear BK1; have HO_5 := n0_; have HB := n1_; have BK1 := n2_; clear n0_ n1_ n2_; clear hb) | ((with_reducible refine gate_builtin (b := .append) (xs := #[.tmp 17, .tmp 19]) rfl ?_); at_builtin; refine Kd.R_append (Kd.int .i64) (w0 := w) w.heap.size rfl (.tmp 17) (.tmp 19) 22 3 (.int .i64 0) 8 rfl Try.underlying22 info3 rfl (by decide) (by omega) u5 x5_1 x6_1 [.int .i64 x6_1] (fun _ => True) (fun _ => False) rfl rfl ?aP (fun _ hk => hk.elim) ?aF ?aO ?aB ?aS ?aL ?_; (case aP => exact rfl); (case aB => exact (by repeat (first | (with_reducible first | exact HB.out | apply below_alloc | apply pw_below_drewN | apply below_drew1) | exact HB.out))); (case aF => exact (fun _ _ => trivial)); (case aO => exact (by (with_reducible repeat (first | apply Kd.R_alloc | apply Kd.R_drewN | apply Kd.R_drew)); exact HO_5.out)); (case aS => exact (below_size (by repeat (first | (with_reducible first | exact HB.out | apply below_alloc | apply pw_below_drewN | apply below_drew1) | exact HB.out)))); (case aL => have := LMc8.out; omega); intro v140 w10 ho hb hg hat; rw [← Ny139.out] at ho; have n0_ := Aside0.mk (hb); have n1_ := Aside0.mk (ho); have n2_ := Aside0.mk (blk_grown (o := .cells #[.int .i64 a0_0, v1_, v2_] 45 (0, 0)) (by (with_reducible repeat (first | refine blk_drewN ?_ _ | refine blk_drew ?_ | refine blk_alloc ?_ _)); exact BK1.out) hg (Kd.R_ne HO_5.out BK1.out (by decide))); clear HB; clear HO_5; clear BK1; have HB := n0_; have HO141 := n1_; have BK1 := n2_; clear n0_ n1_ n2_; clear ho hb hg hat))
            go_roundg k1
            case measure => have := HK1.out; omega
            case rel => exact ⟨(y139), (wrap64 (x6_1 + 1)), (by first | rfl | (simp; done) | (simp [*]; done)), H', ⟨by have := HK1.out; omega⟩, ⟨by (with_reducible repeat (first | apply Kd.R_alloc | apply Kd.R_drewN | apply Kd.R_drew)); exact HO141.out⟩, ⟨by (with_reducible repeat (first | refine blk_drewN ?_ _ | refine blk_drew ?_ | refine blk_alloc ?_ _)); exact BK1.out⟩, ⟨by repeat (first | (with_reducible first | exact HB.out | apply below_alloc | apply pw_below_drewN | apply below_drew1) | exact HB.out)⟩⟩
          · rw [if_neg c8] at H
            exact absurd H (by simp)
        | false =>
          rw [if_neg (by decide)] at H
          have H' := Aside0.mk H
          clear H
          go_wp2_with (first | (go_at_call 89; refine (HC.out _ (Below.refl _ _)).mono ?_; rintro e w9 ⟨rfl, hb⟩; have n0_ := Aside0.mk (Kd.R_below (by (with_reducible repeat (first | apply Kd.R_alloc | apply Kd.R_drewN | apply Kd.R_drew)); exact HO_5.out) hb); have n1_ := Aside0.mk (below_step (by repeat (first | (with_reducible first | exact HB.out | apply below_alloc | apply pw_below_drewN | apply below_drew1) | exact HB.out)) hb); have n2_ := Aside0.mk (blk_below (g := gb1) (o := .cells #[.int .i64 a0_0, v1_, v2_] 45 (0, 0)) BK1.out hb); clear HO_5; clear HB; clear BK1; have HO_5 := n0_; have HB := n1_; have BK1 := n2_; clear n0_ n1_ n2_; clear hb))
          go_roundg k1
          case measure => have := HK1.out; omega
          case rel => exact ⟨(x5_1), (wrap64 (x6_1 + 1)), (by first | rfl | (simp; done) | (simp [*]; done)), H', ⟨by have := HK1.out; omega⟩, ⟨by (with_reducible repeat (first | apply Kd.R_alloc | apply Kd.R_drewN | apply Kd.R_drew)); exact HO_5.out⟩, ⟨by (with_reducible repeat (first | refine blk_drewN ?_ _ | refine blk_drew ?_ | refine blk_alloc ?_ _)); exact BK1.out⟩, ⟨by repeat (first | (with_reducible first | exact HB.out | apply below_alloc | apply pw_below_drewN | apply below_drew1) | exact HB.out)⟩⟩
      · rw [if_neg c5] at H
        have c5b0 : decide (x6_1 ≤ a0_0) = false := decide_eq_false c5
        clear c5
        obtain rfl := Option.some.inj H
        go_wp2
        go_ret
        exact ⟨_, by first | rfl | (simp [errW_none, errW_some] <;> rfl) | (simp [*, errW_none, errW_some] <;> rfl), by (with_reducible repeat (first | apply Kd.R_alloc | apply Kd.R_drewN | apply Kd.R_drew)); exact HO_5.out, by repeat (first | (with_reducible first | exact HB.out | apply below_alloc | apply pw_below_drewN | apply below_drew1) | exact HB.out)⟩
def impl_NeededSteps.q (dn up : List Int) (n : Int) : Option Bool := if 0 ≤ n ∧ n < (dn.length : Int) ∧ n < (up.length : Int) ∧ 0 < (up.length : Int) then some (wrap64 (rd dn n * rd up n) == rd up 0) else none
set_option maxHeartbeats 2000000 in
theorem needed1 (dn up : List Int) (n : Int) (b : Bool) (gd gu : Nat) (Ad Au : Option Addr) (cd cu : Nat) (w : World) (hd : w.heap[gd]? = some (.cells #[.slice Ad dn.length cd] 22 (0, 0))) (hu : w.heap[gu]? = some (.cells #[.slice Au up.length cu] 22 (0, 0))) (hr : Kd.C (Kd.int .i64) w Ad dn.length dn) (hs : Kd.C (Kd.int .i64) w Au up.length up) (h : impl_NeededSteps.q dn up n = some b) :
    Calls Try.prog 89 #[.int .i64 n, .pointer (some ⟨gd, 0, none⟩), .pointer (some ⟨gu, 0, none⟩)] w fun e w' => e = .returned (.bool b) ∧ Below w.heap.size w w' := by
  have hd0 : w.cell? ⟨gd, 0, none⟩ = some (.slice Ad dn.length cd) := (blk_cell hd 0).trans rfl
  have hu0 : w.cell? ⟨gu, 0, none⟩ = some (.slice Au up.length cu) := (blk_cell hu 0).trans rfl
  have HB := Aside0.mk (Below.refl w.heap.size w)
  clear hd hu
  unfold impl_NeededSteps.q at h
  by_cases c : 0 ≤ n ∧ n < (dn.length : Int) ∧ n < (up.length : Int) ∧ 0 < (up.length : Int)
  · rw [if_pos c] at h
    obtain rfl := Option.some.inj h
    clear h
    obtain ⟨c1, c2, c3, c5⟩ := c
    obtain ⟨ad, e, hx⟩ := Kd.at_int hr n c1 c2
    cases e
    obtain ⟨au, e, hy⟩ := Kd.at_int hs n c1 c3
    cases e
    obtain ⟨au', e, hz⟩ := Kd.at_int hs 0 (Int.le_refl 0) c5
    cases e
    clear hr hs
    have c1b0 := eq_true c1
    have c1b1 : decide (0 ≤ n) = true := decide_eq_true c1
    have c2b0 := eq_true c2
    have c2b1 : decide (n < (dn.length : Int)) = true := decide_eq_true c2
    have c3b0 := eq_true c3
    have c3b1 : decide (n < (up.length : Int)) = true := decide_eq_true c3
    have c5b0 := eq_true c5
    have c5b1 : decide (0 < (up.length : Int)) = true := decide_eq_true c5
    have c5b2 : decide (0 < up.length) = true := decide_eq_true (by omega)
    have c5b3 := eq_true (show 0 < up.length by omega)
    (try rw [show ((0 : Int)).toNat = 0 from rfl] at hz)
    (try rw [Addr.add_zero'] at hz)
    have iw := i64_w (rd dn n * rd up n)
    clear c1 c2 c3 c5
    go_enter Try.func89, Try.ntmps89
    go_wp2
    go_quiet (fail)
    go_wp2
    go_ret
    exact ⟨by first | rfl | (simp; done) | (simp [*]; done), by repeat (first | (with_reducible first | exact HB.out | apply below_alloc | apply pw_below_drewN | apply below_drew1) | exact HB.out)⟩
  · rw [if_neg c] at h; exact absurd h (by simp)
def impl_NeededSteps.f (k : Nat) (a0_0 : Int) (l0_1 l0_2 : List Int) : Option (List Int × Bool) := (impl_AreStairs.f k a0_0 l0_1 l0_2).bind fun b0 => if b0 = true then ((impl_Stairs_down.f k a0_0 l0_1 l0_2).bind fun dn => (impl_Stairs_up.f k a0_0 l0_1 l0_2).bind fun up => if 0 < (up.length : Int) then (if rd up 0 = 0 then some ([], false) else ((thoseW (impl_NeededSteps.q dn up) k a0_0 1 []).bind fun tt => some (tt, true))) else none) else some ([], false)
theorem impl_NeededSteps.mono : ∀ a0 a1 a2 k, LeO (impl_NeededSteps.f k a0 a1 a2) (impl_NeededSteps.f (k + 1) a0 a1 a2) := by
  intro a0 a1 a2 k
  unfold impl_NeededSteps.f
  refine LeO.bind (impl_AreStairs.mono _ _ _ _) (fun _ => ?_)
  refine LeO.ite ?_ (LeO.refl _)
  refine LeO.bind (impl_Stairs_down.mono _ _ _ _) (fun _ => ?_)
  refine LeO.bind (impl_Stairs_up.mono _ _ _ _) (fun _ => ?_)
  refine LeO.ite ?_ (LeO.refl _)
  refine LeO.ite (LeO.refl _) ?_
  exact LeO.bind (thoseW_mono _ _ (fun n => LeO.refl _) _ _ _ _) (fun _ => LeO.refl _)
set_option maxHeartbeats 16000000 in
set_option maxRecDepth 100000 in
theorem impl_NeededSteps.calls (k : Nat) (a0_0 : Int) (A0_1 : Option Addr) (c0_1 : Nat) (l0_1 : List Int) (A0_2 : Option Addr) (c0_2 : Nat) (l0_2 : List Int) (r1 : List Int) (r2 : Bool) (w : World) (hr0_1 : Kd.C (Kd.int .i64) w A0_1 l0_1.length l0_1) (hc0_1 : l0_1.length ≤ c0_1) (hr0_2 : Kd.C (Kd.int .i64) w A0_2 l0_2.length l0_2) (hc0_2 : l0_2.length ≤ c0_2) (h : impl_NeededSteps.f k a0_0 l0_1 l0_2 = some (r1, r2)) :
    Calls Try.prog 45 #[.agg #[.int .i64 a0_0, .slice A0_1 l0_1.length c0_1, .slice A0_2 l0_2.length c0_2]] w fun e w' => ∃ v0_ : Value, e = .returned (.tuple #[v0_, .bool r2]) ∧ Kd.R (Kd.int .i64) 3 w' w.heap.size (fun _ => True) v0_ r1 ∧ Below w.heap.size w w' := by
  have hu_ := Try.underlying45
  have HB := Aside0.mk (Below.refl w.heap.size w)
  have HR1 := Aside0.mk hr0_1
  have HR2 := Aside0.mk hr0_2
  have HC1 := Aside0.mk hc0_1
  have HC2 := Aside0.mk hc0_2
  clear hr0_1 hr0_2 hc0_1 hc0_2
  unfold impl_NeededSteps.f at h
  obtain ⟨b0, hraw, h⟩ := Option.bind_eq_some_iff.mp h
  have HA := Aside0.mk hraw
  clear hraw
  cases b0 with
  | true =>
    rw [if_pos rfl] at h
    obtain ⟨dn, hraw, h⟩ := Option.bind_eq_some_iff.mp h
    have HN := Aside0.mk hraw
    clear hraw
    obtain ⟨up, hraw, h⟩ := Option.bind_eq_some_iff.mp h
    have HU := Aside0.mk hraw
    clear hraw
    by_cases c1 : 0 < (up.length : Int)
    · rw [if_pos c1] at h
      have HP := Aside0.mk c1
      clear c1
      by_cases c2 : rd up 0 = 0
      · rw [if_pos c2] at h
        have c2b0 : (rd up 0 == 0) = true := beq_iff_eq.mpr c2
        have c2b1 : decide (rd up 0 = 0) = true := decide_eq_true c2
        simp only [Option.some.injEq, Prod.mk.injEq] at h
        obtain ⟨rfl, rfl⟩ := h
        go_enter Try.func45, Try.ntmps45
        go_wp2_with (first | ((with_reducible refine gate_dst (N := 1) rfl ?_); refine box_event ?hg (N := 1) ?hd (cs := #[.int .i64 a0_0, .slice A0_1 l0_1.length c0_1, .slice A0_2 l0_2.length c0_2]) (t := 45) ?hr ?_; (case hd => rfl); (case hg => rfl); (case hr => first | (go_simp; done) | (go_simp; rfl)); intro gbs hg w1_ hbox hb; have BKs := Aside0.mk hbox; have GWs := Aside0.mk ((by rw [hg]; exact (below_size (by repeat (first | (with_reducible first | exact HB.out | apply below_alloc | apply pw_below_drewN | apply below_drew1) | exact HB.out))) : w.heap.size ≤ gbs)); clear hbox hg; have mb_ := Aside0.mk (below_step (by repeat (first | (with_reducible first | exact HB.out | apply below_alloc | apply pw_below_drewN | apply below_drew1) | exact HB.out)) hb); clear HB; have HB := mb_; clear mb_; clear hb; have hcz2_0 : w1_.cell? ⟨gbs, 0, none⟩ = some (.int .i64 a0_0) := (blk_cell BKs.out 0).trans rfl; have hfz2_0 := blk_frozen BKs.out 0; have hcz2_1 : w1_.cell? ⟨gbs, 1, none⟩ = some (.slice A0_1 l0_1.length c0_1) := (blk_cell BKs.out 1).trans rfl; have hfz2_1 := blk_frozen BKs.out 1; have hcz2_2 : w1_.cell? ⟨gbs, 2, none⟩ = some (.slice A0_2 l0_2.length c0_2) := (blk_cell BKs.out 2).trans rfl; have hfz2_2 := blk_frozen BKs.out 2) | ((with_reducible refine gate_callee (f := 72) rfl ?_); refine goesL_ (some 7) rfl rfl Try.func72 (by kernel_rfl) rfl #[.agg #[.int .i64 a0_0, .slice A0_1 l0_1.length c0_1, .slice A0_2 l0_2.length c0_2]] rfl (by (try simp only [List.map_toArray, List.map_cons, List.map_nil]); first | done | rfl | (simp only [List.length_drop, List.length_take]; rfl)) ?_; (with_reducible refine (impl_AreStairs.calls k a0_0 _ _ l0_1 _ _ l0_2 true _ ?side1 HC1.out ?side2 HC2.out HA.out).mono ?_); (case side1 => exact Kd.C_below HR1.out (by repeat (first | (with_reducible first | exact HB.out | apply below_alloc | apply pw_below_drewN | apply below_drew1) | exact HB.out))); (case side2 => exact Kd.C_below HR2.out (by repeat (first | (with_reducible first | exact HB.out | apply below_alloc | apply pw_below_drewN | apply below_drew1) | exact HB.out))); rintro e w3_ ⟨rfl, hb⟩; refine ⟨_, rfl, ?_⟩; have ms_ := Aside0.mk (blk_below (g := gbs) (o := .cells #[.int .i64 a0_0, .slice A0_1 l0_1.length c0_1, .slice A0_2 l0_2.length c0_2] 45 (0, 0)) (by (with_reducible repeat (first | refine blk_drewN ?_ _ | refine blk_drew ?_ | refine blk_alloc ?_ _)); exact BKs.out) hb); have mb_ := Aside0.mk (below_step (by repeat (first | (with_reducible first | exact HB.out | apply below_alloc | apply pw_below_drewN | apply below_drew1) | exact HB.out)) hb); clear HB; have HB := mb_; clear mb_; clear BKs; have BKs := ms_; clear ms_; clear hb; have hcz4_0 : w3_.cell? ⟨gbs, 0, none⟩ = some (.int .i64 a0_0) := (blk_cell BKs.out 0).trans rfl; have hfz4_0 := blk_frozen BKs.out 0; have hcz4_1 : w3_.cell? ⟨gbs, 1, none⟩ = some (.slice A0_1 l0_1.length c0_1) := (blk_cell BKs.out 1).trans rfl; have hfz4_1 := blk_frozen BKs.out 1; have hcz4_2 : w3_.cell? ⟨gbs, 2, none⟩ = some (.slice A0_2 l0_2.length c0_2) := (blk_cell BKs.out 2).trans rfl; have hfz4_2 := blk_frozen BKs.out 2))
        have BK2_ := Aside0.mk (blk_drew BKs.out)
        have HB2_ := Aside0.mk (below_drew1 HB.out)
        clear BKs HB
        have BKs := BK2_
        have HB := HB2_
        clear BK2_ HB2_
        refine start_ (n := 8) (S := fun w' => w'.cell? ⟨gbs, 0, none⟩ = some (.int .i64 a0_0) ∧ w'.cell? ⟨gbs, 1, none⟩ = some (.slice A0_1 l0_1.length c0_1) ∧ w'.cell? ⟨gbs, 2, none⟩ = some (.slice A0_2 l0_2.length c0_2)) (ds := []) #[false, false, false, false, false, false, false, false] (by kernel_rfl) rfl rfl ⟨(blk_cell BKs.out 0).trans rfl, (blk_cell BKs.out 1).trans rfl, (blk_cell BKs.out 2).trans rfl⟩ (fun hHeld => ?_)
        generalize w3_.drew = w10 at BKs HB hHeld ⊢
        refine take_ (i := 0) (N := some 9) (v := ?_) (a' := ?_) #[true, false, false, false, false, false, false, false] rfl rfl (by kernel_rfl) (fun _ _ _ h => h) (Or.inl ⟨by rfl, ?_⟩) hHeld ?_ ?_
        rotate_left
        · rintro w' ⟨s0, s1, s2⟩
          go_simp
          with_reducible rfl
        rotate_left
        · simp only [Act.put, List.setIfInBounds_toArray, List.set_cons_zero, List.set_cons_succ, i64_w, i32_w]
          rfl
        refine take_ (i := 2) (N := some 11) (v := ?_) (a' := ?_) #[true, false, true, false, false, false, false, false] rfl rfl (by kernel_rfl) (fun _ _ _ h => h) (Or.inl ⟨by rfl, ?_⟩) hHeld ?_ ?_
        rotate_left
        · rintro w' ⟨s0, s1, s2⟩
          go_simp
          with_reducible rfl
        rotate_left
        · simp only [Act.put, List.setIfInBounds_toArray, List.set_cons_zero, List.set_cons_succ, i64_w, i32_w]
          rfl
        refine join_ (σ := Value × Value × Nat × Nat) 2 #[true, true, true, true, true, true, false, false] (fun (s_ : Value × Value × Nat × Nat) => [(10, s_.1), (12, s_.2.1), (4, .pointer (some ⟨s_.2.2.1, 0, none⟩)), (5, .pointer (some ⟨s_.2.2.2, 0, none⟩))]) (fun (s_ : Value × Value × Nat × Nat) (W_ : World) => Aside0 (Below w.heap.size w W_) ∧ Aside0 (W_.heap[gbs]? = some (.cells #[.int .i64 a0_0, .slice A0_1 l0_1.length c0_1, .slice A0_2 l0_2.length c0_2] 45 (0, 0))) ∧ Aside0 (Kd.R (Kd.int .i64) 3 W_ w.heap.size (fun _ => True) s_.1 dn) ∧ Aside0 (Kd.R (Kd.int .i64) 3 W_ w.heap.size (fun _ => True) s_.2.1 up) ∧ Aside0 (W_.heap[s_.2.2.1]? = some (.cells #[.slice none 0 0] 22 (0, 0))) ∧ Aside0 (w.heap.size ≤ s_.2.2.1) ∧ Aside0 (gbs < s_.2.2.1) ∧ Aside0 (W_.heap[s_.2.2.2]? = some (.cells #[.slice none 0 0] 22 (0, 0))) ∧ Aside0 (w.heap.size ≤ s_.2.2.2) ∧ Aside0 (gbs < s_.2.2.2) ∧ Aside0 (s_.2.2.1 ≠ s_.2.2.2)) ?_ ?_
        rotate_left
        · intro hJ1345
          refine join_ (σ := Value × Value × Nat × Nat) 3 #[true, true, true, true, true, false, false, false] (fun (s_ : Value × Value × Nat × Nat) => [(10, s_.1), (12, s_.2.1), (4, .pointer (some ⟨s_.2.2.1, 0, none⟩))]) (fun (s_ : Value × Value × Nat × Nat) (W_ : World) => Aside0 (Below w.heap.size w W_) ∧ Aside0 (W_.heap[gbs]? = some (.cells #[.int .i64 a0_0, .slice A0_1 l0_1.length c0_1, .slice A0_2 l0_2.length c0_2] 45 (0, 0))) ∧ Aside0 (Kd.R (Kd.int .i64) 3 W_ w.heap.size (fun _ => True) s_.1 dn) ∧ Aside0 (Kd.R (Kd.int .i64) 3 W_ w.heap.size (fun _ => True) s_.2.1 up) ∧ Aside0 (W_.heap[s_.2.2.1]? = some (.cells #[.slice none 0 0] 22 (0, 0))) ∧ Aside0 (w.heap.size ≤ s_.2.2.1) ∧ Aside0 (gbs < s_.2.2.1)) ?_ ?_
          rotate_left
          · intro hJ134
            refine join_ (σ := Value × Value × Nat × Nat) 3 #[true, true, true, true, false, true, false, false] (fun (s_ : Value × Value × Nat × Nat) => [(10, s_.1), (12, s_.2.1), (5, .pointer (some ⟨s_.2.2.2, 0, none⟩))]) (fun (s_ : Value × Value × Nat × Nat) (W_ : World) => Aside0 (Below w.heap.size w W_) ∧ Aside0 (W_.heap[gbs]? = some (.cells #[.int .i64 a0_0, .slice A0_1 l0_1.length c0_1, .slice A0_2 l0_2.length c0_2] 45 (0, 0))) ∧ Aside0 (Kd.R (Kd.int .i64) 3 W_ w.heap.size (fun _ => True) s_.1 dn) ∧ Aside0 (Kd.R (Kd.int .i64) 3 W_ w.heap.size (fun _ => True) s_.2.1 up) ∧ Aside0 (W_.heap[s_.2.2.2]? = some (.cells #[.slice none 0 0] 22 (0, 0))) ∧ Aside0 (w.heap.size ≤ s_.2.2.2) ∧ Aside0 (gbs < s_.2.2.2)) ?_ ?_
            rotate_left
            · intro hJ135
              refine join_ (σ := Value × Value × Nat × Nat) 3 #[true, true, true, false, true, true, false, false] (fun (s_ : Value × Value × Nat × Nat) => [(10, s_.1), (4, .pointer (some ⟨s_.2.2.1, 0, none⟩)), (5, .pointer (some ⟨s_.2.2.2, 0, none⟩))]) (fun (s_ : Value × Value × Nat × Nat) (W_ : World) => Aside0 (Below w.heap.size w W_) ∧ Aside0 (W_.heap[gbs]? = some (.cells #[.int .i64 a0_0, .slice A0_1 l0_1.length c0_1, .slice A0_2 l0_2.length c0_2] 45 (0, 0))) ∧ Aside0 (Kd.R (Kd.int .i64) 3 W_ w.heap.size (fun _ => True) s_.1 dn) ∧ Aside0 (W_.heap[s_.2.2.1]? = some (.cells #[.slice none 0 0] 22 (0, 0))) ∧ Aside0 (w.heap.size ≤ s_.2.2.1) ∧ Aside0 (gbs < s_.2.2.1) ∧ Aside0 (W_.heap[s_.2.2.2]? = some (.cells #[.slice none 0 0] 22 (0, 0))) ∧ Aside0 (w.heap.size ≤ s_.2.2.2) ∧ Aside0 (gbs < s_.2.2.2) ∧ Aside0 (s_.2.2.1 ≠ s_.2.2.2)) ?_ ?_
              rotate_left
              · intro hJ145
                refine join_ (σ := Value × Value × Nat × Nat) 4 #[true, true, true, true, false, false, false, false] (fun (s_ : Value × Value × Nat × Nat) => [(10, s_.1), (12, s_.2.1)]) (fun (s_ : Value × Value × Nat × Nat) (W_ : World) => Aside0 (Below w.heap.size w W_) ∧ Aside0 (W_.heap[gbs]? = some (.cells #[.int .i64 a0_0, .slice A0_1 l0_1.length c0_1, .slice A0_2 l0_2.length c0_2] 45 (0, 0))) ∧ Aside0 (Kd.R (Kd.int .i64) 3 W_ w.heap.size (fun _ => True) s_.1 dn) ∧ Aside0 (Kd.R (Kd.int .i64) 3 W_ w.heap.size (fun _ => True) s_.2.1 up)) ?_ ?_
                rotate_left
                · intro hJ13
                  refine join_ (σ := Value × Value × Nat × Nat) 4 #[true, true, true, false, true, false, false, false] (fun (s_ : Value × Value × Nat × Nat) => [(10, s_.1), (4, .pointer (some ⟨s_.2.2.1, 0, none⟩))]) (fun (s_ : Value × Value × Nat × Nat) (W_ : World) => Aside0 (Below w.heap.size w W_) ∧ Aside0 (W_.heap[gbs]? = some (.cells #[.int .i64 a0_0, .slice A0_1 l0_1.length c0_1, .slice A0_2 l0_2.length c0_2] 45 (0, 0))) ∧ Aside0 (Kd.R (Kd.int .i64) 3 W_ w.heap.size (fun _ => True) s_.1 dn) ∧ Aside0 (W_.heap[s_.2.2.1]? = some (.cells #[.slice none 0 0] 22 (0, 0))) ∧ Aside0 (w.heap.size ≤ s_.2.2.1) ∧ Aside0 (gbs < s_.2.2.1)) ?_ ?_
                  rotate_left
                  · intro hJ14
                    refine join_ (σ := Value × Value × Nat × Nat) 4 #[true, true, true, false, false, true, false, false] (fun (s_ : Value × Value × Nat × Nat) => [(10, s_.1), (5, .pointer (some ⟨s_.2.2.2, 0, none⟩))]) (fun (s_ : Value × Value × Nat × Nat) (W_ : World) => Aside0 (Below w.heap.size w W_) ∧ Aside0 (W_.heap[gbs]? = some (.cells #[.int .i64 a0_0, .slice A0_1 l0_1.length c0_1, .slice A0_2 l0_2.length c0_2] 45 (0, 0))) ∧ Aside0 (Kd.R (Kd.int .i64) 3 W_ w.heap.size (fun _ => True) s_.1 dn) ∧ Aside0 (W_.heap[s_.2.2.2]? = some (.cells #[.slice none 0 0] 22 (0, 0))) ∧ Aside0 (w.heap.size ≤ s_.2.2.2) ∧ Aside0 (gbs < s_.2.2.2)) ?_ ?_
                    rotate_left
                    · intro hJ15
                      refine join_ (σ := Value × Value × Nat × Nat) 4 #[true, false, true, false, true, true, false, false] (fun (s_ : Value × Value × Nat × Nat) => [(4, .pointer (some ⟨s_.2.2.1, 0, none⟩)), (5, .pointer (some ⟨s_.2.2.2, 0, none⟩))]) (fun (s_ : Value × Value × Nat × Nat) (W_ : World) => Aside0 (Below w.heap.size w W_) ∧ Aside0 (W_.heap[gbs]? = some (.cells #[.int .i64 a0_0, .slice A0_1 l0_1.length c0_1, .slice A0_2 l0_2.length c0_2] 45 (0, 0))) ∧ Aside0 (W_.heap[s_.2.2.1]? = some (.cells #[.slice none 0 0] 22 (0, 0))) ∧ Aside0 (w.heap.size ≤ s_.2.2.1) ∧ Aside0 (gbs < s_.2.2.1) ∧ Aside0 (W_.heap[s_.2.2.2]? = some (.cells #[.slice none 0 0] 22 (0, 0))) ∧ Aside0 (w.heap.size ≤ s_.2.2.2) ∧ Aside0 (gbs < s_.2.2.2) ∧ Aside0 (s_.2.2.1 ≠ s_.2.2.2)) ?_ ?_
                      rotate_left
                      · intro hJ45
                        refine join_ (σ := Value × Value × Nat × Nat) 5 #[true, true, true, false, false, false, false, false] (fun (s_ : Value × Value × Nat × Nat) => [(10, s_.1)]) (fun (s_ : Value × Value × Nat × Nat) (W_ : World) => Aside0 (Below w.heap.size w W_) ∧ Aside0 (W_.heap[gbs]? = some (.cells #[.int .i64 a0_0, .slice A0_1 l0_1.length c0_1, .slice A0_2 l0_2.length c0_2] 45 (0, 0))) ∧ Aside0 (Kd.R (Kd.int .i64) 3 W_ w.heap.size (fun _ => True) s_.1 dn)) ?_ ?_
                        rotate_left
                        · intro hJ1
                          refine join_ (σ := Value × Value × Nat × Nat) 5 #[true, false, true, false, true, false, false, false] (fun (s_ : Value × Value × Nat × Nat) => [(4, .pointer (some ⟨s_.2.2.1, 0, none⟩))]) (fun (s_ : Value × Value × Nat × Nat) (W_ : World) => Aside0 (Below w.heap.size w W_) ∧ Aside0 (W_.heap[gbs]? = some (.cells #[.int .i64 a0_0, .slice A0_1 l0_1.length c0_1, .slice A0_2 l0_2.length c0_2] 45 (0, 0))) ∧ Aside0 (W_.heap[s_.2.2.1]? = some (.cells #[.slice none 0 0] 22 (0, 0))) ∧ Aside0 (w.heap.size ≤ s_.2.2.1) ∧ Aside0 (gbs < s_.2.2.1)) ?_ ?_
                          rotate_left
                          · intro hJ4
                            refine join_ (σ := Value × Value × Nat × Nat) 5 #[true, false, true, false, false, true, false, false] (fun (s_ : Value × Value × Nat × Nat) => [(5, .pointer (some ⟨s_.2.2.2, 0, none⟩))]) (fun (s_ : Value × Value × Nat × Nat) (W_ : World) => Aside0 (Below w.heap.size w W_) ∧ Aside0 (W_.heap[gbs]? = some (.cells #[.int .i64 a0_0, .slice A0_1 l0_1.length c0_1, .slice A0_2 l0_2.length c0_2] 45 (0, 0))) ∧ Aside0 (W_.heap[s_.2.2.2]? = some (.cells #[.slice none 0 0] 22 (0, 0))) ∧ Aside0 (w.heap.size ≤ s_.2.2.2) ∧ Aside0 (gbs < s_.2.2.2)) ?_ ?_
                            rotate_left
                            · intro hJ5
                              have FB_ := HB
                              have FS_ := BKs
                              clear HB BKs
                              refine three_ (i := 1) (j := 4) (k := 5) (Ni := some 10) (Nj := some 4) (Nk := some 5) #[true, true, true, false, false, false, false, false] #[true, false, true, false, true, false, false, false] #[true, false, true, false, false, true, false, false] rfl rfl rfl rfl rfl rfl (by kernel_rfl) (by decide) (by decide) (by decide) (fun K hK => ?_) (fun K hK => ?_) (fun K hK => ?_)
                              · refine goes_ Try.func73 (by kernel_rfl) rfl #[.agg #[.int .i64 a0_0, .slice A0_1 l0_1.length c0_1, .slice A0_2 l0_2.length c0_2]] (by rfl) rfl rfl (by (try simp only [List.map_toArray, List.map_cons, List.map_nil]); first | done | rfl) ?_
                                with_reducible refine (impl_Stairs_down.calls k a0_0 _ _ l0_1 _ _ l0_2 dn _ ?side1 HC1.out ?side2 HC2.out HN.out).mono ?_
                                (case side1 => exact Kd.C_below HR1.out FB_.out)
                                (case side2 => exact Kd.C_below HR2.out FB_.out)
                                rintro e wq ⟨vd_, rfl, ho, hb⟩
                                refine ⟨_, rfl, ?_⟩
                                refine hK.out _ _ ⟨(blk_cell (blk_below FS_.out hb) 0).trans rfl, (blk_cell (blk_below FS_.out hb) 1).trans rfl, (blk_cell (blk_below FS_.out hb) 2).trans rfl⟩ (fun hHeld2 => ?_)
                                exact norm_ (by first | rfl | (simp only [putAll, Act.put, List.setIfInBounds_toArray, List.set_cons_zero, List.set_cons_succ]; done) | (simp only [putAll, Act.put, List.setIfInBounds_toArray, List.set_cons_zero, List.set_cons_succ]; rfl)) (hJ1 (vd_, undef, 0, 0) _ ⟨⟨below_step FB_.out hb⟩, ⟨blk_below FS_.out hb⟩, ⟨Kd.R_lower ho (below_size FB_.out)⟩⟩)
                              · refine box_step rfl (N := 4) rfl (cs := #[.slice none 0 0]) (t := 22) ?_ ?_
                                · first | (go_simp; done) | (go_simp; rfl)
                                rintro ga_ hg wq hbox hb
                                refine hK.out _ _ ⟨(blk_cell (blk_below FS_.out hb) 0).trans rfl, (blk_cell (blk_below FS_.out hb) 1).trans rfl, (blk_cell (blk_below FS_.out hb) 2).trans rfl⟩ (fun hHeld2 => ?_)
                                exact norm_ (by first | rfl | (simp only [putAll, Act.put, List.setIfInBounds_toArray, List.set_cons_zero, List.set_cons_succ]; done) | (simp only [putAll, Act.put, List.setIfInBounds_toArray, List.set_cons_zero, List.set_cons_succ]; rfl)) (hJ4 (undef, undef, ga_, 0) _ ⟨⟨below_step FB_.out hb⟩, ⟨blk_below FS_.out hb⟩, ⟨hbox⟩, ⟨by rw [hg]; exact below_size FB_.out⟩, ⟨by rw [hg]; exact blk_lt FS_.out⟩⟩)
                              · refine box_step rfl (N := 5) rfl (cs := #[.slice none 0 0]) (t := 22) ?_ ?_
                                · first | (go_simp; done) | (go_simp; rfl)
                                rintro gc_ hg wq hbox hb
                                refine hK.out _ _ ⟨(blk_cell (blk_below FS_.out hb) 0).trans rfl, (blk_cell (blk_below FS_.out hb) 1).trans rfl, (blk_cell (blk_below FS_.out hb) 2).trans rfl⟩ (fun hHeld2 => ?_)
                                exact norm_ (by first | rfl | (simp only [putAll, Act.put, List.setIfInBounds_toArray, List.set_cons_zero, List.set_cons_succ]; done) | (simp only [putAll, Act.put, List.setIfInBounds_toArray, List.set_cons_zero, List.set_cons_succ]; rfl)) (hJ5 (undef, undef, 0, gc_) _ ⟨⟨below_step FB_.out hb⟩, ⟨blk_below FS_.out hb⟩, ⟨hbox⟩, ⟨by rw [hg]; exact below_size FB_.out⟩, ⟨by rw [hg]; exact blk_lt FS_.out⟩⟩)
                            rintro ⟨vd_, vu_, ga_, gc_⟩ wr_ ⟨FB_, FS_, F5k_, F5g_, F5s_⟩
                            refine norm_ (a' := ?_) ?_ ?_
                            rotate_left
                            · simp only [putAll, Act.put, List.setIfInBounds_toArray, List.set_cons_zero, List.set_cons_succ]
                              rfl
                            refine two_ (i := 1) (j := 4) (Ni := some 10) (Nj := some 4) #[true, true, true, false, false, true, false, false] #[true, false, true, false, true, true, false, false] rfl rfl rfl rfl (by kernel_rfl) (by decide) (by decide) (fun K hK => ?_) (fun K hK => ?_)
                            · refine goes_ Try.func73 (by kernel_rfl) rfl #[.agg #[.int .i64 a0_0, .slice A0_1 l0_1.length c0_1, .slice A0_2 l0_2.length c0_2]] (by rfl) rfl rfl (by (try simp only [List.map_toArray, List.map_cons, List.map_nil]); first | done | rfl) ?_
                              with_reducible refine (impl_Stairs_down.calls k a0_0 _ _ l0_1 _ _ l0_2 dn _ ?side1 HC1.out ?side2 HC2.out HN.out).mono ?_
                              (case side1 => exact Kd.C_below HR1.out FB_.out)
                              (case side2 => exact Kd.C_below HR2.out FB_.out)
                              rintro e wq ⟨vd_, rfl, ho, hb⟩
                              refine ⟨_, rfl, ?_⟩
                              refine hK.out _ _ ⟨(blk_cell (blk_below FS_.out hb) 0).trans rfl, (blk_cell (blk_below FS_.out hb) 1).trans rfl, (blk_cell (blk_below FS_.out hb) 2).trans rfl⟩ (fun hHeld2 => ?_)
                              exact norm_ (by first | rfl | (simp only [putAll, Act.put, List.setIfInBounds_toArray, List.set_cons_zero, List.set_cons_succ]; done) | (simp only [putAll, Act.put, List.setIfInBounds_toArray, List.set_cons_zero, List.set_cons_succ]; rfl)) (hJ15 (vd_, undef, 0, gc_) _ ⟨⟨below_step FB_.out hb⟩, ⟨blk_below FS_.out hb⟩, ⟨Kd.R_lower ho (below_size FB_.out)⟩, ⟨blk_below F5k_.out hb⟩, F5g_, F5s_⟩)
                            · refine box_step rfl (N := 4) rfl (cs := #[.slice none 0 0]) (t := 22) ?_ ?_
                              · first | (go_simp; done) | (go_simp; rfl)
                              rintro ga_ hg wq hbox hb
                              refine hK.out _ _ ⟨(blk_cell (blk_below FS_.out hb) 0).trans rfl, (blk_cell (blk_below FS_.out hb) 1).trans rfl, (blk_cell (blk_below FS_.out hb) 2).trans rfl⟩ (fun hHeld2 => ?_)
                              exact norm_ (by first | rfl | (simp only [putAll, Act.put, List.setIfInBounds_toArray, List.set_cons_zero, List.set_cons_succ]; done) | (simp only [putAll, Act.put, List.setIfInBounds_toArray, List.set_cons_zero, List.set_cons_succ]; rfl)) (hJ45 (undef, undef, ga_, gc_) _ ⟨⟨below_step FB_.out hb⟩, ⟨blk_below FS_.out hb⟩, ⟨hbox⟩, ⟨by rw [hg]; exact below_size FB_.out⟩, ⟨by rw [hg]; exact blk_lt FS_.out⟩, ⟨blk_below F5k_.out hb⟩, F5g_, F5s_, ⟨fun z_ => by have q1_ : gc_ < wr_.heap.size := blk_lt F5k_.out; have q2_ : ga_ = gc_ := z_; omega⟩⟩)
                          rintro ⟨vd_, vu_, ga_, gc_⟩ wr_ ⟨FB_, FS_, F4k_, F4g_, F4s_⟩
                          refine norm_ (a' := ?_) ?_ ?_
                          rotate_left
                          · simp only [putAll, Act.put, List.setIfInBounds_toArray, List.set_cons_zero, List.set_cons_succ]
                            rfl
                          refine two_ (i := 1) (j := 5) (Ni := some 10) (Nj := some 5) #[true, true, true, false, true, false, false, false] #[true, false, true, false, true, true, false, false] rfl rfl rfl rfl (by kernel_rfl) (by decide) (by decide) (fun K hK => ?_) (fun K hK => ?_)
                          · refine goes_ Try.func73 (by kernel_rfl) rfl #[.agg #[.int .i64 a0_0, .slice A0_1 l0_1.length c0_1, .slice A0_2 l0_2.length c0_2]] (by rfl) rfl rfl (by (try simp only [List.map_toArray, List.map_cons, List.map_nil]); first | done | rfl) ?_
                            with_reducible refine (impl_Stairs_down.calls k a0_0 _ _ l0_1 _ _ l0_2 dn _ ?side1 HC1.out ?side2 HC2.out HN.out).mono ?_
                            (case side1 => exact Kd.C_below HR1.out FB_.out)
                            (case side2 => exact Kd.C_below HR2.out FB_.out)
                            rintro e wq ⟨vd_, rfl, ho, hb⟩
                            refine ⟨_, rfl, ?_⟩
                            refine hK.out _ _ ⟨(blk_cell (blk_below FS_.out hb) 0).trans rfl, (blk_cell (blk_below FS_.out hb) 1).trans rfl, (blk_cell (blk_below FS_.out hb) 2).trans rfl⟩ (fun hHeld2 => ?_)
                            exact norm_ (by first | rfl | (simp only [putAll, Act.put, List.setIfInBounds_toArray, List.set_cons_zero, List.set_cons_succ]; done) | (simp only [putAll, Act.put, List.setIfInBounds_toArray, List.set_cons_zero, List.set_cons_succ]; rfl)) (hJ14 (vd_, undef, ga_, 0) _ ⟨⟨below_step FB_.out hb⟩, ⟨blk_below FS_.out hb⟩, ⟨Kd.R_lower ho (below_size FB_.out)⟩, ⟨blk_below F4k_.out hb⟩, F4g_, F4s_⟩)
                          · refine box_step rfl (N := 5) rfl (cs := #[.slice none 0 0]) (t := 22) ?_ ?_
                            · first | (go_simp; done) | (go_simp; rfl)
                            rintro gc_ hg wq hbox hb
                            refine hK.out _ _ ⟨(blk_cell (blk_below FS_.out hb) 0).trans rfl, (blk_cell (blk_below FS_.out hb) 1).trans rfl, (blk_cell (blk_below FS_.out hb) 2).trans rfl⟩ (fun hHeld2 => ?_)
                            exact norm_ (by first | rfl | (simp only [putAll, Act.put, List.setIfInBounds_toArray, List.set_cons_zero, List.set_cons_succ]; done) | (simp only [putAll, Act.put, List.setIfInBounds_toArray, List.set_cons_zero, List.set_cons_succ]; rfl)) (hJ45 (undef, undef, ga_, gc_) _ ⟨⟨below_step FB_.out hb⟩, ⟨blk_below FS_.out hb⟩, ⟨blk_below F4k_.out hb⟩, F4g_, F4s_, ⟨hbox⟩, ⟨by rw [hg]; exact below_size FB_.out⟩, ⟨by rw [hg]; exact blk_lt FS_.out⟩, ⟨fun z_ => by have q1_ : ga_ < wr_.heap.size := blk_lt F4k_.out; have q2_ : ga_ = gc_ := z_; omega⟩⟩)
                        rintro ⟨vd_, vu_, ga_, gc_⟩ wr_ ⟨FB_, FS_, F1_⟩
                        refine norm_ (a' := ?_) ?_ ?_
                        rotate_left
                        · simp only [putAll, Act.put, List.setIfInBounds_toArray, List.set_cons_zero, List.set_cons_succ]
                          rfl
                        refine three_ (i := 3) (j := 4) (k := 5) (Ni := some 12) (Nj := some 4) (Nk := some 5) #[true, true, true, true, false, false, false, false] #[true, true, true, false, true, false, false, false] #[true, true, true, false, false, true, false, false] rfl rfl rfl rfl rfl rfl (by kernel_rfl) (by decide) (by decide) (by decide) (fun K hK => ?_) (fun K hK => ?_) (fun K hK => ?_)
                        · refine goes_ Try.func85 (by kernel_rfl) rfl #[.agg #[.int .i64 a0_0, .slice A0_1 l0_1.length c0_1, .slice A0_2 l0_2.length c0_2]] (by rfl) rfl rfl (by (try simp only [List.map_toArray, List.map_cons, List.map_nil]); first | done | rfl) ?_
                          with_reducible refine (impl_Stairs_up.calls k a0_0 _ _ l0_1 _ _ l0_2 up _ ?side1 HC1.out ?side2 HC2.out HU.out).mono ?_
                          (case side1 => exact Kd.C_below HR1.out FB_.out)
                          (case side2 => exact Kd.C_below HR2.out FB_.out)
                          rintro e wq ⟨vu_, rfl, ho, hb⟩
                          refine ⟨_, rfl, ?_⟩
                          refine hK.out _ _ ⟨(blk_cell (blk_below FS_.out hb) 0).trans rfl, (blk_cell (blk_below FS_.out hb) 1).trans rfl, (blk_cell (blk_below FS_.out hb) 2).trans rfl⟩ (fun hHeld2 => ?_)
                          exact norm_ (by first | rfl | (simp only [putAll, Act.put, List.setIfInBounds_toArray, List.set_cons_zero, List.set_cons_succ]; done) | (simp only [putAll, Act.put, List.setIfInBounds_toArray, List.set_cons_zero, List.set_cons_succ]; rfl)) (hJ13 (vd_, vu_, 0, 0) _ ⟨⟨below_step FB_.out hb⟩, ⟨blk_below FS_.out hb⟩, ⟨Kd.R_below F1_.out hb⟩, ⟨Kd.R_lower ho (below_size FB_.out)⟩⟩)
                        · refine box_step rfl (N := 4) rfl (cs := #[.slice none 0 0]) (t := 22) ?_ ?_
                          · first | (go_simp; done) | (go_simp; rfl)
                          rintro ga_ hg wq hbox hb
                          refine hK.out _ _ ⟨(blk_cell (blk_below FS_.out hb) 0).trans rfl, (blk_cell (blk_below FS_.out hb) 1).trans rfl, (blk_cell (blk_below FS_.out hb) 2).trans rfl⟩ (fun hHeld2 => ?_)
                          exact norm_ (by first | rfl | (simp only [putAll, Act.put, List.setIfInBounds_toArray, List.set_cons_zero, List.set_cons_succ]; done) | (simp only [putAll, Act.put, List.setIfInBounds_toArray, List.set_cons_zero, List.set_cons_succ]; rfl)) (hJ14 (vd_, undef, ga_, 0) _ ⟨⟨below_step FB_.out hb⟩, ⟨blk_below FS_.out hb⟩, ⟨Kd.R_below F1_.out hb⟩, ⟨hbox⟩, ⟨by rw [hg]; exact below_size FB_.out⟩, ⟨by rw [hg]; exact blk_lt FS_.out⟩⟩)
                        · refine box_step rfl (N := 5) rfl (cs := #[.slice none 0 0]) (t := 22) ?_ ?_
                          · first | (go_simp; done) | (go_simp; rfl)
                          rintro gc_ hg wq hbox hb
                          refine hK.out _ _ ⟨(blk_cell (blk_below FS_.out hb) 0).trans rfl, (blk_cell (blk_below FS_.out hb) 1).trans rfl, (blk_cell (blk_below FS_.out hb) 2).trans rfl⟩ (fun hHeld2 => ?_)
                          exact norm_ (by first | rfl | (simp only [putAll, Act.put, List.setIfInBounds_toArray, List.set_cons_zero, List.set_cons_succ]; done) | (simp only [putAll, Act.put, List.setIfInBounds_toArray, List.set_cons_zero, List.set_cons_succ]; rfl)) (hJ15 (vd_, undef, 0, gc_) _ ⟨⟨below_step FB_.out hb⟩, ⟨blk_below FS_.out hb⟩, ⟨Kd.R_below F1_.out hb⟩, ⟨hbox⟩, ⟨by rw [hg]; exact below_size FB_.out⟩, ⟨by rw [hg]; exact blk_lt FS_.out⟩⟩)
                      rintro ⟨vd_, vu_, ga_, gc_⟩ wr_ ⟨FB_, FS_, F4k_, F4g_, F4s_, F5k_, F5g_, F5s_, F45_⟩
                      refine norm_ (a' := ?_) ?_ ?_
                      rotate_left
                      · simp only [putAll, Act.put, List.setIfInBounds_toArray, List.set_cons_zero, List.set_cons_succ]
                        rfl
                      refine one_ (i := 1) (N := some 10) #[true, true, true, false, true, true, false, false] rfl rfl (by kernel_rfl) (by decide) (fun K hK => ?_)
                      · refine goes_ Try.func73 (by kernel_rfl) rfl #[.agg #[.int .i64 a0_0, .slice A0_1 l0_1.length c0_1, .slice A0_2 l0_2.length c0_2]] (by rfl) rfl rfl (by (try simp only [List.map_toArray, List.map_cons, List.map_nil]); first | done | rfl) ?_
                        with_reducible refine (impl_Stairs_down.calls k a0_0 _ _ l0_1 _ _ l0_2 dn _ ?side1 HC1.out ?side2 HC2.out HN.out).mono ?_
                        (case side1 => exact Kd.C_below HR1.out FB_.out)
                        (case side2 => exact Kd.C_below HR2.out FB_.out)
                        rintro e wq ⟨vd_, rfl, ho, hb⟩
                        refine ⟨_, rfl, ?_⟩
                        refine hK.out _ _ ⟨(blk_cell (blk_below FS_.out hb) 0).trans rfl, (blk_cell (blk_below FS_.out hb) 1).trans rfl, (blk_cell (blk_below FS_.out hb) 2).trans rfl⟩ (fun hHeld2 => ?_)
                        exact norm_ (by first | rfl | (simp only [putAll, Act.put, List.setIfInBounds_toArray, List.set_cons_zero, List.set_cons_succ]; done) | (simp only [putAll, Act.put, List.setIfInBounds_toArray, List.set_cons_zero, List.set_cons_succ]; rfl)) (hJ145 (vd_, undef, ga_, gc_) _ ⟨⟨below_step FB_.out hb⟩, ⟨blk_below FS_.out hb⟩, ⟨Kd.R_lower ho (below_size FB_.out)⟩, ⟨blk_below F4k_.out hb⟩, F4g_, F4s_, ⟨blk_below F5k_.out hb⟩, F5g_, F5s_, F45_⟩)
                    rintro ⟨vd_, vu_, ga_, gc_⟩ wr_ ⟨FB_, FS_, F1_, F5k_, F5g_, F5s_⟩
                    refine norm_ (a' := ?_) ?_ ?_
                    rotate_left
                    · simp only [putAll, Act.put, List.setIfInBounds_toArray, List.set_cons_zero, List.set_cons_succ]
                      rfl
                    refine two_ (i := 3) (j := 4) (Ni := some 12) (Nj := some 4) #[true, true, true, true, false, true, false, false] #[true, true, true, false, true, true, false, false] rfl rfl rfl rfl (by kernel_rfl) (by decide) (by decide) (fun K hK => ?_) (fun K hK => ?_)
                    · refine goes_ Try.func85 (by kernel_rfl) rfl #[.agg #[.int .i64 a0_0, .slice A0_1 l0_1.length c0_1, .slice A0_2 l0_2.length c0_2]] (by rfl) rfl rfl (by (try simp only [List.map_toArray, List.map_cons, List.map_nil]); first | done | rfl) ?_
                      with_reducible refine (impl_Stairs_up.calls k a0_0 _ _ l0_1 _ _ l0_2 up _ ?side1 HC1.out ?side2 HC2.out HU.out).mono ?_
                      (case side1 => exact Kd.C_below HR1.out FB_.out)
                      (case side2 => exact Kd.C_below HR2.out FB_.out)
                      rintro e wq ⟨vu_, rfl, ho, hb⟩
                      refine ⟨_, rfl, ?_⟩
                      refine hK.out _ _ ⟨(blk_cell (blk_below FS_.out hb) 0).trans rfl, (blk_cell (blk_below FS_.out hb) 1).trans rfl, (blk_cell (blk_below FS_.out hb) 2).trans rfl⟩ (fun hHeld2 => ?_)
                      exact norm_ (by first | rfl | (simp only [putAll, Act.put, List.setIfInBounds_toArray, List.set_cons_zero, List.set_cons_succ]; done) | (simp only [putAll, Act.put, List.setIfInBounds_toArray, List.set_cons_zero, List.set_cons_succ]; rfl)) (hJ135 (vd_, vu_, 0, gc_) _ ⟨⟨below_step FB_.out hb⟩, ⟨blk_below FS_.out hb⟩, ⟨Kd.R_below F1_.out hb⟩, ⟨Kd.R_lower ho (below_size FB_.out)⟩, ⟨blk_below F5k_.out hb⟩, F5g_, F5s_⟩)
                    · refine box_step rfl (N := 4) rfl (cs := #[.slice none 0 0]) (t := 22) ?_ ?_
                      · first | (go_simp; done) | (go_simp; rfl)
                      rintro ga_ hg wq hbox hb
                      refine hK.out _ _ ⟨(blk_cell (blk_below FS_.out hb) 0).trans rfl, (blk_cell (blk_below FS_.out hb) 1).trans rfl, (blk_cell (blk_below FS_.out hb) 2).trans rfl⟩ (fun hHeld2 => ?_)
                      exact norm_ (by first | rfl | (simp only [putAll, Act.put, List.setIfInBounds_toArray, List.set_cons_zero, List.set_cons_succ]; done) | (simp only [putAll, Act.put, List.setIfInBounds_toArray, List.set_cons_zero, List.set_cons_succ]; rfl)) (hJ145 (vd_, undef, ga_, gc_) _ ⟨⟨below_step FB_.out hb⟩, ⟨blk_below FS_.out hb⟩, ⟨Kd.R_below F1_.out hb⟩, ⟨hbox⟩, ⟨by rw [hg]; exact below_size FB_.out⟩, ⟨by rw [hg]; exact blk_lt FS_.out⟩, ⟨blk_below F5k_.out hb⟩, F5g_, F5s_, ⟨fun z_ => by have q1_ : gc_ < wr_.heap.size := blk_lt F5k_.out; have q2_ : ga_ = gc_ := z_; omega⟩⟩)
                  rintro ⟨vd_, vu_, ga_, gc_⟩ wr_ ⟨FB_, FS_, F1_, F4k_, F4g_, F4s_⟩
                  refine norm_ (a' := ?_) ?_ ?_
                  rotate_left
                  · simp only [putAll, Act.put, List.setIfInBounds_toArray, List.set_cons_zero, List.set_cons_succ]
                    rfl
                  refine two_ (i := 3) (j := 5) (Ni := some 12) (Nj := some 5) #[true, true, true, true, true, false, false, false] #[true, true, true, false, true, true, false, false] rfl rfl rfl rfl (by kernel_rfl) (by decide) (by decide) (fun K hK => ?_) (fun K hK => ?_)
                  · refine goes_ Try.func85 (by kernel_rfl) rfl #[.agg #[.int .i64 a0_0, .slice A0_1 l0_1.length c0_1, .slice A0_2 l0_2.length c0_2]] (by rfl) rfl rfl (by (try simp only [List.map_toArray, List.map_cons, List.map_nil]); first | done | rfl) ?_
                    with_reducible refine (impl_Stairs_up.calls k a0_0 _ _ l0_1 _ _ l0_2 up _ ?side1 HC1.out ?side2 HC2.out HU.out).mono ?_
                    (case side1 => exact Kd.C_below HR1.out FB_.out)
                    (case side2 => exact Kd.C_below HR2.out FB_.out)
                    rintro e wq ⟨vu_, rfl, ho, hb⟩
                    refine ⟨_, rfl, ?_⟩
                    refine hK.out _ _ ⟨(blk_cell (blk_below FS_.out hb) 0).trans rfl, (blk_cell (blk_below FS_.out hb) 1).trans rfl, (blk_cell (blk_below FS_.out hb) 2).trans rfl⟩ (fun hHeld2 => ?_)
                    exact norm_ (by first | rfl | (simp only [putAll, Act.put, List.setIfInBounds_toArray, List.set_cons_zero, List.set_cons_succ]; done) | (simp only [putAll, Act.put, List.setIfInBounds_toArray, List.set_cons_zero, List.set_cons_succ]; rfl)) (hJ134 (vd_, vu_, ga_, 0) _ ⟨⟨below_step FB_.out hb⟩, ⟨blk_below FS_.out hb⟩, ⟨Kd.R_below F1_.out hb⟩, ⟨Kd.R_lower ho (below_size FB_.out)⟩, ⟨blk_below F4k_.out hb⟩, F4g_, F4s_⟩)
                  · refine box_step rfl (N := 5) rfl (cs := #[.slice none 0 0]) (t := 22) ?_ ?_
                    · first | (go_simp; done) | (go_simp; rfl)
                    rintro gc_ hg wq hbox hb
                    refine hK.out _ _ ⟨(blk_cell (blk_below FS_.out hb) 0).trans rfl, (blk_cell (blk_below FS_.out hb) 1).trans rfl, (blk_cell (blk_below FS_.out hb) 2).trans rfl⟩ (fun hHeld2 => ?_)
                    exact norm_ (by first | rfl | (simp only [putAll, Act.put, List.setIfInBounds_toArray, List.set_cons_zero, List.set_cons_succ]; done) | (simp only [putAll, Act.put, List.setIfInBounds_toArray, List.set_cons_zero, List.set_cons_succ]; rfl)) (hJ145 (vd_, undef, ga_, gc_) _ ⟨⟨below_step FB_.out hb⟩, ⟨blk_below FS_.out hb⟩, ⟨Kd.R_below F1_.out hb⟩, ⟨blk_below F4k_.out hb⟩, F4g_, F4s_, ⟨hbox⟩, ⟨by rw [hg]; exact below_size FB_.out⟩, ⟨by rw [hg]; exact blk_lt FS_.out⟩, ⟨fun z_ => by have q1_ : ga_ < wr_.heap.size := blk_lt F4k_.out; have q2_ : ga_ = gc_ := z_; omega⟩⟩)
                rintro ⟨vd_, vu_, ga_, gc_⟩ wr_ ⟨FB_, FS_, F1_, F3_⟩
                refine norm_ (a' := ?_) ?_ ?_
                rotate_left
                · simp only [putAll, Act.put, List.setIfInBounds_toArray, List.set_cons_zero, List.set_cons_succ]
                  rfl
                refine two_ (i := 4) (j := 5) (Ni := some 4) (Nj := some 5) #[true, true, true, true, true, false, false, false] #[true, true, true, true, false, true, false, false] rfl rfl rfl rfl (by kernel_rfl) (by decide) (by decide) (fun K hK => ?_) (fun K hK => ?_)
                · refine box_step rfl (N := 4) rfl (cs := #[.slice none 0 0]) (t := 22) ?_ ?_
                  · first | (go_simp; done) | (go_simp; rfl)
                  rintro ga_ hg wq hbox hb
                  refine hK.out _ _ ⟨(blk_cell (blk_below FS_.out hb) 0).trans rfl, (blk_cell (blk_below FS_.out hb) 1).trans rfl, (blk_cell (blk_below FS_.out hb) 2).trans rfl⟩ (fun hHeld2 => ?_)
                  exact norm_ (by first | rfl | (simp only [putAll, Act.put, List.setIfInBounds_toArray, List.set_cons_zero, List.set_cons_succ]; done) | (simp only [putAll, Act.put, List.setIfInBounds_toArray, List.set_cons_zero, List.set_cons_succ]; rfl)) (hJ134 (vd_, vu_, ga_, 0) _ ⟨⟨below_step FB_.out hb⟩, ⟨blk_below FS_.out hb⟩, ⟨Kd.R_below F1_.out hb⟩, ⟨Kd.R_below F3_.out hb⟩, ⟨hbox⟩, ⟨by rw [hg]; exact below_size FB_.out⟩, ⟨by rw [hg]; exact blk_lt FS_.out⟩⟩)
                · refine box_step rfl (N := 5) rfl (cs := #[.slice none 0 0]) (t := 22) ?_ ?_
                  · first | (go_simp; done) | (go_simp; rfl)
                  rintro gc_ hg wq hbox hb
                  refine hK.out _ _ ⟨(blk_cell (blk_below FS_.out hb) 0).trans rfl, (blk_cell (blk_below FS_.out hb) 1).trans rfl, (blk_cell (blk_below FS_.out hb) 2).trans rfl⟩ (fun hHeld2 => ?_)
                  exact norm_ (by first | rfl | (simp only [putAll, Act.put, List.setIfInBounds_toArray, List.set_cons_zero, List.set_cons_succ]; done) | (simp only [putAll, Act.put, List.setIfInBounds_toArray, List.set_cons_zero, List.set_cons_succ]; rfl)) (hJ135 (vd_, vu_, 0, gc_) _ ⟨⟨below_step FB_.out hb⟩, ⟨blk_below FS_.out hb⟩, ⟨Kd.R_below F1_.out hb⟩, ⟨Kd.R_below F3_.out hb⟩, ⟨hbox⟩, ⟨by rw [hg]; exact below_size FB_.out⟩, ⟨by rw [hg]; exact blk_lt FS_.out⟩⟩)
              rintro ⟨vd_, vu_, ga_, gc_⟩ wr_ ⟨FB_, FS_, F1_, F4k_, F4g_, F4s_, F5k_, F5g_, F5s_, F45_⟩
              refine norm_ (a' := ?_) ?_ ?_
              rotate_left
              · simp only [putAll, Act.put, List.setIfInBounds_toArray, List.set_cons_zero, List.set_cons_succ]
                rfl
              refine one_ (i := 3) (N := some 12) #[true, true, true, true, true, true, false, false] rfl rfl (by kernel_rfl) (by decide) (fun K hK => ?_)
              · refine goes_ Try.func85 (by kernel_rfl) rfl #[.agg #[.int .i64 a0_0, .slice A0_1 l0_1.length c0_1, .slice A0_2 l0_2.length c0_2]] (by rfl) rfl rfl (by (try simp only [List.map_toArray, List.map_cons, List.map_nil]); first | done | rfl) ?_
                with_reducible refine (impl_Stairs_up.calls k a0_0 _ _ l0_1 _ _ l0_2 up _ ?side1 HC1.out ?side2 HC2.out HU.out).mono ?_
                (case side1 => exact Kd.C_below HR1.out FB_.out)
                (case side2 => exact Kd.C_below HR2.out FB_.out)
                rintro e wq ⟨vu_, rfl, ho, hb⟩
                refine ⟨_, rfl, ?_⟩
                refine hK.out _ _ ⟨(blk_cell (blk_below FS_.out hb) 0).trans rfl, (blk_cell (blk_below FS_.out hb) 1).trans rfl, (blk_cell (blk_below FS_.out hb) 2).trans rfl⟩ (fun hHeld2 => ?_)
                exact norm_ (by first | rfl | (simp only [putAll, Act.put, List.setIfInBounds_toArray, List.set_cons_zero, List.set_cons_succ]; done) | (simp only [putAll, Act.put, List.setIfInBounds_toArray, List.set_cons_zero, List.set_cons_succ]; rfl)) (hJ1345 (vd_, vu_, ga_, gc_) _ ⟨⟨below_step FB_.out hb⟩, ⟨blk_below FS_.out hb⟩, ⟨Kd.R_below F1_.out hb⟩, ⟨Kd.R_lower ho (below_size FB_.out)⟩, ⟨blk_below F4k_.out hb⟩, F4g_, F4s_, ⟨blk_below F5k_.out hb⟩, F5g_, F5s_, F45_⟩)
            rintro ⟨vd_, vu_, ga_, gc_⟩ wr_ ⟨FB_, FS_, F1_, F3_, F5k_, F5g_, F5s_⟩
            refine norm_ (a' := ?_) ?_ ?_
            rotate_left
            · simp only [putAll, Act.put, List.setIfInBounds_toArray, List.set_cons_zero, List.set_cons_succ]
              rfl
            refine one_ (i := 4) (N := some 4) #[true, true, true, true, true, true, false, false] rfl rfl (by kernel_rfl) (by decide) (fun K hK => ?_)
            · refine box_step rfl (N := 4) rfl (cs := #[.slice none 0 0]) (t := 22) ?_ ?_
              · first | (go_simp; done) | (go_simp; rfl)
              rintro ga_ hg wq hbox hb
              refine hK.out _ _ ⟨(blk_cell (blk_below FS_.out hb) 0).trans rfl, (blk_cell (blk_below FS_.out hb) 1).trans rfl, (blk_cell (blk_below FS_.out hb) 2).trans rfl⟩ (fun hHeld2 => ?_)
              exact norm_ (by first | rfl | (simp only [putAll, Act.put, List.setIfInBounds_toArray, List.set_cons_zero, List.set_cons_succ]; done) | (simp only [putAll, Act.put, List.setIfInBounds_toArray, List.set_cons_zero, List.set_cons_succ]; rfl)) (hJ1345 (vd_, vu_, ga_, gc_) _ ⟨⟨below_step FB_.out hb⟩, ⟨blk_below FS_.out hb⟩, ⟨Kd.R_below F1_.out hb⟩, ⟨Kd.R_below F3_.out hb⟩, ⟨hbox⟩, ⟨by rw [hg]; exact below_size FB_.out⟩, ⟨by rw [hg]; exact blk_lt FS_.out⟩, ⟨blk_below F5k_.out hb⟩, F5g_, F5s_, ⟨fun z_ => by have q1_ : gc_ < wr_.heap.size := blk_lt F5k_.out; have q2_ : ga_ = gc_ := z_; omega⟩⟩)
          rintro ⟨vd_, vu_, ga_, gc_⟩ wr_ ⟨FB_, FS_, F1_, F3_, F4k_, F4g_, F4s_⟩
          refine norm_ (a' := ?_) ?_ ?_
          rotate_left
          · simp only [putAll, Act.put, List.setIfInBounds_toArray, List.set_cons_zero, List.set_cons_succ]
            rfl
          refine one_ (i := 5) (N := some 5) #[true, true, true, true, true, true, false, false] rfl rfl (by kernel_rfl) (by decide) (fun K hK => ?_)
          · refine box_step rfl (N := 5) rfl (cs := #[.slice none 0 0]) (t := 22) ?_ ?_
            · first | (go_simp; done) | (go_simp; rfl)
            rintro gc_ hg wq hbox hb
            refine hK.out _ _ ⟨(blk_cell (blk_below FS_.out hb) 0).trans rfl, (blk_cell (blk_below FS_.out hb) 1).trans rfl, (blk_cell (blk_below FS_.out hb) 2).trans rfl⟩ (fun hHeld2 => ?_)
            exact norm_ (by first | rfl | (simp only [putAll, Act.put, List.setIfInBounds_toArray, List.set_cons_zero, List.set_cons_succ]; done) | (simp only [putAll, Act.put, List.setIfInBounds_toArray, List.set_cons_zero, List.set_cons_succ]; rfl)) (hJ1345 (vd_, vu_, ga_, gc_) _ ⟨⟨below_step FB_.out hb⟩, ⟨blk_below FS_.out hb⟩, ⟨Kd.R_below F1_.out hb⟩, ⟨Kd.R_below F3_.out hb⟩, ⟨blk_below F4k_.out hb⟩, F4g_, F4s_, ⟨hbox⟩, ⟨by rw [hg]; exact below_size FB_.out⟩, ⟨by rw [hg]; exact blk_lt FS_.out⟩, ⟨fun z_ => by have q1_ : ga_ < wr_.heap.size := blk_lt F4k_.out; have q2_ : ga_ = gc_ := z_; omega⟩⟩)
        rintro ⟨vd_, vu_, ga_, gc_⟩ wr_ ⟨FB_, FS_, F1_, F3_, F4k_, F4g_, F4s_, F5k_, F5g_, F5s_, F45_⟩
        refine norm_ (a' := ?_) ?_ ?_
        rotate_left
        · simp only [putAll, Act.put, List.setIfInBounds_toArray, List.set_cons_zero, List.set_cons_succ]
          rfl
        obtain ⟨Ad, cd, ed_⟩ := Kd.R_slice F1_.out
        subst ed_
        obtain ⟨Au, cu, eu_⟩ := Kd.R_slice F3_.out
        subst eu_
        refine one_ (i := 6) (N := none) #[true, true, true, true, true, true, true, false] rfl rfl (by kernel_rfl) (by decide) (fun K hK => ?_)
        have hcx_ : wr_.cell? ⟨ga_, 0, none⟩ = some (.slice none 0 0) := (blk_cell F4k_.out 0).trans rfl
        have hfx_ := blk_frozen F4k_.out 0
        refine skip_ rfl rfl (w1 := wr_.setCell ⟨ga_, 0, none⟩ (.slice Ad dn.length cd)) (by first | (go_simp; done) | (go_simp; rfl)) ?_
        clear hcx_ hfx_
        generalize hw_ : wr_.setCell ⟨ga_, 0, none⟩ (.slice Ad dn.length cd) = ws6_
        have z0_ : Aside0 (ws6_.heap[ga_]? = some (.cells #[.slice Ad dn.length cd] 22 (0, 0))) := ⟨by rw [← hw_]; exact blk_put F4k_.out 0 _ rfl⟩
        have z1_ : Aside0 (ws6_.heap[gc_]? = some (.cells #[.slice none 0 0] 22 (0, 0))) := ⟨by rw [← hw_]; exact blk_far F5k_.out (Ne.symm F45_.out) _⟩
        have z2_ : Aside0 (ws6_.heap[gbs]? = some (.cells #[.int .i64 a0_0, .slice A0_1 l0_1.length c0_1, .slice A0_2 l0_2.length c0_2] 45 (0, 0))) := ⟨by rw [← hw_]; exact blk_far FS_.out (Nat.ne_of_lt F4s_.out) _⟩
        have z3_ : Aside0 (Below w.heap.size w ws6_) := ⟨by rw [← hw_]; exact below_set FB_.out F4g_.out⟩
        have z4_ : Aside0 (Kd.R (Kd.int .i64) 3 ws6_ w.heap.size (fun _ => True) (.slice Ad dn.length cd) dn) := ⟨by rw [← hw_]; exact Kd.R_mono (Kd.R_set F1_.out F4k_.out (by decide) 0 _) (fun _ _ => trivial)⟩
        have z5_ : Aside0 (Kd.R (Kd.int .i64) 3 ws6_ w.heap.size (fun _ => True) (.slice Au up.length cu) up) := ⟨by rw [← hw_]; exact Kd.R_mono (Kd.R_set F3_.out F4k_.out (by decide) 0 _) (fun _ _ => trivial)⟩
        clear hw_ FS_ FB_ F1_ F3_ F4k_ F5k_
        have F4k_ := z0_
        have F5k_ := z1_
        have FS_ := z2_
        have FB_ := z3_
        have F1_ := z4_
        have F3_ := z5_
        clear z0_ z1_ z2_ z3_ z4_ z5_
        refine hK.out _ _ ⟨(blk_cell FS_.out 0).trans rfl, (blk_cell FS_.out 1).trans rfl, (blk_cell FS_.out 2).trans rfl⟩ (fun hHeld => ?_)
        clear hK K
        refine one_ (i := 7) (N := none) #[true, true, true, true, true, true, true, true] rfl rfl (by kernel_rfl) (by decide) (fun K hK => ?_)
        have hcx_ : ws6_.cell? ⟨gc_, 0, none⟩ = some (.slice none 0 0) := (blk_cell F5k_.out 0).trans rfl
        have hfx_ := blk_frozen F5k_.out 0
        refine skip_ rfl rfl (w1 := ws6_.setCell ⟨gc_, 0, none⟩ (.slice Au up.length cu)) (by first | (go_simp; done) | (go_simp; rfl)) ?_
        clear hcx_ hfx_
        generalize hw_ : ws6_.setCell ⟨gc_, 0, none⟩ (.slice Au up.length cu) = ws7_
        have z0_ : Aside0 (ws7_.heap[gc_]? = some (.cells #[.slice Au up.length cu] 22 (0, 0))) := ⟨by rw [← hw_]; exact blk_put F5k_.out 0 _ rfl⟩
        have z1_ : Aside0 (ws7_.heap[ga_]? = some (.cells #[.slice Ad dn.length cd] 22 (0, 0))) := ⟨by rw [← hw_]; exact blk_far F4k_.out (Ne.symm (Ne.symm F45_.out)) _⟩
        have z2_ : Aside0 (ws7_.heap[gbs]? = some (.cells #[.int .i64 a0_0, .slice A0_1 l0_1.length c0_1, .slice A0_2 l0_2.length c0_2] 45 (0, 0))) := ⟨by rw [← hw_]; exact blk_far FS_.out (Nat.ne_of_lt F5s_.out) _⟩
        have z3_ : Aside0 (Below w.heap.size w ws7_) := ⟨by rw [← hw_]; exact below_set FB_.out F5g_.out⟩
        have z4_ : Aside0 (Kd.R (Kd.int .i64) 3 ws7_ w.heap.size (fun _ => True) (.slice Ad dn.length cd) dn) := ⟨by rw [← hw_]; exact Kd.R_mono (Kd.R_set F1_.out F5k_.out (by decide) 0 _) (fun _ _ => trivial)⟩
        have z5_ : Aside0 (Kd.R (Kd.int .i64) 3 ws7_ w.heap.size (fun _ => True) (.slice Au up.length cu) up) := ⟨by rw [← hw_]; exact Kd.R_mono (Kd.R_set F3_.out F5k_.out (by decide) 0 _) (fun _ _ => trivial)⟩
        clear hw_ FS_ FB_ F1_ F3_ F4k_ F5k_
        have F5k_ := z0_
        have F4k_ := z1_
        have FS_ := z2_
        have FB_ := z3_
        have F1_ := z4_
        have F3_ := z5_
        clear z0_ z1_ z2_ z3_ z4_ z5_
        refine hK.out _ _ ⟨(blk_cell FS_.out 0).trans rfl, (blk_cell FS_.out 1).trans rfl, (blk_cell FS_.out 2).trans rfl⟩ (fun hHeld => ?_)
        clear hK K
        refine done_ (by kernel_rfl) ?_
        have BKs := FS_
        have BKd := F4k_
        have BKu := F5k_
        have HB := FB_
        have HRD := Aside0.mk (Kd.R_reads' F1_.out).2.2
        have HRU := Aside0.mk (Kd.R_reads' F3_.out).2.2
        have HDw := Aside0.mk (Below.refl ws7_.heap.size ws7_)
        clear FS_ F4k_ F5k_ FB_ F1_ F3_ F4g_ F5g_ F4s_ F5s_ F45_
        have hy0_ : ws7_.cell? ⟨gbs, 0, none⟩ = some (.int .i64 a0_0) := (blk_cell BKs.out 0).trans rfl
        have hy1_ : ws7_.cell? ⟨gbs, 1, none⟩ = some (.slice A0_1 l0_1.length c0_1) := (blk_cell BKs.out 1).trans rfl
        have hy2_ : ws7_.cell? ⟨gbs, 2, none⟩ = some (.slice A0_2 l0_2.length c0_2) := (blk_cell BKs.out 2).trans rfl
        have hyd_ : ws7_.cell? ⟨ga_, 0, none⟩ = some (.slice Ad dn.length cd) := (blk_cell BKd.out 0).trans rfl
        have hyu_ : ws7_.cell? ⟨gc_, 0, none⟩ = some (.slice Au up.length cu) := (blk_cell BKu.out 0).trans rfl
        obtain ⟨au0, eu0, hu0_⟩ := Kd.at_int HRU.out 0 (Int.le_refl 0) HP.out
        subst eu0
        have p0b0 := eq_true HP.out
        have p0b1 : decide (0 < (up.length : Int)) = true := decide_eq_true HP.out
        have p0b2 : decide (0 < up.length) = true := decide_eq_true (by have := HP.out; omega)
        have p0b3 := eq_true (show 0 < up.length by have := HP.out; omega)
        (try rw [show ((0 : Int)).toNat = 0 from rfl] at hu0_)
        (try rw [Addr.add_zero'] at hu0_)
        go_wp2
        go_ret2
        exact ⟨_, rfl, Kd.R_nil _ _ _ _ _, by repeat (first | (with_reducible first | exact HB.out | apply below_alloc | apply pw_below_drewN | apply below_drew1) | exact HB.out)⟩
      · rw [if_neg c2] at h
        have c2b0 : (rd up 0 == 0) = false := beq_eq_false_iff_ne.mpr c2
        have c2b1 : decide (rd up 0 = 0) = false := decide_eq_false c2
        obtain ⟨tt, hraw, h⟩ := Option.bind_eq_some_iff.mp h
        have HT := Aside0.mk hraw
        clear hraw
        simp only [Option.some.injEq, Prod.mk.injEq] at h
        obtain ⟨rfl, rfl⟩ := h
        go_enter Try.func45, Try.ntmps45
        go_wp2_with (first | ((with_reducible refine gate_dst (N := 1) rfl ?_); refine box_event ?hg (N := 1) ?hd (cs := #[.int .i64 a0_0, .slice A0_1 l0_1.length c0_1, .slice A0_2 l0_2.length c0_2]) (t := 45) ?hr ?_; (case hd => rfl); (case hg => rfl); (case hr => first | (go_simp; done) | (go_simp; rfl)); intro gbs hg w5_ hbox hb; have BKs := Aside0.mk hbox; have GWs := Aside0.mk ((by rw [hg]; exact (below_size (by repeat (first | (with_reducible first | exact HB.out | apply below_alloc | apply pw_below_drewN | apply below_drew1) | exact HB.out))) : w.heap.size ≤ gbs)); clear hbox hg; have mb_ := Aside0.mk (below_step (by repeat (first | (with_reducible first | exact HB.out | apply below_alloc | apply pw_below_drewN | apply below_drew1) | exact HB.out)) hb); clear HB; have HB := mb_; clear mb_; clear hb; have hcz6_0 : w5_.cell? ⟨gbs, 0, none⟩ = some (.int .i64 a0_0) := (blk_cell BKs.out 0).trans rfl; have hfz6_0 := blk_frozen BKs.out 0; have hcz6_1 : w5_.cell? ⟨gbs, 1, none⟩ = some (.slice A0_1 l0_1.length c0_1) := (blk_cell BKs.out 1).trans rfl; have hfz6_1 := blk_frozen BKs.out 1; have hcz6_2 : w5_.cell? ⟨gbs, 2, none⟩ = some (.slice A0_2 l0_2.length c0_2) := (blk_cell BKs.out 2).trans rfl; have hfz6_2 := blk_frozen BKs.out 2) | ((with_reducible refine gate_callee (f := 72) rfl ?_); refine goesL_ (some 7) rfl rfl Try.func72 (by kernel_rfl) rfl #[.agg #[.int .i64 a0_0, .slice A0_1 l0_1.length c0_1, .slice A0_2 l0_2.length c0_2]] rfl (by (try simp only [List.map_toArray, List.map_cons, List.map_nil]); first | done | rfl | (simp only [List.length_drop, List.length_take]; rfl)) ?_; (with_reducible refine (impl_AreStairs.calls k a0_0 _ _ l0_1 _ _ l0_2 true _ ?side1 HC1.out ?side2 HC2.out HA.out).mono ?_); (case side1 => exact Kd.C_below HR1.out (by repeat (first | (with_reducible first | exact HB.out | apply below_alloc | apply pw_below_drewN | apply below_drew1) | exact HB.out))); (case side2 => exact Kd.C_below HR2.out (by repeat (first | (with_reducible first | exact HB.out | apply below_alloc | apply pw_below_drewN | apply below_drew1) | exact HB.out))); rintro e w7_ ⟨rfl, hb⟩; refine ⟨_, rfl, ?_⟩; have ms_ := Aside0.mk (blk_below (g := gbs) (o := .cells #[.int .i64 a0_0, .slice A0_1 l0_1.length c0_1, .slice A0_2 l0_2.length c0_2] 45 (0, 0)) (by (with_reducible repeat (first | refine blk_drewN ?_ _ | refine blk_drew ?_ | refine blk_alloc ?_ _)); exact BKs.out) hb); have mb_ := Aside0.mk (below_step (by repeat (first | (with_reducible first | exact HB.out | apply below_alloc | apply pw_below_drewN | apply below_drew1) | exact HB.out)) hb); clear HB; have HB := mb_; clear mb_; clear BKs; have BKs := ms_; clear ms_; clear hb; have hcz8_0 : w7_.cell? ⟨gbs, 0, none⟩ = some (.int .i64 a0_0) := (blk_cell BKs.out 0).trans rfl; have hfz8_0 := blk_frozen BKs.out 0; have hcz8_1 : w7_.cell? ⟨gbs, 1, none⟩ = some (.slice A0_1 l0_1.length c0_1) := (blk_cell BKs.out 1).trans rfl; have hfz8_1 := blk_frozen BKs.out 1; have hcz8_2 : w7_.cell? ⟨gbs, 2, none⟩ = some (.slice A0_2 l0_2.length c0_2) := (blk_cell BKs.out 2).trans rfl; have hfz8_2 := blk_frozen BKs.out 2))
        have BK2_ := Aside0.mk (blk_drew BKs.out)
        have HB2_ := Aside0.mk (below_drew1 HB.out)
        clear BKs HB
        have BKs := BK2_
        have HB := HB2_
        clear BK2_ HB2_
        refine start_ (n := 8) (S := fun w' => w'.cell? ⟨gbs, 0, none⟩ = some (.int .i64 a0_0) ∧ w'.cell? ⟨gbs, 1, none⟩ = some (.slice A0_1 l0_1.length c0_1) ∧ w'.cell? ⟨gbs, 2, none⟩ = some (.slice A0_2 l0_2.length c0_2)) (ds := []) #[false, false, false, false, false, false, false, false] (by kernel_rfl) rfl rfl ⟨(blk_cell BKs.out 0).trans rfl, (blk_cell BKs.out 1).trans rfl, (blk_cell BKs.out 2).trans rfl⟩ (fun hHeld => ?_)
        generalize w7_.drew = w10 at BKs HB hHeld ⊢
        refine take_ (i := 0) (N := some 9) (v := ?_) (a' := ?_) #[true, false, false, false, false, false, false, false] rfl rfl (by kernel_rfl) (fun _ _ _ h => h) (Or.inl ⟨by rfl, ?_⟩) hHeld ?_ ?_
        rotate_left
        · rintro w' ⟨s0, s1, s2⟩
          go_simp
          with_reducible rfl
        rotate_left
        · simp only [Act.put, List.setIfInBounds_toArray, List.set_cons_zero, List.set_cons_succ, i64_w, i32_w]
          rfl
        refine take_ (i := 2) (N := some 11) (v := ?_) (a' := ?_) #[true, false, true, false, false, false, false, false] rfl rfl (by kernel_rfl) (fun _ _ _ h => h) (Or.inl ⟨by rfl, ?_⟩) hHeld ?_ ?_
        rotate_left
        · rintro w' ⟨s0, s1, s2⟩
          go_simp
          with_reducible rfl
        rotate_left
        · simp only [Act.put, List.setIfInBounds_toArray, List.set_cons_zero, List.set_cons_succ, i64_w, i32_w]
          rfl
        refine join_ (σ := Value × Value × Nat × Nat) 2 #[true, true, true, true, true, true, false, false] (fun (s_ : Value × Value × Nat × Nat) => [(10, s_.1), (12, s_.2.1), (4, .pointer (some ⟨s_.2.2.1, 0, none⟩)), (5, .pointer (some ⟨s_.2.2.2, 0, none⟩))]) (fun (s_ : Value × Value × Nat × Nat) (W_ : World) => Aside0 (Below w.heap.size w W_) ∧ Aside0 (W_.heap[gbs]? = some (.cells #[.int .i64 a0_0, .slice A0_1 l0_1.length c0_1, .slice A0_2 l0_2.length c0_2] 45 (0, 0))) ∧ Aside0 (Kd.R (Kd.int .i64) 3 W_ w.heap.size (fun _ => True) s_.1 dn) ∧ Aside0 (Kd.R (Kd.int .i64) 3 W_ w.heap.size (fun _ => True) s_.2.1 up) ∧ Aside0 (W_.heap[s_.2.2.1]? = some (.cells #[.slice none 0 0] 22 (0, 0))) ∧ Aside0 (w.heap.size ≤ s_.2.2.1) ∧ Aside0 (gbs < s_.2.2.1) ∧ Aside0 (W_.heap[s_.2.2.2]? = some (.cells #[.slice none 0 0] 22 (0, 0))) ∧ Aside0 (w.heap.size ≤ s_.2.2.2) ∧ Aside0 (gbs < s_.2.2.2) ∧ Aside0 (s_.2.2.1 ≠ s_.2.2.2)) ?_ ?_
        rotate_left
        · intro hJ1345
          refine join_ (σ := Value × Value × Nat × Nat) 3 #[true, true, true, true, true, false, false, false] (fun (s_ : Value × Value × Nat × Nat) => [(10, s_.1), (12, s_.2.1), (4, .pointer (some ⟨s_.2.2.1, 0, none⟩))]) (fun (s_ : Value × Value × Nat × Nat) (W_ : World) => Aside0 (Below w.heap.size w W_) ∧ Aside0 (W_.heap[gbs]? = some (.cells #[.int .i64 a0_0, .slice A0_1 l0_1.length c0_1, .slice A0_2 l0_2.length c0_2] 45 (0, 0))) ∧ Aside0 (Kd.R (Kd.int .i64) 3 W_ w.heap.size (fun _ => True) s_.1 dn) ∧ Aside0 (Kd.R (Kd.int .i64) 3 W_ w.heap.size (fun _ => True) s_.2.1 up) ∧ Aside0 (W_.heap[s_.2.2.1]? = some (.cells #[.slice none 0 0] 22 (0, 0))) ∧ Aside0 (w.heap.size ≤ s_.2.2.1) ∧ Aside0 (gbs < s_.2.2.1)) ?_ ?_
          rotate_left
          · intro hJ134
            refine join_ (σ := Value × Value × Nat × Nat) 3 #[true, true, true, true, false, true, false, false] (fun (s_ : Value × Value × Nat × Nat) => [(10, s_.1), (12, s_.2.1), (5, .pointer (some ⟨s_.2.2.2, 0, none⟩))]) (fun (s_ : Value × Value × Nat × Nat) (W_ : World) => Aside0 (Below w.heap.size w W_) ∧ Aside0 (W_.heap[gbs]? = some (.cells #[.int .i64 a0_0, .slice A0_1 l0_1.length c0_1, .slice A0_2 l0_2.length c0_2] 45 (0, 0))) ∧ Aside0 (Kd.R (Kd.int .i64) 3 W_ w.heap.size (fun _ => True) s_.1 dn) ∧ Aside0 (Kd.R (Kd.int .i64) 3 W_ w.heap.size (fun _ => True) s_.2.1 up) ∧ Aside0 (W_.heap[s_.2.2.2]? = some (.cells #[.slice none 0 0] 22 (0, 0))) ∧ Aside0 (w.heap.size ≤ s_.2.2.2) ∧ Aside0 (gbs < s_.2.2.2)) ?_ ?_
            rotate_left
            · intro hJ135
              refine join_ (σ := Value × Value × Nat × Nat) 3 #[true, true, true, false, true, true, false, false] (fun (s_ : Value × Value × Nat × Nat) => [(10, s_.1), (4, .pointer (some ⟨s_.2.2.1, 0, none⟩)), (5, .pointer (some ⟨s_.2.2.2, 0, none⟩))]) (fun (s_ : Value × Value × Nat × Nat) (W_ : World) => Aside0 (Below w.heap.size w W_) ∧ Aside0 (W_.heap[gbs]? = some (.cells #[.int .i64 a0_0, .slice A0_1 l0_1.length c0_1, .slice A0_2 l0_2.length c0_2] 45 (0, 0))) ∧ Aside0 (Kd.R (Kd.int .i64) 3 W_ w.heap.size (fun _ => True) s_.1 dn) ∧ Aside0 (W_.heap[s_.2.2.1]? = some (.cells #[.slice none 0 0] 22 (0, 0))) ∧ Aside0 (w.heap.size ≤ s_.2.2.1) ∧ Aside0 (gbs < s_.2.2.1) ∧ Aside0 (W_.heap[s_.2.2.2]? = some (.cells #[.slice none 0 0] 22 (0, 0))) ∧ Aside0 (w.heap.size ≤ s_.2.2.2) ∧ Aside0 (gbs < s_.2.2.2) ∧ Aside0 (s_.2.2.1 ≠ s_.2.2.2)) ?_ ?_
              rotate_left
              · intro hJ145
                refine join_ (σ := Value × Value × Nat × Nat) 4 #[true, true, true, true, false, false, false, false] (fun (s_ : Value × Value × Nat × Nat) => [(10, s_.1), (12, s_.2.1)]) (fun (s_ : Value × Value × Nat × Nat) (W_ : World) => Aside0 (Below w.heap.size w W_) ∧ Aside0 (W_.heap[gbs]? = some (.cells #[.int .i64 a0_0, .slice A0_1 l0_1.length c0_1, .slice A0_2 l0_2.length c0_2] 45 (0, 0))) ∧ Aside0 (Kd.R (Kd.int .i64) 3 W_ w.heap.size (fun _ => True) s_.1 dn) ∧ Aside0 (Kd.R (Kd.int .i64) 3 W_ w.heap.size (fun _ => True) s_.2.1 up)) ?_ ?_
                rotate_left
                · intro hJ13
                  refine join_ (σ := Value × Value × Nat × Nat) 4 #[true, true, true, false, true, false, false, false] (fun (s_ : Value × Value × Nat × Nat) => [(10, s_.1), (4, .pointer (some ⟨s_.2.2.1, 0, none⟩))]) (fun (s_ : Value × Value × Nat × Nat) (W_ : World) => Aside0 (Below w.heap.size w W_) ∧ Aside0 (W_.heap[gbs]? = some (.cells #[.int .i64 a0_0, .slice A0_1 l0_1.length c0_1, .slice A0_2 l0_2.length c0_2] 45 (0, 0))) ∧ Aside0 (Kd.R (Kd.int .i64) 3 W_ w.heap.size (fun _ => True) s_.1 dn) ∧ Aside0 (W_.heap[s_.2.2.1]? = some (.cells #[.slice none 0 0] 22 (0, 0))) ∧ Aside0 (w.heap.size ≤ s_.2.2.1) ∧ Aside0 (gbs < s_.2.2.1)) ?_ ?_
                  rotate_left
                  · intro hJ14
                    refine join_ (σ := Value × Value × Nat × Nat) 4 #[true, true, true, false, false, true, false, false] (fun (s_ : Value × Value × Nat × Nat) => [(10, s_.1), (5, .pointer (some ⟨s_.2.2.2, 0, none⟩))]) (fun (s_ : Value × Value × Nat × Nat) (W_ : World) => Aside0 (Below w.heap.size w W_) ∧ Aside0 (W_.heap[gbs]? = some (.cells #[.int .i64 a0_0, .slice A0_1 l0_1.length c0_1, .slice A0_2 l0_2.length c0_2] 45 (0, 0))) ∧ Aside0 (Kd.R (Kd.int .i64) 3 W_ w.heap.size (fun _ => True) s_.1 dn) ∧ Aside0 (W_.heap[s_.2.2.2]? = some (.cells #[.slice none 0 0] 22 (0, 0))) ∧ Aside0 (w.heap.size ≤ s_.2.2.2) ∧ Aside0 (gbs < s_.2.2.2)) ?_ ?_
                    rotate_left
                    · intro hJ15
                      refine join_ (σ := Value × Value × Nat × Nat) 4 #[true, false, true, false, true, true, false, false] (fun (s_ : Value × Value × Nat × Nat) => [(4, .pointer (some ⟨s_.2.2.1, 0, none⟩)), (5, .pointer (some ⟨s_.2.2.2, 0, none⟩))]) (fun (s_ : Value × Value × Nat × Nat) (W_ : World) => Aside0 (Below w.heap.size w W_) ∧ Aside0 (W_.heap[gbs]? = some (.cells #[.int .i64 a0_0, .slice A0_1 l0_1.length c0_1, .slice A0_2 l0_2.length c0_2] 45 (0, 0))) ∧ Aside0 (W_.heap[s_.2.2.1]? = some (.cells #[.slice none 0 0] 22 (0, 0))) ∧ Aside0 (w.heap.size ≤ s_.2.2.1) ∧ Aside0 (gbs < s_.2.2.1) ∧ Aside0 (W_.heap[s_.2.2.2]? = some (.cells #[.slice none 0 0] 22 (0, 0))) ∧ Aside0 (w.heap.size ≤ s_.2.2.2) ∧ Aside0 (gbs < s_.2.2.2) ∧ Aside0 (s_.2.2.1 ≠ s_.2.2.2)) ?_ ?_
                      rotate_left
                      · intro hJ45
                        refine join_ (σ := Value × Value × Nat × Nat) 5 #[true, true, true, false, false, false, false, false] (fun (s_ : Value × Value × Nat × Nat) => [(10, s_.1)]) (fun (s_ : Value × Value × Nat × Nat) (W_ : World) => Aside0 (Below w.heap.size w W_) ∧ Aside0 (W_.heap[gbs]? = some (.cells #[.int .i64 a0_0, .slice A0_1 l0_1.length c0_1, .slice A0_2 l0_2.length c0_2] 45 (0, 0))) ∧ Aside0 (Kd.R (Kd.int .i64) 3 W_ w.heap.size (fun _ => True) s_.1 dn)) ?_ ?_
                        rotate_left
                        · intro hJ1
                          refine join_ (σ := Value × Value × Nat × Nat) 5 #[true, false, true, false, true, false, false, false] (fun (s_ : Value × Value × Nat × Nat) => [(4, .pointer (some ⟨s_.2.2.1, 0, none⟩))]) (fun (s_ : Value × Value × Nat × Nat) (W_ : World) => Aside0 (Below w.heap.size w W_) ∧ Aside0 (W_.heap[gbs]? = some (.cells #[.int .i64 a0_0, .slice A0_1 l0_1.length c0_1, .slice A0_2 l0_2.length c0_2] 45 (0, 0))) ∧ Aside0 (W_.heap[s_.2.2.1]? = some (.cells #[.slice none 0 0] 22 (0, 0))) ∧ Aside0 (w.heap.size ≤ s_.2.2.1) ∧ Aside0 (gbs < s_.2.2.1)) ?_ ?_
                          rotate_left
                          · intro hJ4
                            refine join_ (σ := Value × Value × Nat × Nat) 5 #[true, false, true, false, false, true, false, false] (fun (s_ : Value × Value × Nat × Nat) => [(5, .pointer (some ⟨s_.2.2.2, 0, none⟩))]) (fun (s_ : Value × Value × Nat × Nat) (W_ : World) => Aside0 (Below w.heap.size w W_) ∧ Aside0 (W_.heap[gbs]? = some (.cells #[.int .i64 a0_0, .slice A0_1 l0_1.length c0_1, .slice A0_2 l0_2.length c0_2] 45 (0, 0))) ∧ Aside0 (W_.heap[s_.2.2.2]? = some (.cells #[.slice none 0 0] 22 (0, 0))) ∧ Aside0 (w.heap.size ≤ s_.2.2.2) ∧ Aside0 (gbs < s_.2.2.2)) ?_ ?_
                            rotate_left
                            · intro hJ5
                              have FB_ := HB
                              have FS_ := BKs
                              clear HB BKs
                              refine three_ (i := 1) (j := 4) (k := 5) (Ni := some 10) (Nj := some 4) (Nk := some 5) #[true, true, true, false, false, false, false, false] #[true, false, true, false, true, false, false, false] #[true, false, true, false, false, true, false, false] rfl rfl rfl rfl rfl rfl (by kernel_rfl) (by decide) (by decide) (by decide) (fun K hK => ?_) (fun K hK => ?_) (fun K hK => ?_)
                              · refine goes_ Try.func73 (by kernel_rfl) rfl #[.agg #[.int .i64 a0_0, .slice A0_1 l0_1.length c0_1, .slice A0_2 l0_2.length c0_2]] (by rfl) rfl rfl (by (try simp only [List.map_toArray, List.map_cons, List.map_nil]); first | done | rfl) ?_
                                with_reducible refine (impl_Stairs_down.calls k a0_0 _ _ l0_1 _ _ l0_2 dn _ ?side1 HC1.out ?side2 HC2.out HN.out).mono ?_
                                (case side1 => exact Kd.C_below HR1.out FB_.out)
                                (case side2 => exact Kd.C_below HR2.out FB_.out)
                                rintro e wq ⟨vd_, rfl, ho, hb⟩
                                refine ⟨_, rfl, ?_⟩
                                refine hK.out _ _ ⟨(blk_cell (blk_below FS_.out hb) 0).trans rfl, (blk_cell (blk_below FS_.out hb) 1).trans rfl, (blk_cell (blk_below FS_.out hb) 2).trans rfl⟩ (fun hHeld2 => ?_)
                                exact norm_ (by first | rfl | (simp only [putAll, Act.put, List.setIfInBounds_toArray, List.set_cons_zero, List.set_cons_succ]; done) | (simp only [putAll, Act.put, List.setIfInBounds_toArray, List.set_cons_zero, List.set_cons_succ]; rfl)) (hJ1 (vd_, undef, 0, 0) _ ⟨⟨below_step FB_.out hb⟩, ⟨blk_below FS_.out hb⟩, ⟨Kd.R_lower ho (below_size FB_.out)⟩⟩)
                              · refine box_step rfl (N := 4) rfl (cs := #[.slice none 0 0]) (t := 22) ?_ ?_
                                · first | (go_simp; done) | (go_simp; rfl)
                                rintro ga_ hg wq hbox hb
                                refine hK.out _ _ ⟨(blk_cell (blk_below FS_.out hb) 0).trans rfl, (blk_cell (blk_below FS_.out hb) 1).trans rfl, (blk_cell (blk_below FS_.out hb) 2).trans rfl⟩ (fun hHeld2 => ?_)
                                exact norm_ (by first | rfl | (simp only [putAll, Act.put, List.setIfInBounds_toArray, List.set_cons_zero, List.set_cons_succ]; done) | (simp only [putAll, Act.put, List.setIfInBounds_toArray, List.set_cons_zero, List.set_cons_succ]; rfl)) (hJ4 (undef, undef, ga_, 0) _ ⟨⟨below_step FB_.out hb⟩, ⟨blk_below FS_.out hb⟩, ⟨hbox⟩, ⟨by rw [hg]; exact below_size FB_.out⟩, ⟨by rw [hg]; exact blk_lt FS_.out⟩⟩)
                              · refine box_step rfl (N := 5) rfl (cs := #[.slice none 0 0]) (t := 22) ?_ ?_
                                · first | (go_simp; done) | (go_simp; rfl)
                                rintro gc_ hg wq hbox hb
                                refine hK.out _ _ ⟨(blk_cell (blk_below FS_.out hb) 0).trans rfl, (blk_cell (blk_below FS_.out hb) 1).trans rfl, (blk_cell (blk_below FS_.out hb) 2).trans rfl⟩ (fun hHeld2 => ?_)
                                exact norm_ (by first | rfl | (simp only [putAll, Act.put, List.setIfInBounds_toArray, List.set_cons_zero, List.set_cons_succ]; done) | (simp only [putAll, Act.put, List.setIfInBounds_toArray, List.set_cons_zero, List.set_cons_succ]; rfl)) (hJ5 (undef, undef, 0, gc_) _ ⟨⟨below_step FB_.out hb⟩, ⟨blk_below FS_.out hb⟩, ⟨hbox⟩, ⟨by rw [hg]; exact below_size FB_.out⟩, ⟨by rw [hg]; exact blk_lt FS_.out⟩⟩)
                            rintro ⟨vd_, vu_, ga_, gc_⟩ wr_ ⟨FB_, FS_, F5k_, F5g_, F5s_⟩
                            refine norm_ (a' := ?_) ?_ ?_
                            rotate_left
                            · simp only [putAll, Act.put, List.setIfInBounds_toArray, List.set_cons_zero, List.set_cons_succ]
                              rfl
                            refine two_ (i := 1) (j := 4) (Ni := some 10) (Nj := some 4) #[true, true, true, false, false, true, false, false] #[true, false, true, false, true, true, false, false] rfl rfl rfl rfl (by kernel_rfl) (by decide) (by decide) (fun K hK => ?_) (fun K hK => ?_)
                            · refine goes_ Try.func73 (by kernel_rfl) rfl #[.agg #[.int .i64 a0_0, .slice A0_1 l0_1.length c0_1, .slice A0_2 l0_2.length c0_2]] (by rfl) rfl rfl (by (try simp only [List.map_toArray, List.map_cons, List.map_nil]); first | done | rfl) ?_
                              with_reducible refine (impl_Stairs_down.calls k a0_0 _ _ l0_1 _ _ l0_2 dn _ ?side1 HC1.out ?side2 HC2.out HN.out).mono ?_
                              (case side1 => exact Kd.C_below HR1.out FB_.out)
                              (case side2 => exact Kd.C_below HR2.out FB_.out)
                              rintro e wq ⟨vd_, rfl, ho, hb⟩
                              refine ⟨_, rfl, ?_⟩
                              refine hK.out _ _ ⟨(blk_cell (blk_below FS_.out hb) 0).trans rfl, (blk_cell (blk_below FS_.out hb) 1).trans rfl, (blk_cell (blk_below FS_.out hb) 2).trans rfl⟩ (fun hHeld2 => ?_)
                              exact norm_ (by first | rfl | (simp only [putAll, Act.put, List.setIfInBounds_toArray, List.set_cons_zero, List.set_cons_succ]; done) | (simp only [putAll, Act.put, List.setIfInBounds_toArray, List.set_cons_zero, List.set_cons_succ]; rfl)) (hJ15 (vd_, undef, 0, gc_) _ ⟨⟨below_step FB_.out hb⟩, ⟨blk_below FS_.out hb⟩, ⟨Kd.R_lower ho (below_size FB_.out)⟩, ⟨blk_below F5k_.out hb⟩, F5g_, F5s_⟩)
                            · refine box_step rfl (N := 4) rfl (cs := #[.slice none 0 0]) (t := 22) ?_ ?_
                              · first | (go_simp; done) | (go_simp; rfl)
                              rintro ga_ hg wq hbox hb
                              refine hK.out _ _ ⟨(blk_cell (blk_below FS_.out hb) 0).trans rfl, (blk_cell (blk_below FS_.out hb) 1).trans rfl, (blk_cell (blk_below FS_.out hb) 2).trans rfl⟩ (fun hHeld2 => ?_)
                              exact norm_ (by first | rfl | (simp only [putAll, Act.put, List.setIfInBounds_toArray, List.set_cons_zero, List.set_cons_succ]; done) | (simp only [putAll, Act.put, List.setIfInBounds_toArray, List.set_cons_zero, List.set_cons_succ]; rfl)) (hJ45 (undef, undef, ga_, gc_) _ ⟨⟨below_step FB_.out hb⟩, ⟨blk_below FS_.out hb⟩, ⟨hbox⟩, ⟨by rw [hg]; exact below_size FB_.out⟩, ⟨by rw [hg]; exact blk_lt FS_.out⟩, ⟨blk_below F5k_.out hb⟩, F5g_, F5s_, ⟨fun z_ => by have q1_ : gc_ < wr_.heap.size := blk_lt F5k_.out; have q2_ : ga_ = gc_ := z_; omega⟩⟩)
                          rintro ⟨vd_, vu_, ga_, gc_⟩ wr_ ⟨FB_, FS_, F4k_, F4g_, F4s_⟩
                          refine norm_ (a' := ?_) ?_ ?_
                          rotate_left
                          · simp only [putAll, Act.put, List.setIfInBounds_toArray, List.set_cons_zero, List.set_cons_succ]
                            rfl
                          refine two_ (i := 1) (j := 5) (Ni := some 10) (Nj := some 5) #[true, true, true, false, true, false, false, false] #[true, false, true, false, true, true, false, false] rfl rfl rfl rfl (by kernel_rfl) (by decide) (by decide) (fun K hK => ?_) (fun K hK => ?_)
                          · refine goes_ Try.func73 (by kernel_rfl) rfl #[.agg #[.int .i64 a0_0, .slice A0_1 l0_1.length c0_1, .slice A0_2 l0_2.length c0_2]] (by rfl) rfl rfl (by (try simp only [List.map_toArray, List.map_cons, List.map_nil]); first | done | rfl) ?_
                            with_reducible refine (impl_Stairs_down.calls k a0_0 _ _ l0_1 _ _ l0_2 dn _ ?side1 HC1.out ?side2 HC2.out HN.out).mono ?_
                            (case side1 => exact Kd.C_below HR1.out FB_.out)
                            (case side2 => exact Kd.C_below HR2.out FB_.out)
                            rintro e wq ⟨vd_, rfl, ho, hb⟩
                            refine ⟨_, rfl, ?_⟩
                            refine hK.out _ _ ⟨(blk_cell (blk_below FS_.out hb) 0).trans rfl, (blk_cell (blk_below FS_.out hb) 1).trans rfl, (blk_cell (blk_below FS_.out hb) 2).trans rfl⟩ (fun hHeld2 => ?_)
                            exact norm_ (by first | rfl | (simp only [putAll, Act.put, List.setIfInBounds_toArray, List.set_cons_zero, List.set_cons_succ]; done) | (simp only [putAll, Act.put, List.setIfInBounds_toArray, List.set_cons_zero, List.set_cons_succ]; rfl)) (hJ14 (vd_, undef, ga_, 0) _ ⟨⟨below_step FB_.out hb⟩, ⟨blk_below FS_.out hb⟩, ⟨Kd.R_lower ho (below_size FB_.out)⟩, ⟨blk_below F4k_.out hb⟩, F4g_, F4s_⟩)
                          · refine box_step rfl (N := 5) rfl (cs := #[.slice none 0 0]) (t := 22) ?_ ?_
                            · first | (go_simp; done) | (go_simp; rfl)
                            rintro gc_ hg wq hbox hb
                            refine hK.out _ _ ⟨(blk_cell (blk_below FS_.out hb) 0).trans rfl, (blk_cell (blk_below FS_.out hb) 1).trans rfl, (blk_cell (blk_below FS_.out hb) 2).trans rfl⟩ (fun hHeld2 => ?_)
                            exact norm_ (by first | rfl | (simp only [putAll, Act.put, List.setIfInBounds_toArray, List.set_cons_zero, List.set_cons_succ]; done) | (simp only [putAll, Act.put, List.setIfInBounds_toArray, List.set_cons_zero, List.set_cons_succ]; rfl)) (hJ45 (undef, undef, ga_, gc_) _ ⟨⟨below_step FB_.out hb⟩, ⟨blk_below FS_.out hb⟩, ⟨blk_below F4k_.out hb⟩, F4g_, F4s_, ⟨hbox⟩, ⟨by rw [hg]; exact below_size FB_.out⟩, ⟨by rw [hg]; exact blk_lt FS_.out⟩, ⟨fun z_ => by have q1_ : ga_ < wr_.heap.size := blk_lt F4k_.out; have q2_ : ga_ = gc_ := z_; omega⟩⟩)
                        rintro ⟨vd_, vu_, ga_, gc_⟩ wr_ ⟨FB_, FS_, F1_⟩
                        refine norm_ (a' := ?_) ?_ ?_
                        rotate_left
                        · simp only [putAll, Act.put, List.setIfInBounds_toArray, List.set_cons_zero, List.set_cons_succ]
                          rfl
                        refine three_ (i := 3) (j := 4) (k := 5) (Ni := some 12) (Nj := some 4) (Nk := some 5) #[true, true, true, true, false, false, false, false] #[true, true, true, false, true, false, false, false] #[true, true, true, false, false, true, false, false] rfl rfl rfl rfl rfl rfl (by kernel_rfl) (by decide) (by decide) (by decide) (fun K hK => ?_) (fun K hK => ?_) (fun K hK => ?_)
                        · refine goes_ Try.func85 (by kernel_rfl) rfl #[.agg #[.int .i64 a0_0, .slice A0_1 l0_1.length c0_1, .slice A0_2 l0_2.length c0_2]] (by rfl) rfl rfl (by (try simp only [List.map_toArray, List.map_cons, List.map_nil]); first | done | rfl) ?_
                          with_reducible refine (impl_Stairs_up.calls k a0_0 _ _ l0_1 _ _ l0_2 up _ ?side1 HC1.out ?side2 HC2.out HU.out).mono ?_
                          (case side1 => exact Kd.C_below HR1.out FB_.out)
                          (case side2 => exact Kd.C_below HR2.out FB_.out)
                          rintro e wq ⟨vu_, rfl, ho, hb⟩
                          refine ⟨_, rfl, ?_⟩
                          refine hK.out _ _ ⟨(blk_cell (blk_below FS_.out hb) 0).trans rfl, (blk_cell (blk_below FS_.out hb) 1).trans rfl, (blk_cell (blk_below FS_.out hb) 2).trans rfl⟩ (fun hHeld2 => ?_)
                          exact norm_ (by first | rfl | (simp only [putAll, Act.put, List.setIfInBounds_toArray, List.set_cons_zero, List.set_cons_succ]; done) | (simp only [putAll, Act.put, List.setIfInBounds_toArray, List.set_cons_zero, List.set_cons_succ]; rfl)) (hJ13 (vd_, vu_, 0, 0) _ ⟨⟨below_step FB_.out hb⟩, ⟨blk_below FS_.out hb⟩, ⟨Kd.R_below F1_.out hb⟩, ⟨Kd.R_lower ho (below_size FB_.out)⟩⟩)
                        · refine box_step rfl (N := 4) rfl (cs := #[.slice none 0 0]) (t := 22) ?_ ?_
                          · first | (go_simp; done) | (go_simp; rfl)
                          rintro ga_ hg wq hbox hb
                          refine hK.out _ _ ⟨(blk_cell (blk_below FS_.out hb) 0).trans rfl, (blk_cell (blk_below FS_.out hb) 1).trans rfl, (blk_cell (blk_below FS_.out hb) 2).trans rfl⟩ (fun hHeld2 => ?_)
                          exact norm_ (by first | rfl | (simp only [putAll, Act.put, List.setIfInBounds_toArray, List.set_cons_zero, List.set_cons_succ]; done) | (simp only [putAll, Act.put, List.setIfInBounds_toArray, List.set_cons_zero, List.set_cons_succ]; rfl)) (hJ14 (vd_, undef, ga_, 0) _ ⟨⟨below_step FB_.out hb⟩, ⟨blk_below FS_.out hb⟩, ⟨Kd.R_below F1_.out hb⟩, ⟨hbox⟩, ⟨by rw [hg]; exact below_size FB_.out⟩, ⟨by rw [hg]; exact blk_lt FS_.out⟩⟩)
                        · refine box_step rfl (N := 5) rfl (cs := #[.slice none 0 0]) (t := 22) ?_ ?_
                          · first | (go_simp; done) | (go_simp; rfl)
                          rintro gc_ hg wq hbox hb
                          refine hK.out _ _ ⟨(blk_cell (blk_below FS_.out hb) 0).trans rfl, (blk_cell (blk_below FS_.out hb) 1).trans rfl, (blk_cell (blk_below FS_.out hb) 2).trans rfl⟩ (fun hHeld2 => ?_)
                          exact norm_ (by first | rfl | (simp only [putAll, Act.put, List.setIfInBounds_toArray, List.set_cons_zero, List.set_cons_succ]; done) | (simp only [putAll, Act.put, List.setIfInBounds_toArray, List.set_cons_zero, List.set_cons_succ]; rfl)) (hJ15 (vd_, undef, 0, gc_) _ ⟨⟨below_step FB_.out hb⟩, ⟨blk_below FS_.out hb⟩, ⟨Kd.R_below F1_.out hb⟩, ⟨hbox⟩, ⟨by rw [hg]; exact below_size FB_.out⟩, ⟨by rw [hg]; exact blk_lt FS_.out⟩⟩)
                      rintro ⟨vd_, vu_, ga_, gc_⟩ wr_ ⟨FB_, FS_, F4k_, F4g_, F4s_, F5k_, F5g_, F5s_, F45_⟩
                      refine norm_ (a' := ?_) ?_ ?_
                      rotate_left
                      · simp only [putAll, Act.put, List.setIfInBounds_toArray, List.set_cons_zero, List.set_cons_succ]
                        rfl
                      refine one_ (i := 1) (N := some 10) #[true, true, true, false, true, true, false, false] rfl rfl (by kernel_rfl) (by decide) (fun K hK => ?_)
                      · refine goes_ Try.func73 (by kernel_rfl) rfl #[.agg #[.int .i64 a0_0, .slice A0_1 l0_1.length c0_1, .slice A0_2 l0_2.length c0_2]] (by rfl) rfl rfl (by (try simp only [List.map_toArray, List.map_cons, List.map_nil]); first | done | rfl) ?_
                        with_reducible refine (impl_Stairs_down.calls k a0_0 _ _ l0_1 _ _ l0_2 dn _ ?side1 HC1.out ?side2 HC2.out HN.out).mono ?_
                        (case side1 => exact Kd.C_below HR1.out FB_.out)
                        (case side2 => exact Kd.C_below HR2.out FB_.out)
                        rintro e wq ⟨vd_, rfl, ho, hb⟩
                        refine ⟨_, rfl, ?_⟩
                        refine hK.out _ _ ⟨(blk_cell (blk_below FS_.out hb) 0).trans rfl, (blk_cell (blk_below FS_.out hb) 1).trans rfl, (blk_cell (blk_below FS_.out hb) 2).trans rfl⟩ (fun hHeld2 => ?_)
                        exact norm_ (by first | rfl | (simp only [putAll, Act.put, List.setIfInBounds_toArray, List.set_cons_zero, List.set_cons_succ]; done) | (simp only [putAll, Act.put, List.setIfInBounds_toArray, List.set_cons_zero, List.set_cons_succ]; rfl)) (hJ145 (vd_, undef, ga_, gc_) _ ⟨⟨below_step FB_.out hb⟩, ⟨blk_below FS_.out hb⟩, ⟨Kd.R_lower ho (below_size FB_.out)⟩, ⟨blk_below F4k_.out hb⟩, F4g_, F4s_, ⟨blk_below F5k_.out hb⟩, F5g_, F5s_, F45_⟩)
                    rintro ⟨vd_, vu_, ga_, gc_⟩ wr_ ⟨FB_, FS_, F1_, F5k_, F5g_, F5s_⟩
                    refine norm_ (a' := ?_) ?_ ?_
                    rotate_left
                    · simp only [putAll, Act.put, List.setIfInBounds_toArray, List.set_cons_zero, List.set_cons_succ]
                      rfl
                    refine two_ (i := 3) (j := 4) (Ni := some 12) (Nj := some 4) #[true, true, true, true, false, true, false, false] #[true, true, true, false, true, true, false, false] rfl rfl rfl rfl (by kernel_rfl) (by decide) (by decide) (fun K hK => ?_) (fun K hK => ?_)
                    · refine goes_ Try.func85 (by kernel_rfl) rfl #[.agg #[.int .i64 a0_0, .slice A0_1 l0_1.length c0_1, .slice A0_2 l0_2.length c0_2]] (by rfl) rfl rfl (by (try simp only [List.map_toArray, List.map_cons, List.map_nil]); first | done | rfl) ?_
                      with_reducible refine (impl_Stairs_up.calls k a0_0 _ _ l0_1 _ _ l0_2 up _ ?side1 HC1.out ?side2 HC2.out HU.out).mono ?_
                      (case side1 => exact Kd.C_below HR1.out FB_.out)
                      (case side2 => exact Kd.C_below HR2.out FB_.out)
                      rintro e wq ⟨vu_, rfl, ho, hb⟩
                      refine ⟨_, rfl, ?_⟩
                      refine hK.out _ _ ⟨(blk_cell (blk_below FS_.out hb) 0).trans rfl, (blk_cell (blk_below FS_.out hb) 1).trans rfl, (blk_cell (blk_below FS_.out hb) 2).trans rfl⟩ (fun hHeld2 => ?_)
                      exact norm_ (by first | rfl | (simp only [putAll, Act.put, List.setIfInBounds_toArray, List.set_cons_zero, List.set_cons_succ]; done) | (simp only [putAll, Act.put, List.setIfInBounds_toArray, List.set_cons_zero, List.set_cons_succ]; rfl)) (hJ135 (vd_, vu_, 0, gc_) _ ⟨⟨below_step FB_.out hb⟩, ⟨blk_below FS_.out hb⟩, ⟨Kd.R_below F1_.out hb⟩, ⟨Kd.R_lower ho (below_size FB_.out)⟩, ⟨blk_below F5k_.out hb⟩, F5g_, F5s_⟩)
                    · refine box_step rfl (N := 4) rfl (cs := #[.slice none 0 0]) (t := 22) ?_ ?_
                      · first | (go_simp; done) | (go_simp; rfl)
                      rintro ga_ hg wq hbox hb
                      refine hK.out _ _ ⟨(blk_cell (blk_below FS_.out hb) 0).trans rfl, (blk_cell (blk_below FS_.out hb) 1).trans rfl, (blk_cell (blk_below FS_.out hb) 2).trans rfl⟩ (fun hHeld2 => ?_)
                      exact norm_ (by first | rfl | (simp only [putAll, Act.put, List.setIfInBounds_toArray, List.set_cons_zero, List.set_cons_succ]; done) | (simp only [putAll, Act.put, List.setIfInBounds_toArray, List.set_cons_zero, List.set_cons_succ]; rfl)) (hJ145 (vd_, undef, ga_, gc_) _ ⟨⟨below_step FB_.out hb⟩, ⟨blk_below FS_.out hb⟩, ⟨Kd.R_below F1_.out hb⟩, ⟨hbox⟩, ⟨by rw [hg]; exact below_size FB_.out⟩, ⟨by rw [hg]; exact blk_lt FS_.out⟩, ⟨blk_below F5k_.out hb⟩, F5g_, F5s_, ⟨fun z_ => by have q1_ : gc_ < wr_.heap.size := blk_lt F5k_.out; have q2_ : ga_ = gc_ := z_; omega⟩⟩)
                  rintro ⟨vd_, vu_, ga_, gc_⟩ wr_ ⟨FB_, FS_, F1_, F4k_, F4g_, F4s_⟩
                  refine norm_ (a' := ?_) ?_ ?_
                  rotate_left
                  · simp only [putAll, Act.put, List.setIfInBounds_toArray, List.set_cons_zero, List.set_cons_succ]
                    rfl
                  refine two_ (i := 3) (j := 5) (Ni := some 12) (Nj := some 5) #[true, true, true, true, true, false, false, false] #[true, true, true, false, true, true, false, false] rfl rfl rfl rfl (by kernel_rfl) (by decide) (by decide) (fun K hK => ?_) (fun K hK => ?_)
                  · refine goes_ Try.func85 (by kernel_rfl) rfl #[.agg #[.int .i64 a0_0, .slice A0_1 l0_1.length c0_1, .slice A0_2 l0_2.length c0_2]] (by rfl) rfl rfl (by (try simp only [List.map_toArray, List.map_cons, List.map_nil]); first | done | rfl) ?_
                    with_reducible refine (impl_Stairs_up.calls k a0_0 _ _ l0_1 _ _ l0_2 up _ ?side1 HC1.out ?side2 HC2.out HU.out).mono ?_
                    (case side1 => exact Kd.C_below HR1.out FB_.out)
                    (case side2 => exact Kd.C_below HR2.out FB_.out)
                    rintro e wq ⟨vu_, rfl, ho, hb⟩
                    refine ⟨_, rfl, ?_⟩
                    refine hK.out _ _ ⟨(blk_cell (blk_below FS_.out hb) 0).trans rfl, (blk_cell (blk_below FS_.out hb) 1).trans rfl, (blk_cell (blk_below FS_.out hb) 2).trans rfl⟩ (fun hHeld2 => ?_)
                    exact norm_ (by first | rfl | (simp only [putAll, Act.put, List.setIfInBounds_toArray, List.set_cons_zero, List.set_cons_succ]; done) | (simp only [putAll, Act.put, List.setIfInBounds_toArray, List.set_cons_zero, List.set_cons_succ]; rfl)) (hJ134 (vd_, vu_, ga_, 0) _ ⟨⟨below_step FB_.out hb⟩, ⟨blk_below FS_.out hb⟩, ⟨Kd.R_below F1_.out hb⟩, ⟨Kd.R_lower ho (below_size FB_.out)⟩, ⟨blk_below F4k_.out hb⟩, F4g_, F4s_⟩)
                  · refine box_step rfl (N := 5) rfl (cs := #[.slice none 0 0]) (t := 22) ?_ ?_
                    · first | (go_simp; done) | (go_simp; rfl)
                    rintro gc_ hg wq hbox hb
                    refine hK.out _ _ ⟨(blk_cell (blk_below FS_.out hb) 0).trans rfl, (blk_cell (blk_below FS_.out hb) 1).trans rfl, (blk_cell (blk_below FS_.out hb) 2).trans rfl⟩ (fun hHeld2 => ?_)
                    exact norm_ (by first | rfl | (simp only [putAll, Act.put, List.setIfInBounds_toArray, List.set_cons_zero, List.set_cons_succ]; done) | (simp only [putAll, Act.put, List.setIfInBounds_toArray, List.set_cons_zero, List.set_cons_succ]; rfl)) (hJ145 (vd_, undef, ga_, gc_) _ ⟨⟨below_step FB_.out hb⟩, ⟨blk_below FS_.out hb⟩, ⟨Kd.R_below F1_.out hb⟩, ⟨blk_below F4k_.out hb⟩, F4g_, F4s_, ⟨hbox⟩, ⟨by rw [hg]; exact below_size FB_.out⟩, ⟨by rw [hg]; exact blk_lt FS_.out⟩, ⟨fun z_ => by have q1_ : ga_ < wr_.heap.size := blk_lt F4k_.out; have q2_ : ga_ = gc_ := z_; omega⟩⟩)
                rintro ⟨vd_, vu_, ga_, gc_⟩ wr_ ⟨FB_, FS_, F1_, F3_⟩
                refine norm_ (a' := ?_) ?_ ?_
                rotate_left
                · simp only [putAll, Act.put, List.setIfInBounds_toArray, List.set_cons_zero, List.set_cons_succ]
                  rfl
                refine two_ (i := 4) (j := 5) (Ni := some 4) (Nj := some 5) #[true, true, true, true, true, false, false, false] #[true, true, true, true, false, true, false, false] rfl rfl rfl rfl (by kernel_rfl) (by decide) (by decide) (fun K hK => ?_) (fun K hK => ?_)
                · refine box_step rfl (N := 4) rfl (cs := #[.slice none 0 0]) (t := 22) ?_ ?_
                  · first | (go_simp; done) | (go_simp; rfl)
                  rintro ga_ hg wq hbox hb
                  refine hK.out _ _ ⟨(blk_cell (blk_below FS_.out hb) 0).trans rfl, (blk_cell (blk_below FS_.out hb) 1).trans rfl, (blk_cell (blk_below FS_.out hb) 2).trans rfl⟩ (fun hHeld2 => ?_)
                  exact norm_ (by first | rfl | (simp only [putAll, Act.put, List.setIfInBounds_toArray, List.set_cons_zero, List.set_cons_succ]; done) | (simp only [putAll, Act.put, List.setIfInBounds_toArray, List.set_cons_zero, List.set_cons_succ]; rfl)) (hJ134 (vd_, vu_, ga_, 0) _ ⟨⟨below_step FB_.out hb⟩, ⟨blk_below FS_.out hb⟩, ⟨Kd.R_below F1_.out hb⟩, ⟨Kd.R_below F3_.out hb⟩, ⟨hbox⟩, ⟨by rw [hg]; exact below_size FB_.out⟩, ⟨by rw [hg]; exact blk_lt FS_.out⟩⟩)
                · refine box_step rfl (N := 5) rfl (cs := #[.slice none 0 0]) (t := 22) ?_ ?_
                  · first | (go_simp; done) | (go_simp; rfl)
                  rintro gc_ hg wq hbox hb
                  refine hK.out _ _ ⟨(blk_cell (blk_below FS_.out hb) 0).trans rfl, (blk_cell (blk_below FS_.out hb) 1).trans rfl, (blk_cell (blk_below FS_.out hb) 2).trans rfl⟩ (fun hHeld2 => ?_)
                  exact norm_ (by first | rfl | (simp only [putAll, Act.put, List.setIfInBounds_toArray, List.set_cons_zero, List.set_cons_succ]; done) | (simp only [putAll, Act.put, List.setIfInBounds_toArray, List.set_cons_zero, List.set_cons_succ]; rfl)) (hJ135 (vd_, vu_, 0, gc_) _ ⟨⟨below_step FB_.out hb⟩, ⟨blk_below FS_.out hb⟩, ⟨Kd.R_below F1_.out hb⟩, ⟨Kd.R_below F3_.out hb⟩, ⟨hbox⟩, ⟨by rw [hg]; exact below_size FB_.out⟩, ⟨by rw [hg]; exact blk_lt FS_.out⟩⟩)
              rintro ⟨vd_, vu_, ga_, gc_⟩ wr_ ⟨FB_, FS_, F1_, F4k_, F4g_, F4s_, F5k_, F5g_, F5s_, F45_⟩
              refine norm_ (a' := ?_) ?_ ?_
              rotate_left
              · simp only [putAll, Act.put, List.setIfInBounds_toArray, List.set_cons_zero, List.set_cons_succ]
                rfl
              refine one_ (i := 3) (N := some 12) #[true, true, true, true, true, true, false, false] rfl rfl (by kernel_rfl) (by decide) (fun K hK => ?_)
              · refine goes_ Try.func85 (by kernel_rfl) rfl #[.agg #[.int .i64 a0_0, .slice A0_1 l0_1.length c0_1, .slice A0_2 l0_2.length c0_2]] (by rfl) rfl rfl (by (try simp only [List.map_toArray, List.map_cons, List.map_nil]); first | done | rfl) ?_
                with_reducible refine (impl_Stairs_up.calls k a0_0 _ _ l0_1 _ _ l0_2 up _ ?side1 HC1.out ?side2 HC2.out HU.out).mono ?_
                (case side1 => exact Kd.C_below HR1.out FB_.out)
                (case side2 => exact Kd.C_below HR2.out FB_.out)
                rintro e wq ⟨vu_, rfl, ho, hb⟩
                refine ⟨_, rfl, ?_⟩
                refine hK.out _ _ ⟨(blk_cell (blk_below FS_.out hb) 0).trans rfl, (blk_cell (blk_below FS_.out hb) 1).trans rfl, (blk_cell (blk_below FS_.out hb) 2).trans rfl⟩ (fun hHeld2 => ?_)
                exact norm_ (by first | rfl | (simp only [putAll, Act.put, List.setIfInBounds_toArray, List.set_cons_zero, List.set_cons_succ]; done) | (simp only [putAll, Act.put, List.setIfInBounds_toArray, List.set_cons_zero, List.set_cons_succ]; rfl)) (hJ1345 (vd_, vu_, ga_, gc_) _ ⟨⟨below_step FB_.out hb⟩, ⟨blk_below FS_.out hb⟩, ⟨Kd.R_below F1_.out hb⟩, ⟨Kd.R_lower ho (below_size FB_.out)⟩, ⟨blk_below F4k_.out hb⟩, F4g_, F4s_, ⟨blk_below F5k_.out hb⟩, F5g_, F5s_, F45_⟩)
            rintro ⟨vd_, vu_, ga_, gc_⟩ wr_ ⟨FB_, FS_, F1_, F3_, F5k_, F5g_, F5s_⟩
            refine norm_ (a' := ?_) ?_ ?_
            rotate_left
            · simp only [putAll, Act.put, List.setIfInBounds_toArray, List.set_cons_zero, List.set_cons_succ]
              rfl
            refine one_ (i := 4) (N := some 4) #[true, true, true, true, true, true, false, false] rfl rfl (by kernel_rfl) (by decide) (fun K hK => ?_)
            · refine box_step rfl (N := 4) rfl (cs := #[.slice none 0 0]) (t := 22) ?_ ?_
              · first | (go_simp; done) | (go_simp; rfl)
              rintro ga_ hg wq hbox hb
              refine hK.out _ _ ⟨(blk_cell (blk_below FS_.out hb) 0).trans rfl, (blk_cell (blk_below FS_.out hb) 1).trans rfl, (blk_cell (blk_below FS_.out hb) 2).trans rfl⟩ (fun hHeld2 => ?_)
              exact norm_ (by first | rfl | (simp only [putAll, Act.put, List.setIfInBounds_toArray, List.set_cons_zero, List.set_cons_succ]; done) | (simp only [putAll, Act.put, List.setIfInBounds_toArray, List.set_cons_zero, List.set_cons_succ]; rfl)) (hJ1345 (vd_, vu_, ga_, gc_) _ ⟨⟨below_step FB_.out hb⟩, ⟨blk_below FS_.out hb⟩, ⟨Kd.R_below F1_.out hb⟩, ⟨Kd.R_below F3_.out hb⟩, ⟨hbox⟩, ⟨by rw [hg]; exact below_size FB_.out⟩, ⟨by rw [hg]; exact blk_lt FS_.out⟩, ⟨blk_below F5k_.out hb⟩, F5g_, F5s_, ⟨fun z_ => by have q1_ : gc_ < wr_.heap.size := blk_lt F5k_.out; have q2_ : ga_ = gc_ := z_; omega⟩⟩)
          rintro ⟨vd_, vu_, ga_, gc_⟩ wr_ ⟨FB_, FS_, F1_, F3_, F4k_, F4g_, F4s_⟩
          refine norm_ (a' := ?_) ?_ ?_
          rotate_left
          · simp only [putAll, Act.put, List.setIfInBounds_toArray, List.set_cons_zero, List.set_cons_succ]
            rfl
          refine one_ (i := 5) (N := some 5) #[true, true, true, true, true, true, false, false] rfl rfl (by kernel_rfl) (by decide) (fun K hK => ?_)
          · refine box_step rfl (N := 5) rfl (cs := #[.slice none 0 0]) (t := 22) ?_ ?_
            · first | (go_simp; done) | (go_simp; rfl)
            rintro gc_ hg wq hbox hb
            refine hK.out _ _ ⟨(blk_cell (blk_below FS_.out hb) 0).trans rfl, (blk_cell (blk_below FS_.out hb) 1).trans rfl, (blk_cell (blk_below FS_.out hb) 2).trans rfl⟩ (fun hHeld2 => ?_)
            exact norm_ (by first | rfl | (simp only [putAll, Act.put, List.setIfInBounds_toArray, List.set_cons_zero, List.set_cons_succ]; done) | (simp only [putAll, Act.put, List.setIfInBounds_toArray, List.set_cons_zero, List.set_cons_succ]; rfl)) (hJ1345 (vd_, vu_, ga_, gc_) _ ⟨⟨below_step FB_.out hb⟩, ⟨blk_below FS_.out hb⟩, ⟨Kd.R_below F1_.out hb⟩, ⟨Kd.R_below F3_.out hb⟩, ⟨blk_below F4k_.out hb⟩, F4g_, F4s_, ⟨hbox⟩, ⟨by rw [hg]; exact below_size FB_.out⟩, ⟨by rw [hg]; exact blk_lt FS_.out⟩, ⟨fun z_ => by have q1_ : ga_ < wr_.heap.size := blk_lt F4k_.out; have q2_ : ga_ = gc_ := z_; omega⟩⟩)
        rintro ⟨vd_, vu_, ga_, gc_⟩ wr_ ⟨FB_, FS_, F1_, F3_, F4k_, F4g_, F4s_, F5k_, F5g_, F5s_, F45_⟩
        refine norm_ (a' := ?_) ?_ ?_
        rotate_left
        · simp only [putAll, Act.put, List.setIfInBounds_toArray, List.set_cons_zero, List.set_cons_succ]
          rfl
        obtain ⟨Ad, cd, ed_⟩ := Kd.R_slice F1_.out
        subst ed_
        obtain ⟨Au, cu, eu_⟩ := Kd.R_slice F3_.out
        subst eu_
        refine one_ (i := 6) (N := none) #[true, true, true, true, true, true, true, false] rfl rfl (by kernel_rfl) (by decide) (fun K hK => ?_)
        have hcx_ : wr_.cell? ⟨ga_, 0, none⟩ = some (.slice none 0 0) := (blk_cell F4k_.out 0).trans rfl
        have hfx_ := blk_frozen F4k_.out 0
        refine skip_ rfl rfl (w1 := wr_.setCell ⟨ga_, 0, none⟩ (.slice Ad dn.length cd)) (by first | (go_simp; done) | (go_simp; rfl)) ?_
        clear hcx_ hfx_
        generalize hw_ : wr_.setCell ⟨ga_, 0, none⟩ (.slice Ad dn.length cd) = ws6_
        have z0_ : Aside0 (ws6_.heap[ga_]? = some (.cells #[.slice Ad dn.length cd] 22 (0, 0))) := ⟨by rw [← hw_]; exact blk_put F4k_.out 0 _ rfl⟩
        have z1_ : Aside0 (ws6_.heap[gc_]? = some (.cells #[.slice none 0 0] 22 (0, 0))) := ⟨by rw [← hw_]; exact blk_far F5k_.out (Ne.symm F45_.out) _⟩
        have z2_ : Aside0 (ws6_.heap[gbs]? = some (.cells #[.int .i64 a0_0, .slice A0_1 l0_1.length c0_1, .slice A0_2 l0_2.length c0_2] 45 (0, 0))) := ⟨by rw [← hw_]; exact blk_far FS_.out (Nat.ne_of_lt F4s_.out) _⟩
        have z3_ : Aside0 (Below w.heap.size w ws6_) := ⟨by rw [← hw_]; exact below_set FB_.out F4g_.out⟩
        have z4_ : Aside0 (Kd.R (Kd.int .i64) 3 ws6_ w.heap.size (fun _ => True) (.slice Ad dn.length cd) dn) := ⟨by rw [← hw_]; exact Kd.R_mono (Kd.R_set F1_.out F4k_.out (by decide) 0 _) (fun _ _ => trivial)⟩
        have z5_ : Aside0 (Kd.R (Kd.int .i64) 3 ws6_ w.heap.size (fun _ => True) (.slice Au up.length cu) up) := ⟨by rw [← hw_]; exact Kd.R_mono (Kd.R_set F3_.out F4k_.out (by decide) 0 _) (fun _ _ => trivial)⟩
        clear hw_ FS_ FB_ F1_ F3_ F4k_ F5k_
        have F4k_ := z0_
        have F5k_ := z1_
        have FS_ := z2_
        have FB_ := z3_
        have F1_ := z4_
        have F3_ := z5_
        clear z0_ z1_ z2_ z3_ z4_ z5_
        refine hK.out _ _ ⟨(blk_cell FS_.out 0).trans rfl, (blk_cell FS_.out 1).trans rfl, (blk_cell FS_.out 2).trans rfl⟩ (fun hHeld => ?_)
        clear hK K
        refine one_ (i := 7) (N := none) #[true, true, true, true, true, true, true, true] rfl rfl (by kernel_rfl) (by decide) (fun K hK => ?_)
        have hcx_ : ws6_.cell? ⟨gc_, 0, none⟩ = some (.slice none 0 0) := (blk_cell F5k_.out 0).trans rfl
        have hfx_ := blk_frozen F5k_.out 0
        refine skip_ rfl rfl (w1 := ws6_.setCell ⟨gc_, 0, none⟩ (.slice Au up.length cu)) (by first | (go_simp; done) | (go_simp; rfl)) ?_
        clear hcx_ hfx_
        generalize hw_ : ws6_.setCell ⟨gc_, 0, none⟩ (.slice Au up.length cu) = ws7_
        have z0_ : Aside0 (ws7_.heap[gc_]? = some (.cells #[.slice Au up.length cu] 22 (0, 0))) := ⟨by rw [← hw_]; exact blk_put F5k_.out 0 _ rfl⟩
        have z1_ : Aside0 (ws7_.heap[ga_]? = some (.cells #[.slice Ad dn.length cd] 22 (0, 0))) := ⟨by rw [← hw_]; exact blk_far F4k_.out (Ne.symm (Ne.symm F45_.out)) _⟩
        have z2_ : Aside0 (ws7_.heap[gbs]? = some (.cells #[.int .i64 a0_0, .slice A0_1 l0_1.length c0_1, .slice A0_2 l0_2.length c0_2] 45 (0, 0))) := ⟨by rw [← hw_]; exact blk_far FS_.out (Nat.ne_of_lt F5s_.out) _⟩
        have z3_ : Aside0 (Below w.heap.size w ws7_) := ⟨by rw [← hw_]; exact below_set FB_.out F5g_.out⟩
        have z4_ : Aside0 (Kd.R (Kd.int .i64) 3 ws7_ w.heap.size (fun _ => True) (.slice Ad dn.length cd) dn) := ⟨by rw [← hw_]; exact Kd.R_mono (Kd.R_set F1_.out F5k_.out (by decide) 0 _) (fun _ _ => trivial)⟩
        have z5_ : Aside0 (Kd.R (Kd.int .i64) 3 ws7_ w.heap.size (fun _ => True) (.slice Au up.length cu) up) := ⟨by rw [← hw_]; exact Kd.R_mono (Kd.R_set F3_.out F5k_.out (by decide) 0 _) (fun _ _ => trivial)⟩
        clear hw_ FS_ FB_ F1_ F3_ F4k_ F5k_
        have F5k_ := z0_
        have F4k_ := z1_
        have FS_ := z2_
        have FB_ := z3_
        have F1_ := z4_
        have F3_ := z5_
        clear z0_ z1_ z2_ z3_ z4_ z5_
        refine hK.out _ _ ⟨(blk_cell FS_.out 0).trans rfl, (blk_cell FS_.out 1).trans rfl, (blk_cell FS_.out 2).trans rfl⟩ (fun hHeld => ?_)
        clear hK K
        refine done_ (by kernel_rfl) ?_
        have BKs := FS_
        have BKd := F4k_
        have BKu := F5k_
        have HB := FB_
        have HRD := Aside0.mk (Kd.R_reads' F1_.out).2.2
        have HRU := Aside0.mk (Kd.R_reads' F3_.out).2.2
        have HDw := Aside0.mk (Below.refl ws7_.heap.size ws7_)
        clear FS_ F4k_ F5k_ FB_ F1_ F3_ F4g_ F5g_ F4s_ F5s_ F45_
        have hy0_ : ws7_.cell? ⟨gbs, 0, none⟩ = some (.int .i64 a0_0) := (blk_cell BKs.out 0).trans rfl
        have hy1_ : ws7_.cell? ⟨gbs, 1, none⟩ = some (.slice A0_1 l0_1.length c0_1) := (blk_cell BKs.out 1).trans rfl
        have hy2_ : ws7_.cell? ⟨gbs, 2, none⟩ = some (.slice A0_2 l0_2.length c0_2) := (blk_cell BKs.out 2).trans rfl
        have hyd_ : ws7_.cell? ⟨ga_, 0, none⟩ = some (.slice Ad dn.length cd) := (blk_cell BKd.out 0).trans rfl
        have hyu_ : ws7_.cell? ⟨gc_, 0, none⟩ = some (.slice Au up.length cu) := (blk_cell BKu.out 0).trans rfl
        obtain ⟨au0, eu0, hu0_⟩ := Kd.at_int HRU.out 0 (Int.le_refl 0) HP.out
        subst eu0
        have p0b0 := eq_true HP.out
        have p0b1 : decide (0 < (up.length : Int)) = true := decide_eq_true HP.out
        have p0b2 : decide (0 < up.length) = true := decide_eq_true (by have := HP.out; omega)
        have p0b3 := eq_true (show 0 < up.length by have := HP.out; omega)
        (try rw [show ((0 : Int)).toNat = 0 from rfl] at hu0_)
        (try rw [Addr.add_zero'] at hu0_)
        go_wp2_with (first | ((with_reducible refine gate_callee (f := 74) rfl ?_); refine goesL_ (some 19) rfl rfl Try.func74 (by kernel_rfl) rfl #[.agg #[.int .i64 a0_0, .slice A0_1 l0_1.length c0_1, .slice A0_2 l0_2.length c0_2], .func (.func 89) #[] #[.pointer (some ⟨ga_, 0, none⟩), .pointer (some ⟨gc_, 0, none⟩)]] rfl (by (try simp only [List.map_toArray, List.map_cons, List.map_nil]); first | done | rfl) ?_; (with_reducible refine (spThose89 (impl_NeededSteps.q dn up) _ _ k a0_0 _ _ tt _ ?hq HT.out).mono ?_); (case hq => intro n b W hn hW; exact needed1 dn up n b ga_ gc_ Ad (some au0) cd cu W (blk_below (g := ga_) (o := .cells #[.slice Ad dn.length cd] 22 (0, 0)) (by (with_reducible repeat (first | refine blk_drewN ?_ _ | refine blk_drew ?_ | refine blk_alloc ?_ _)); exact BKd.out) hW) (blk_below (g := gc_) (o := .cells #[.slice (some au0) up.length cu] 22 (0, 0)) (by (with_reducible repeat (first | refine blk_drewN ?_ _ | refine blk_drew ?_ | refine blk_alloc ?_ _)); exact BKu.out) hW) (Kd.C_below (Kd.C_below HRD.out (by repeat (first | (with_reducible first | exact HDw.out | apply below_alloc | apply pw_below_drewN | apply below_drew1) | exact HDw.out))) hW) (Kd.C_below (Kd.C_below HRU.out (by repeat (first | (with_reducible first | exact HDw.out | apply below_alloc | apply pw_below_drewN | apply below_drew1) | exact HDw.out))) hW) hn); rintro e w99_ ⟨v0_, rfl, ho, hb⟩; refine ⟨_, rfl, ?_⟩; have HO9 := Aside0.mk (Kd.R_lower ho (below_size (by repeat (first | (with_reducible first | exact HB.out | apply below_alloc | apply pw_below_drewN | apply below_drew1) | exact HB.out)))); clear ho; have mb_ := Aside0.mk (below_step (by repeat (first | (with_reducible first | exact HB.out | apply below_alloc | apply pw_below_drewN | apply below_drew1) | exact HB.out)) hb); clear HB; have HB := mb_; clear mb_))
        go_ret2
        exact ⟨_, rfl, by (with_reducible repeat (first | apply Kd.R_alloc | apply Kd.R_drewN | apply Kd.R_drew)); exact HO9.out, by repeat (first | (with_reducible first | exact HB.out | apply below_alloc | apply pw_below_drewN | apply below_drew1) | exact HB.out)⟩
    · rw [if_neg c1] at h
      exact absurd h (by simp)
  | false =>
    rw [if_neg (by decide)] at h
    simp only [Option.some.injEq, Prod.mk.injEq] at h
    obtain ⟨rfl, rfl⟩ := h
    go_enter Try.func45, Try.ntmps45
    go_wp2_with (first | ((with_reducible refine gate_dst (N := 1) rfl ?_); refine box_event ?hg (N := 1) ?hd (cs := #[.int .i64 a0_0, .slice A0_1 l0_1.length c0_1, .slice A0_2 l0_2.length c0_2]) (t := 45) ?hr ?_; (case hd => rfl); (case hg => rfl); (case hr => first | (go_simp; done) | (go_simp; rfl)); intro gbs hg w9_ hbox hb; have BKs := Aside0.mk hbox; have GWs := Aside0.mk ((by rw [hg]; exact (below_size (by repeat (first | (with_reducible first | exact HB.out | apply below_alloc | apply pw_below_drewN | apply below_drew1) | exact HB.out))) : w.heap.size ≤ gbs)); clear hbox hg; have mb_ := Aside0.mk (below_step (by repeat (first | (with_reducible first | exact HB.out | apply below_alloc | apply pw_below_drewN | apply below_drew1) | exact HB.out)) hb); clear HB; have HB := mb_; clear mb_; clear hb; have hcz10_0 : w9_.cell? ⟨gbs, 0, none⟩ = some (.int .i64 a0_0) := (blk_cell BKs.out 0).trans rfl; have hfz10_0 := blk_frozen BKs.out 0; have hcz10_1 : w9_.cell? ⟨gbs, 1, none⟩ = some (.slice A0_1 l0_1.length c0_1) := (blk_cell BKs.out 1).trans rfl; have hfz10_1 := blk_frozen BKs.out 1; have hcz10_2 : w9_.cell? ⟨gbs, 2, none⟩ = some (.slice A0_2 l0_2.length c0_2) := (blk_cell BKs.out 2).trans rfl; have hfz10_2 := blk_frozen BKs.out 2) | ((with_reducible refine gate_callee (f := 72) rfl ?_); refine goesL_ (some 7) rfl rfl Try.func72 (by kernel_rfl) rfl #[.agg #[.int .i64 a0_0, .slice A0_1 l0_1.length c0_1, .slice A0_2 l0_2.length c0_2]] rfl (by (try simp only [List.map_toArray, List.map_cons, List.map_nil]); first | done | rfl | (simp only [List.length_drop, List.length_take]; rfl)) ?_; (with_reducible refine (impl_AreStairs.calls k a0_0 _ _ l0_1 _ _ l0_2 false _ ?side1 HC1.out ?side2 HC2.out HA.out).mono ?_); (case side1 => exact Kd.C_below HR1.out (by repeat (first | (with_reducible first | exact HB.out | apply below_alloc | apply pw_below_drewN | apply below_drew1) | exact HB.out))); (case side2 => exact Kd.C_below HR2.out (by repeat (first | (with_reducible first | exact HB.out | apply below_alloc | apply pw_below_drewN | apply below_drew1) | exact HB.out))); rintro e w11_ ⟨rfl, hb⟩; refine ⟨_, rfl, ?_⟩; have ms_ := Aside0.mk (blk_below (g := gbs) (o := .cells #[.int .i64 a0_0, .slice A0_1 l0_1.length c0_1, .slice A0_2 l0_2.length c0_2] 45 (0, 0)) (by (with_reducible repeat (first | refine blk_drewN ?_ _ | refine blk_drew ?_ | refine blk_alloc ?_ _)); exact BKs.out) hb); have mb_ := Aside0.mk (below_step (by repeat (first | (with_reducible first | exact HB.out | apply below_alloc | apply pw_below_drewN | apply below_drew1) | exact HB.out)) hb); clear HB; have HB := mb_; clear mb_; clear BKs; have BKs := ms_; clear ms_; clear hb; have hcz12_0 : w11_.cell? ⟨gbs, 0, none⟩ = some (.int .i64 a0_0) := (blk_cell BKs.out 0).trans rfl; have hfz12_0 := blk_frozen BKs.out 0; have hcz12_1 : w11_.cell? ⟨gbs, 1, none⟩ = some (.slice A0_1 l0_1.length c0_1) := (blk_cell BKs.out 1).trans rfl; have hfz12_1 := blk_frozen BKs.out 1; have hcz12_2 : w11_.cell? ⟨gbs, 2, none⟩ = some (.slice A0_2 l0_2.length c0_2) := (blk_cell BKs.out 2).trans rfl; have hfz12_2 := blk_frozen BKs.out 2))
    go_ret2
    exact ⟨_, rfl, Kd.R_nil _ _ _ _ _, by repeat (first | (with_reducible first | exact HB.out | apply below_alloc | apply pw_below_drewN | apply below_drew1) | exact HB.out)⟩

end Go.Proofs.Ytlajnkdokmbpeaa.PFnExactNeededSteps
