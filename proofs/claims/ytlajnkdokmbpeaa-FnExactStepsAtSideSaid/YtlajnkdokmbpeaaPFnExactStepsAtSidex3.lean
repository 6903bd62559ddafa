-- Written by this session's own program wip/myprint.py. Not trusted: Lean checks it.
import Derived.Test.YtlajnkdokmbpeaaPFnExactStepsAtSidex0
import Derived.Test.YtlajnkdokmbpeaaPFnExactStepsAtSidex1
import Derived.Test.YtlajnkdokmbpeaaPFnExactStepsAtSidex2
namespace Go.Proofs.Ytlajnkdokmbpeaa.PFnExactStepsAtSide
open Go.RowKit Go.Proofs.YtlajnkdokmbpeaaW.PrintWords Go.Proofs.YtlajnkdokmbpeaaW.PrintLast Go.Proofs.YtlajnkdokmbpeaaW.PrintMore
attribute [local go_sem] max2_int min2_int max_two min_two max_three min_three max_four min_four   -- for this text's walks alone
set_option linter.unusedVariables false
set_option linter.unusedSimpArgs false

/-! ### impl_StepsAtSide: function 41 -/
/-! ### strings.Index and strings.Contains where what is sought is one byte -/
set_option maxHeartbeats 1000000 in
set_option maxRecDepth 100000 in
theorem sIndexByte (s : ByteArray) (c : Int) (w : World) :
    Calls Try.prog 112 #[.string s, .int .u8 c] w fun e w' => e = .returned (.int .i64 (Lib.indexByte s.data.toList c.toNat.toUInt8)) ∧ w' = w := by
  go_enter Try.func112, Try.ntmps112
  go_wp2
  rw [run_callFunc_extern Try.func117 (by kernel_rfl) (by kernel_rfl) (by kernel_rfl) (e := Extern.BytealgIndexByte.indexByte) (by kernel_rfl), Lib.run_indexByteString]
  simp only [Result.andThen]
  rw [Oper.upon_value]
  go_wp2
  go_ret
  exact ⟨rfl, rfl⟩
set_option maxHeartbeats 2000000 in
set_option maxRecDepth 100000 in
theorem sIndexLite (s : ByteArray) (c : UInt8) (w : World) :
    Calls Try.prog 105 #[.string s, .string ⟨#[c]⟩] w fun e w' => e = .returned (.int .i64 (Lib.indexByte s.data.toList c)) ∧ w' = w := by
  go_enter Try.func105, Try.ntmps105
  go_wp2_with (go_at_call 112; refine (sIndexByte _ _ _).mono ?_; rintro e w' ⟨rfl, rfl⟩)
  · have h : ([c] == s.toList) = true := by assumption
    go_ret
    refine ⟨?_, rfl⟩
    have e : s.data.toList = [c] := by rw [← Lib.toList_data]; exact (beq_iff_eq.1 h).symm
    rw [e]
    simp [Lib.indexByte]
  · go_ret
    exact ⟨rfl, rfl⟩
set_option maxRecDepth 100000 in
set_option maxHeartbeats 1000000 in
theorem sIndex1 (s : ByteArray) (c : UInt8) (w : World) :
    Calls Try.prog 83 #[.string s, .string ⟨#[c]⟩] w fun e w' => e = .returned (.int .i64 (Lib.indexByte s.data.toList c)) ∧ w' = w := by
  go_enter Try.func83, Try.ntmps83
  go_wp2_with (go_at_call 105; refine (sIndexLite _ _ _).mono ?_; rintro e w' ⟨rfl, rfl⟩)
  go_ret
  exact ⟨rfl, rfl⟩
theorem sIndex (s t : ByteArray) (c : UInt8) (ht : t = ⟨#[c]⟩) (w : World) :
    Calls Try.prog 83 #[.string s, .string t] w fun e w' => e = .returned (.int .i64 (Lib.indexByte s.data.toList c)) ∧ w' = w := by
  subst ht
  exact sIndex1 s c w
set_option maxRecDepth 100000 in
set_option maxHeartbeats 1000000 in
theorem sContains1 (s : ByteArray) (c : UInt8) (w : World) :
    Calls Try.prog 79 #[.string s, .string ⟨#[c]⟩] w fun e w' => e = .returned (.bool (decide (0 ≤ Lib.indexByte s.data.toList c))) ∧ w' = w := by
  go_enter Try.func79, Try.ntmps79
  go_wp2_with (go_at_call 83; refine (sIndex1 _ _ _).mono ?_; rintro e w' ⟨rfl, rfl⟩)
  go_ret
  exact ⟨rfl, rfl⟩
theorem sContains (s t : ByteArray) (c : UInt8) (ht : t = ⟨#[c]⟩) (b : Bool) (hb : decide (0 ≤ Lib.indexByte s.data.toList c) = b) (w : World) :
    Calls Try.prog 79 #[.string s, .string t] w fun e w' => e = .returned (.bool b) ∧ w' = w := by
  subst hb
  subst ht
  exact sContains1 s c w
/-! ### a function value with captured variables, called in turn with 1, 2, .. -/
def thoseW (q : Int → Option Bool) : Nat → Int → Int → List Int → Option (List Int)
  | 0, _, _, _ => none
  | k + 1, a, i, acc => if i ≤ a then ((q i).bind fun b => if b = true then (if acc.length < 17592186044416 then thoseW q k a (wrap64 (i + 1)) (acc ++ [i]) else none) else thoseW q k a (wrap64 (i + 1)) acc) else some acc
theorem thoseW_mono (q q' : Int → Option Bool) (hq : ∀ n, LeO (q n) (q' n)) : ∀ (k : Nat) (a i : Int) (acc : List Int), LeO (thoseW q k a i acc) (thoseW q' (k + 1) a i acc)
  | 0, _, _, _ => fun r h => by simp [thoseW] at h
  | k + 1, a, i, acc => by
    have ih := thoseW_mono q q' hq k
    rw [thoseW, thoseW]
    refine LeO.ite ?_ (LeO.refl _)
    refine LeO.bind (hq i) (fun b => ?_)
    refine LeO.ite ?_ (ih _ _ _)
    exact LeO.ite (ih _ _ _) (LeO.none _)
set_option maxHeartbeats 8000000 in
set_option maxRecDepth 100000 in
theorem spThose81 (q : Int → Option Bool) (c0_ c1_ : Value) (k : Nat) (a0_0 a0_1 a0_2 : Int) (r : List Int) (w : World)
    (hp0 : ∀ (n : Int) (b : Bool) (W : World), q n = some b → Below w.heap.size w W → Calls Try.prog 81 #[.int .i64 n, c0_, c1_] W fun e w' => e = .returned (.bool b) ∧ Below W.heap.size W w')
    (h : thoseW q k a0_0 1 [] = some r) :
    Calls Try.prog 80 #[.agg #[.int .i64 a0_0, .int .i64 a0_1, .int .i64 a0_2], .func (.func 81) #[] #[c0_, c1_]] w fun e w' => ∃ v0_ : Value, e = .returned (v0_) ∧ Kd.R (Kd.int .i64) 3 w' w.heap.size (fun _ => True) v0_ r ∧ Below w.heap.size w w' := by
  have hu := Try.underlying53
  have HP := Aside0.mk hp0
  have HB := Aside0.mk (Below.refl w.heap.size w)
  clear hp0
  obtain ⟨y135, hy135⟩ : ∃ y_ : List Int, y_ = (([] : List Int)) := ⟨_, rfl⟩
  rw [← hy135] at h
  have H' := Aside0.mk h
  have Ny135 := Aside0.mk hy135
  clear h hy135
  go_enter Try.func80, Try.ntmps80
  go_wp2_with (first | ((with_reducible refine gate_dst (N := 2) rfl ?_); refine box_event ?hg (N := 2) ?hd (cs := #[.int .i64 a0_0, .int .i64 a0_1, .int .i64 a0_2]) (t := 53) ?hr ?_; (case hd => rfl); (case hg => rfl); (case hr => first | (go_simp; done) | (go_simp; rfl)); intro gb1 hg w5 hbox hb; have n0_ := Aside0.mk (below_step (by repeat (first | (with_reducible first | exact HB.out | apply below_alloc | apply pw_below_drewN | apply below_drew1) | exact HB.out)) hb); have n1_ := Aside0.mk (hbox); have n2_ := Aside0.mk ((by rw [hg]; exact (below_size (by repeat (first | (with_reducible first | exact HB.out | apply below_alloc | apply pw_below_drewN | apply below_drew1) | exact HB.out))) : w.heap.size ≤ gb1)); clear HB; have HB := n0_; have BK1 := n1_; have GE1 := n2_; clear n0_ n1_ n2_; clear hb hbox hg) | ((with_reducible refine gate_dst (N := 7) rfl ?_); refine Kd.R_lit (Kd.int .i64) _ 3 ?hg (N := 7) ?hd (xs := ([] : List Int)) (inner := []) (ok := fun _ => True) (okp := fun _ => True) ?hr ?hp (fun _ hk => hk) trivial (Below.refl _ _) (Nat.le_refl _) (by simp) ?_; (case hd => rfl); (case hg => rfl); (case hr => first | (go_simp; done) | (go_simp; rfl)); (case hp => exact (Reps.none _ _)); intro v136 w3 ho4 hb hg_ hnew_; clear hg_ hnew_; (first | rw [← Ny135.out] at ho4 | (simp only [Int.reduceToNat] at ho4; rw [← Ny135.out] at ho4)); have n0_ := Aside0.mk (Kd.R_lower ho4 (below_size (by repeat (first | (with_reducible first | exact HB.out | apply below_alloc | apply pw_below_drewN | apply below_drew1) | exact HB.out)))); have n1_ := Aside0.mk (below_step (by repeat (first | (with_reducible first | exact HB.out | apply below_alloc | apply pw_below_drewN | apply below_drew1) | exact HB.out)) hb); have n2_ := Aside0.mk (blk_below (g := gb1) (o := .cells #[.int .i64 a0_0, .int .i64 a0_1, .int .i64 a0_2] 53 (0, 0)) (by (with_reducible repeat (first | refine blk_drewN ?_ _ | refine blk_drew ?_ | refine blk_alloc ?_ _)); exact BK1.out) hb); clear HB; clear BK1; have HO137 := n0_; have HB := n1_; have BK1 := n2_; clear n0_ n1_ n2_; clear hb ho4))
  go_loopg [5, 6] k (fun kq v5 v6 w' => ∃ (x5_1 : List Int) (x6_1 : Int), v6 = .int .i64 x6_1 ∧ Aside0 (thoseW q kq a0_0 x6_1 x5_1 = some r) ∧ Aside0 (kq ≤ k) ∧ Aside0 (Kd.R (Kd.int .i64) 3 w' w.heap.size (fun _ => True) v5 x5_1) ∧ Aside0 (w'.heap[gb1]? = some (.cells #[.int .i64 a0_0, .int .i64 a0_1, .int .i64 a0_2] 53 (0, 0))) ∧ Aside0 (Below w.heap.size w w'))
  case atStart => exact ⟨(y135), (1), (by first | rfl | (simp; done) | (simp [*]; done)), H', ⟨Nat.le_refl _⟩, ⟨by (with_reducible repeat (first | apply Kd.R_alloc | apply Kd.R_drewN | apply Kd.R_drew)); exact HO137.out⟩, ⟨by (with_reducible repeat (first | refine blk_drewN ?_ _ | refine blk_drew ?_ | refine blk_alloc ?_ _)); exact BK1.out⟩, ⟨by repeat (first | (with_reducible first | exact HB.out | apply below_alloc | apply pw_below_drewN | apply below_drew1) | exact HB.out)⟩⟩
  case round =>
    clear H'
    obtain ⟨x5_1, x6_1, rfl, HA, HK1, HO_5, BK1, HB⟩ := hrel
    cases gk with
    | zero => exact absurd HA.out (by simp [thoseW])
    | succ k1 =>
      have H := HA.out
      clear HA
      simp only [thoseW] at H
      have hcz_0 : wr.cell? ⟨gb1, 0, none⟩ = some (.int .i64 a0_0) := (blk_cell BK1.out 0).trans rfl
      have hfz_0 := blk_frozen BK1.out 0
      by_cases c5 : x6_1 ≤ a0_0
      · rw [if_pos c5] at H
        have c5b0 : decide (x6_1 ≤ a0_0) = true := decide_eq_true c5
        clear c5
        obtain ⟨b, hb0, H⟩ := Option.bind_eq_some_iff.mp H
        have hcall := fun (W : World) (hW : Below wr.heap.size wr W) => HP.out x6_1 b W hb0 (below_step HB.out hW)
        clear hb0
        have HC := Aside0.mk hcall
        clear hcall
        cases b with
        | true =>
          rw [if_pos rfl] at H
          by_cases c8 : x5_1.length < 17592186044416
          · rw [if_pos c8] at H
            have LMc8 := Aside0.mk c8
            clear c8
            obtain ⟨y139, hy139⟩ : ∃ y_ : List Int, y_ = (x5_1 ++ [x6_1]) := ⟨_, rfl⟩
            rw [← hy139] at H
            have Ny139 := Aside0.mk hy139
            clear hy139
            have H' := Aside0.mk H
            clear H
            go_wp2_with (first | (go_at_call 81; refine (HC.out _ (Below.refl _ _)).mono ?_; rintro e w9 ⟨rfl, hb⟩; have n0_ := Aside0.mk (Kd.R_below (by (with_reducible repeat (first | apply Kd.R_alloc | apply Kd.R_drewN | apply Kd.R_drew)); exact HO_5.out) hb); have n1_ := Aside0.mk (below_step (by repeat (first | (with_reducible first | exact HB.out | apply below_alloc | apply pw_below_drewN | apply below_drew1) | exact HB.out)) hb); have n2_ := Aside0.mk (blk_below (g := gb1) (o := .cells #[.int .i64 a0_0, .int .i64 a0_1, .int .i64 a0_2] 53 (0, 0)) BK1.out hb); clear HO_5; clear HB; clear BK1; have HO_5 := n0_; have HB := n1_; have BK1 := n2_; clear n0_ n1_ n2_; clear hb) | ((with_reducible refine gate_builtin (b := .append) (xs := #[.tmp 17, .tmp 19]) rfl ?_); at_builtin; refine Kd.R_append (Kd.int .i64) (w0 := w) w.heap.size rfl (.tmp 17) (.tmp 19) 22 3 (.int .i64 0) 8 rfl Try.underlying22 info3 rfl (by decide) (by omega) u5 x5_1 x6_1 [.int .i64 x6_1] (fun _ => True) (fun _ => False) rfl rfl ?aP (fun _ hk => hk.elim) ?aF ?aO ?aB ?aS ?aL ?_; (case aP => exact rfl); (case aB => exact (by repeat (first | (with_reducible first | exact HB.out | apply below_alloc | apply pw_below_drewN | apply below_drew1) | exact HB.out))); (case aF => exact (fun _ _ => trivial)); (case aO => exact (by (with_reducible repeat (first | apply Kd.R_alloc | apply Kd.R_drewN | apply Kd.R_drew)); exact HO_5.out)); (case aS => exact (below_size (by repeat (first | (with_reducible first | exact HB.out | apply below_alloc | apply pw_below_drewN | apply below_drew1) | exact HB.out)))); (case aL => have := LMc8.out; omega); intro v140 w10 ho hb hg hat; rw [← Ny139.out] at ho; have n0_ := Aside0.mk (hb); have n1_ := Aside0.mk (ho); have n2_ := Aside0.mk (blk_grown (o := .cells #[.int .i64 a0_0, .int .i64 a0_1, .int .i64 a0_2] 53 (0, 0)) (by (with_reducible repeat (first | refine blk_drewN ?_ _ | refine blk_drew ?_ | refine blk_alloc ?_ _)); exact BK1.out) hg (Kd.R_ne HO_5.out BK1.out (by decide))); clear HB; clear HO_5; clear BK1; have HB := n0_; have HO141 := n1_; have BK1 := n2_; clear n0_ n1_ n2_; clear ho hb hg hat))
            go_roundg k1
            case measure => have := HK1.out; omega
            case rel => exact ⟨(y139), (wrap64 (x6_1 + 1)), (by first | rfl | (simp; done) | (simp [*]; done)), H', ⟨by have := HK1.out; omega⟩, ⟨by (with_reducible repeat (first | apply Kd.R_alloc | apply Kd.R_drewN | apply Kd.R_drew)); exact HO141.out⟩, ⟨by (with_reducible repeat (first | refine blk_drewN ?_ _ | refine blk_drew ?_ | refine blk_alloc ?_ _)); exact BK1.out⟩, ⟨by repeat (first | (with_reducible first | exact HB.out | apply below_alloc | apply pw_below_drewN | apply below_drew1) | exact HB.out)⟩⟩
          · rw [if_neg c8] at H
            exact absurd H (by simp)
        | false =>
          rw [if_neg (by decide)] at H
          have H' := Aside0.mk H
          clear H
          go_wp2_with (first | (go_at_call 81; refine (HC.out _ (Below.refl _ _)).mono ?_; rintro e w9 ⟨rfl, hb⟩; have n0_ := Aside0.mk (Kd.R_below (by (with_reducible repeat (first | apply Kd.R_alloc | apply Kd.R_drewN | apply Kd.R_drew)); exact HO_5.out) hb); have n1_ := Aside0.mk (below_step (by repeat (first | (with_reducible first | exact HB.out | apply below_alloc | apply pw_below_drewN | apply below_drew1) | exact HB.out)) hb); have n2_ := Aside0.mk (blk_below (g := gb1) (o := .cells #[.int .i64 a0_0, .int .i64 a0_1, .int .i64 a0_2] 53 (0, 0)) BK1.out hb); clear HO_5; clear HB; clear BK1; have HO_5 := n0_; have HB := n1_; have BK1 := n2_; clear n0_ n1_ n2_; clear hb))
          go_roundg k1
          case measure => have := HK1.out; omega
          case rel => exact ⟨(x5_1), (wrap64 (x6_1 + 1)), (by first | rfl | (simp; done) | (simp [*]; done)), H', ⟨by have := HK1.out; omega⟩, ⟨by (with_reducible repeat (first | apply Kd.R_alloc | apply Kd.R_drewN | apply Kd.R_drew)); exact HO_5.out⟩, ⟨by (with_reducible repeat (first | refine blk_drewN ?_ _ | refine blk_drew ?_ | refine blk_alloc ?_ _)); exact BK1.out⟩, ⟨by repeat (first | (with_reducible first | exact HB.out | apply below_alloc | apply pw_below_drewN | apply below_drew1) | exact HB.out)⟩⟩
      · rw [if_neg c5] at H
        have c5b0 : decide (x6_1 ≤ a0_0) = false := decide_eq_false c5
        clear c5
        obtain rfl := Option.some.inj H
        go_wp2
        go_ret
        exact ⟨_, by first | rfl | (simp [errW_none, errW_some] <;> rfl) | (simp [*, errW_none, errW_some] <;> rfl), by (with_reducible repeat (first | apply Kd.R_alloc | apply Kd.R_drewN | apply Kd.R_drew)); exact HO_5.out, by repeat (first | (with_reducible first | exact HB.out | apply below_alloc | apply pw_below_drewN | apply below_drew1) | exact HB.out)⟩
def nesw (c : UInt8) : Int := Lib.indexByte [110, 101, 115, 119] c
def impl_StepsAtSide.q (a0_0 a0_1 a0_2 : Int) (c : UInt8) (n : Int) : Option Bool := (impl_Spiral_side.f a0_0 a0_1 a0_2 n).bind fun x => some (x == nesw c)
set_option maxHeartbeats 2000000 in
theorem atSide1 (a0_0 a0_1 a0_2 : Int) (a1 : ByteArray) (c : UInt8) (n : Int) (b : Bool) (gs gq : Nat) (hc : a1 = ⟨#[c]⟩) (w : World) (hs : w.heap[gs]? = some (.cells #[.int .i64 a0_0, .int .i64 a0_1, .int .i64 a0_2] 53 (0, 0))) (hq : w.heap[gq]? = some (.cells #[.string a1] 9 (0, 0))) (h : impl_StepsAtSide.q a0_0 a0_1 a0_2 c n = some b) :
    Calls Try.prog 81 #[.int .i64 n, .pointer (some ⟨gs, 0, none⟩), .pointer (some ⟨gq, 0, none⟩)] w fun e w' => e = .returned (.bool b) ∧ Below w.heap.size w w' := by
  have hu := Try.underlying53
  have hp0 : w.cell? ⟨gq, 0, none⟩ = some (.string a1) := (blk_cell hq 0).trans rfl
  have hs0 : w.cell? ⟨gs, 0, none⟩ = some (.int .i64 a0_0) := (blk_cell hs 0).trans rfl
  have hs1 : w.cell? ⟨gs, 1, none⟩ = some (.int .i64 a0_1) := (blk_cell hs 1).trans rfl
  have hs2 : w.cell? ⟨gs, 2, none⟩ = some (.int .i64 a0_2) := (blk_cell hs 2).trans rfl
  have lp := blk_lt hq
  have ls := blk_lt hs
  clear hq hs
  unfold impl_StepsAtSide.q at h
  have HB0 := Aside0.mk (Below.refl w.heap.size w)
  have HCc := Aside0.mk hc
  clear hc
  obtain ⟨x, hx, h⟩ := Option.bind_eq_some_iff.mp h
  obtain rfl := Option.some.inj h
  clear h
  have HX := Aside0.mk hx
  clear hx
  go_enter Try.func81, Try.ntmps81
  go_wp2
  go_region_held3 (fun w' => (w'.cell? ⟨gq, 0, none⟩ = some (.string a1) ∧ w'.cell? ⟨gs, 0, none⟩ = some (.int .i64 a0_0) ∧ w'.cell? ⟨gs, 1, none⟩ = some (.int .i64 a0_1) ∧ w'.cell? ⟨gs, 2, none⟩ = some (.int .i64 a0_2)) ∧ Aside0 (Below w.heap.size w w'))
    (first | exact ⟨⟨by assumption, by assumption, by assumption, by assumption⟩, by assumption⟩ | exact ⟨⟨hp0, hs0, hs1, hs2⟩, ⟨below_drew1 HB0.out⟩⟩ | exact ⟨⟨pw_cell_below hb (by assumption), pw_cell_below hb (by assumption), pw_cell_below hb (by assumption), pw_cell_below hb (by assumption)⟩, ⟨below_step (Aside0.out (by assumption)) hb⟩⟩ | go_keep)
    (first | (go_at_call 82; refine (impl_Spiral_side.calls a0_0 a0_1 a0_2 n x _ HX.out).mono ?_; rintro e w1 ⟨rfl, hb⟩; (have hh := ‹(_ ∧ _ ∧ _ ∧ _) ∧ Aside0 (Below w.heap.size w _)›); have q0 := pw_cell_below hb hh.1.1; have q1 := pw_cell_below hb hh.1.2.1; have q2 := pw_cell_below hb hh.1.2.2.1; have q3 := pw_cell_below hb hh.1.2.2.2; have q4 := Aside0.mk (below_step hh.2.out hb); clear hh) | (go_at_call 83; refine (sIndex _ a1 c HCc.out _).mono ?_; rintro e w1 ⟨rfl, rfl⟩))
  have hh := (‹(_ ∧ _ ∧ _ ∧ _) ∧ Aside0 (Below w.heap.size w _)›).2
  go_wp2
  go_ret
  exact ⟨by first | rfl | (simp; done), hh.out⟩
def impl_StepsAtSide.f (k : Nat) (a0_0 a0_1 a0_2 : Int) (a1 : ByteArray) : Option (List Int × Bool) := (impl_IsSpiral.f a0_0 a0_1 a0_2).bind fun b0 => if b0 = true then (if a1.size = 1 then (if 0 ≤ nesw (a1.data.getD 0 0) then ((thoseW (impl_StepsAtSide.q a0_0 a0_1 a0_2 (a1.data.getD 0 0)) k a0_0 1 []).bind fun tt => some (tt, true)) else some ([], false)) else some ([], false)) else some ([], false)
theorem impl_StepsAtSide.mono : ∀ a0_0 a0_1 a0_2 a1 k, LeO (impl_StepsAtSide.f k a0_0 a0_1 a0_2 a1) (impl_StepsAtSide.f (k + 1) a0_0 a0_1 a0_2 a1) := by
  intro a0_0 a0_1 a0_2 a1 k
  unfold impl_StepsAtSide.f
  refine LeO.bind (LeO.refl _) (fun _ => ?_)
  refine LeO.ite ?_ (LeO.refl _)
  refine LeO.ite ?_ (LeO.refl _)
  refine LeO.ite ?_ (LeO.refl _)
  exact LeO.bind (thoseW_mono _ _ (fun n => LeO.refl _) _ _ _ _) (fun _ => LeO.refl _)
theorem one_byte (s : ByteArray) (h : s.size = 1) : s = ⟨#[s.data.getD 0 0]⟩ := by
  obtain ⟨⟨l⟩⟩ := s
  match l, h with
  | [c], _ => rfl
set_option maxHeartbeats 8000000 in
set_option maxRecDepth 100000 in
theorem impl_StepsAtSide.calls (k : Nat) (a0_0 a0_1 a0_2 : Int) (a1 : ByteArray) (r1 : List Int) (r2 : Bool) (w : World) (h : impl_StepsAtSide.f k a0_0 a0_1 a0_2 a1 = some (r1, r2)) :
    Calls Try.prog 41 #[.agg #[.int .i64 a0_0, .int .i64 a0_1, .int .i64 a0_2], .string a1] w fun e w' => ∃ v0_ : Value, e = .returned (.tuple #[v0_, .bool r2]) ∧ Kd.R (Kd.int .i64) 3 w' w.heap.size (fun _ => True) v0_ r1 ∧ Below w.heap.size w w' := by
  have hu_ := Try.underlying53
  have HB := Aside0.mk (Below.refl w.heap.size w)
  unfold impl_StepsAtSide.f at h
  obtain ⟨b0, hraw, h⟩ := Option.bind_eq_some_iff.mp h
  have HA := Aside0.mk hraw
  clear hraw
  cases b0 with
  | true =>
    rw [if_pos rfl] at h
    by_cases c1 : a1.size = 1
    · rw [if_pos c1] at h
      have HCc := Aside0.mk (one_byte a1 c1)
      have c1b0 : ((a1.size : Int) == 1) = true := beq_iff_eq.mpr (by omega)
      have c1b1 : ((a1.size : Int) != 1) = false := by rw [bne, c1b0]; rfl
      have c1b2 : decide ((a1.size : Int) = 1) = true := decide_eq_true (by omega)
      have c1b3 : (a1.size : Int) = 1 := by omega
      clear c1
      by_cases c2 : 0 ≤ nesw (a1.data.getD 0 0)
      · rw [if_pos c2] at h
        have HCb : Aside0 (decide (0 ≤ Lib.indexByte (⟨#[110, 101, 115, 119]⟩ : ByteArray).data.toList (a1.data.getD 0 0)) = true) := ⟨decide_eq_true c2⟩
        clear c2
        obtain ⟨tt, hraw, h⟩ := Option.bind_eq_some_iff.mp h
        have HT := Aside0.mk hraw
        clear hraw
        simp only [Option.some.injEq, Prod.mk.injEq] at h
        obtain ⟨rfl, rfl⟩ := h
        go_enter Try.func41, Try.ntmps41
        go_wp2_with (first | ((with_reducible refine gate_dst (N := 2) rfl ?_); refine box_event ?hg (N := 2) ?hd (cs := #[.int .i64 a0_0, .int .i64 a0_1, .int .i64 a0_2]) (t := 53) ?hr ?_; (case hd => rfl); (case hg => rfl); (case hr => first | (go_simp; done) | (go_simp; rfl)); intro gbs hg w1_ hbox hb; have BKs := Aside0.mk hbox; have GWs := Aside0.mk ((by rw [hg]; exact (below_size (by repeat (first | (with_reducible first | exact HB.out | apply below_alloc | apply pw_below_drewN | apply below_drew1) | exact HB.out))) : w.heap.size ≤ gbs)); clear hbox hg; have mb_ := Aside0.mk (below_step (by repeat (first | (with_reducible first | exact HB.out | apply below_alloc | apply pw_below_drewN | apply below_drew1) | exact HB.out)) hb); clear HB; have HB := mb_; clear mb_; clear hb; have hcz2_0 : w1_.cell? ⟨gbs, 0, none⟩ = some (.int .i64 a0_0) := (blk_cell BKs.out 0).trans rfl; have hfz2_0 := blk_frozen BKs.out 0; have hcz2_1 : w1_.cell? ⟨gbs, 1, none⟩ = some (.int .i64 a0_1) := (blk_cell BKs.out 1).trans rfl; have hfz2_1 := blk_frozen BKs.out 1; have hcz2_2 : w1_.cell? ⟨gbs, 2, none⟩ = some (.int .i64 a0_2) := (blk_cell BKs.out 2).trans rfl; have hfz2_2 := blk_frozen BKs.out 2) | ((with_reducible refine gate_dst (N := 3) rfl ?_); refine box_event ?hg (N := 3) ?hd (cs := #[.string a1]) (t := 9) ?hr ?_; (case hd => rfl); (case hg => rfl); (case hr => first | (go_simp; done) | (go_simp; rfl)); intro gbq hg w3_ hbox hb; have BKq := Aside0.mk hbox; have GWq := Aside0.mk ((by rw [hg]; exact (below_size (by repeat (first | (with_reducible first | exact HB.out | apply below_alloc | apply pw_below_drewN | apply below_drew1) | exact HB.out))) : w.heap.size ≤ gbq)); clear hbox hg; have ms_ := Aside0.mk (blk_below (g := gbs) (o := .cells #[.int .i64 a0_0, .int .i64 a0_1, .int .i64 a0_2] 53 (0, 0)) (by (with_reducible repeat (first | refine blk_drewN ?_ _ | refine blk_drew ?_ | refine blk_alloc ?_ _)); exact BKs.out) hb); have mb_ := Aside0.mk (below_step (by repeat (first | (with_reducible first | exact HB.out | apply below_alloc | apply pw_below_drewN | apply below_drew1) | exact HB.out)) hb); clear HB; have HB := mb_; clear mb_; clear BKs; have BKs := ms_; clear ms_; clear hb; have hcz4_0 : w3_.cell? ⟨gbs, 0, none⟩ = some (.int .i64 a0_0) := (blk_cell BKs.out 0).trans rfl; have hfz4_0 := blk_frozen BKs.out 0; have hcz4_1 : w3_.cell? ⟨gbs, 1, none⟩ = some (.int .i64 a0_1) := (blk_cell BKs.out 1).trans rfl; have hfz4_1 := blk_frozen BKs.out 1; have hcz4_2 : w3_.cell? ⟨gbs, 2, none⟩ = some (.int .i64 a0_2) := (blk_cell BKs.out 2).trans rfl; have hfz4_2 := blk_frozen BKs.out 2; have hcz5_0 : w3_.cell? ⟨gbq, 0, none⟩ = some (.string a1) := (blk_cell BKq.out 0).trans rfl; have hfz5_0 := blk_frozen BKq.out 0) | ((with_reducible refine gate_callee (f := 78) rfl ?_); refine goesL_ (some 7) rfl rfl Try.func78 (by kernel_rfl) rfl #[.agg #[.int .i64 a0_0, .int .i64 a0_1, .int .i64 a0_2]] rfl (by (try simp only [List.map_toArray, List.map_cons, List.map_nil]); first | done | rfl | (simp only [List.length_drop, List.length_take]; rfl)) ?_; (with_reducible refine (impl_IsSpiral.calls a0_0 a0_1 a0_2 true _ HA.out).mono ?_); rintro e w6_ ⟨rfl, hb⟩; refine ⟨_, rfl, ?_⟩; have ms_ := Aside0.mk (blk_below (g := gbs) (o := .cells #[.int .i64 a0_0, .int .i64 a0_1, .int .i64 a0_2] 53 (0, 0)) (by (with_reducible repeat (first | refine blk_drewN ?_ _ | refine blk_drew ?_ | refine blk_alloc ?_ _)); exact BKs.out) hb); have mq_ := Aside0.mk (blk_below (g := gbq) (o := .cells #[.string a1] 9 (0, 0)) (by (with_reducible repeat (first | refine blk_drewN ?_ _ | refine blk_drew ?_ | refine blk_alloc ?_ _)); exact BKq.out) hb); have mb_ := Aside0.mk (below_step (by repeat (first | (with_reducible first | exact HB.out | apply below_alloc | apply pw_below_drewN | apply below_drew1) | exact HB.out)) hb); clear HB; have HB := mb_; clear mb_; clear BKs; have BKs := ms_; clear ms_; clear BKq; have BKq := mq_; clear mq_; clear hb; have hcz7_0 : w6_.cell? ⟨gbs, 0, none⟩ = some (.int .i64 a0_0) := (blk_cell BKs.out 0).trans rfl; have hfz7_0 := blk_frozen BKs.out 0; have hcz7_1 : w6_.cell? ⟨gbs, 1, none⟩ = some (.int .i64 a0_1) := (blk_cell BKs.out 1).trans rfl; have hfz7_1 := blk_frozen BKs.out 1; have hcz7_2 : w6_.cell? ⟨gbs, 2, none⟩ = some (.int .i64 a0_2) := (blk_cell BKs.out 2).trans rfl; have hfz7_2 := blk_frozen BKs.out 2; have hcz8_0 : w6_.cell? ⟨gbq, 0, none⟩ = some (.string a1) := (blk_cell BKq.out 0).trans rfl; have hfz8_0 := blk_frozen BKq.out 0) | (go_at_call 79; (with_reducible refine (sContains _ a1 _ HCc.out true HCb.out _).mono ?_); rintro e w9_ ⟨rfl, rfl⟩) | ((with_reducible refine gate_callee (f := 80) rfl ?_); refine goesL_ (some 21) rfl rfl Try.func80 (by kernel_rfl) rfl #[.agg #[.int .i64 a0_0, .int .i64 a0_1, .int .i64 a0_2], .func (.func 81) #[] #[.pointer (some ⟨gbs, 0, none⟩), .pointer (some ⟨gbq, 0, none⟩)]] rfl (by (try simp only [List.map_toArray, List.map_cons, List.map_nil]); first | done | rfl | (simp only [List.length_drop, List.length_take]; rfl)) ?_; (with_reducible refine (spThose81 (impl_StepsAtSide.q a0_0 a0_1 a0_2 (a1.data.getD 0 0)) _ _ k a0_0 a0_1 a0_2 tt _ ?hq HT.out).mono ?_); (case hq => intro n b W hn hW; exact atSide1 a0_0 a0_1 a0_2 a1 _ n b gbs gbq HCc.out W (blk_below (g := gbs) (o := .cells #[.int .i64 a0_0, .int .i64 a0_1, .int .i64 a0_2] 53 (0, 0)) (by (with_reducible repeat (first | refine blk_drewN ?_ _ | refine blk_drew ?_ | refine blk_alloc ?_ _)); exact BKs.out) hW) (blk_below (g := gbq) (o := .cells #[.string a1] 9 (0, 0)) (by (with_reducible repeat (first | refine blk_drewN ?_ _ | refine blk_drew ?_ | refine blk_alloc ?_ _)); exact BKq.out) hW) hn); rintro e w10_ ⟨v0_, rfl, ho, hb⟩; refine ⟨_, rfl, ?_⟩; have HO9 := Aside0.mk (Kd.R_lower ho (below_size (by repeat (first | (with_reducible first | exact HB.out | apply below_alloc | apply pw_below_drewN | apply below_drew1) | exact HB.out)))); clear ho; have ms_ := Aside0.mk (blk_below (g := gbs) (o := .cells #[.int .i64 a0_0, .int .i64 a0_1, .int .i64 a0_2] 53 (0, 0)) (by (with_reducible repeat (first | refine blk_drewN ?_ _ | refine blk_drew ?_ | refine blk_alloc ?_ _)); exact BKs.out) hb); have mq_ := Aside0.mk (blk_below (g := gbq) (o := .cells #[.string a1] 9 (0, 0)) (by (with_reducible repeat (first | refine blk_drewN ?_ _ | refine blk_drew ?_ | refine blk_alloc ?_ _)); exact BKq.out) hb); have mb_ := Aside0.mk (below_step (by repeat (first | (with_reducible first | exact HB.out | apply below_alloc | apply pw_below_drewN | apply below_drew1) | exact HB.out)) hb); clear HB; have HB := mb_; clear mb_; clear BKs; have BKs := ms_; clear ms_; clear BKq; have BKq := mq_; clear mq_; clear hb; have hcz11_0 : w10_.cell? ⟨gbs, 0, none⟩ = some (.int .i64 a0_0) := (blk_cell BKs.out 0).trans rfl; have hfz11_0 := blk_frozen BKs.out 0; have hcz11_1 : w10_.cell? ⟨gbs, 1, none⟩ = some (.int .i64 a0_1) := (blk_cell BKs.out 1).trans rfl; have hfz11_1 := blk_frozen BKs.out 1; have hcz11_2 : w10_.cell? ⟨gbs, 2, none⟩ = some (.int .i64 a0_2) := (blk_cell BKs.out 2).trans rfl; have hfz11_2 := blk_frozen BKs.out 2; have hcz12_0 : w10_.cell? ⟨gbq, 0, none⟩ = some (.string a1) := (blk_cell BKq.out 0).trans rfl; have hfz12_0 := blk_frozen BKq.out 0))
        go_ret2
        exact ⟨_, rfl, by (with_reducible repeat (first | apply Kd.R_alloc | apply Kd.R_drewN | apply Kd.R_drew)); exact HO9.out, by repeat (first | (with_reducible first | exact HB.out | apply below_alloc | apply pw_below_drewN | apply below_drew1) | exact HB.out)⟩
      · rw [if_neg c2] at h
        have HCb : Aside0 (decide (0 ≤ Lib.indexByte (⟨#[110, 101, 115, 119]⟩ : ByteArray).data.toList (a1.data.getD 0 0)) = false) := ⟨decide_eq_false c2⟩
        clear c2
        simp only [Option.some.injEq, Prod.mk.injEq] at h
        obtain ⟨rfl, rfl⟩ := h
        go_enter Try.func41, Try.ntmps41
        go_wp2_with (first | ((with_reducible refine gate_dst (N := 2) rfl ?_); refine box_event ?hg (N := 2) ?hd (cs := #[.int .i64 a0_0, .int .i64 a0_1, .int .i64 a0_2]) (t := 53) ?hr ?_; (case hd => rfl); (case hg => rfl); (case hr => first | (go_simp; done) | (go_simp; rfl)); intro gbs hg w13_ hbox hb; have BKs := Aside0.mk hbox; have GWs := Aside0.mk ((by rw [hg]; exact (below_size (by repeat (first | (with_reducible first | exact HB.out | apply below_alloc | apply pw_below_drewN | apply below_drew1) | exact HB.out))) : w.heap.size ≤ gbs)); clear hbox hg; have mb_ := Aside0.mk (below_step (by repeat (first | (with_reducible first | exact HB.out | apply below_alloc | apply pw_below_drewN | apply below_drew1) | exact HB.out)) hb); clear HB; have HB := mb_; clear mb_; clear hb; have hcz14_0 : w13_.cell? ⟨gbs, 0, none⟩ = some (.int .i64 a0_0) := (blk_cell BKs.out 0).trans rfl; have hfz14_0 := blk_frozen BKs.out 0; have hcz14_1 : w13_.cell? ⟨gbs, 1, none⟩ = some (.int .i64 a0_1) := (blk_cell BKs.out 1).trans rfl; have hfz14_1 := blk_frozen BKs.out 1; have hcz14_2 : w13_.cell? ⟨gbs, 2, none⟩ = some (.int .i64 a0_2) := (blk_cell BKs.out 2).trans rfl; have hfz14_2 := blk_frozen BKs.out 2) | ((with_reducible refine gate_dst (N := 3) rfl ?_); refine box_event ?hg (N := 3) ?hd (cs := #[.string a1]) (t := 9) ?hr ?_; (case hd => rfl); (case hg => rfl); (case hr => first | (go_simp; done) | (go_simp; rfl)); intro gbq hg w15_ hbox hb; have BKq := Aside0.mk hbox; have GWq := Aside0.mk ((by rw [hg]; exact (below_size (by repeat (first | (with_reducible first | exact HB.out | apply below_alloc | apply pw_below_drewN | apply below_drew1) | exact HB.out))) : w.heap.size ≤ gbq)); clear hbox hg; have ms_ := Aside0.mk (blk_below (g := gbs) (o := .cells #[.int .i64 a0_0, .int .i64 a0_1, .int .i64 a0_2] 53 (0, 0)) (by (with_reducible repeat (first | refine blk_drewN ?_ _ | refine blk_drew ?_ | refine blk_alloc ?_ _)); exact BKs.out) hb); have mb_ := Aside0.mk (below_step (by repeat (first | (with_reducible first | exact HB.out | apply below_alloc | apply pw_below_drewN | apply below_drew1) | exact HB.out)) hb); clear HB; have HB := mb_; clear mb_; clear BKs; have BKs := ms_; clear ms_; clear hb; have hcz16_0 : w15_.cell? ⟨gbs, 0, none⟩ = some (.int .i64 a0_0) := (blk_cell BKs.out 0).trans rfl; have hfz16_0 := blk_frozen BKs.out 0; have hcz16_1 : w15_.cell? ⟨gbs, 1, none⟩ = some (.int .i64 a0_1) := (blk_cell BKs.out 1).trans rfl; have hfz16_1 := blk_frozen BKs.out 1; have hcz16_2 : w15_.cell? ⟨gbs, 2, none⟩ = some (.int .i64 a0_2) := (blk_cell BKs.out 2).trans rfl; have hfz16_2 := blk_frozen BKs.out 2; have hcz17_0 : w15_.cell? ⟨gbq, 0, none⟩ = some (.string a1) := (blk_cell BKq.out 0).trans rfl; have hfz17_0 := blk_frozen BKq.out 0) | ((with_reducible refine gate_callee (f := 78) rfl ?_); refine goesL_ (some 7) rfl rfl Try.func78 (by kernel_rfl) rfl #[.agg #[.int .i64 a0_0, .int .i64 a0_1, .int .i64 a0_2]] rfl (by (try simp only [List.map_toArray, List.map_cons, List.map_nil]); first | done | rfl | (simp only [List.length_drop, List.length_take]; rfl)) ?_; (with_reducible refine (impl_IsSpiral.calls a0_0 a0_1 a0_2 true _ HA.out).mono ?_); rintro e w18_ ⟨rfl, hb⟩; refine ⟨_, rfl, ?_⟩; have ms_ := Aside0.mk (blk_below (g := gbs) (o := .cells #[.int .i64 a0_0, .int .i64 a0_1, .int .i64 a0_2] 53 (0, 0)) (by (with_reducible repeat (first | refine blk_drewN ?_ _ | refine blk_drew ?_ | refine blk_alloc ?_ _)); exact BKs.out) hb); have mq_ := Aside0.mk (blk_below (g := gbq) (o := .cells #[.string a1] 9 (0, 0)) (by (with_reducible repeat (first | refine blk_drewN ?_ _ | refine blk_drew ?_ | refine blk_alloc ?_ _)); exact BKq.out) hb); have mb_ := Aside0.mk (below_step (by repeat (first | (with_reducible first | exact HB.out | apply below_alloc | apply pw_below_drewN | apply below_drew1) | exact HB.out)) hb); clear HB; have HB := mb_; clear mb_; clear BKs; have BKs := ms_; clear ms_; clear BKq; have BKq := mq_; clear mq_; clear hb; have hcz19_0 : w18_.cell? ⟨gbs, 0, none⟩ = some (.int .i64 a0_0) := (blk_cell BKs.out 0).trans rfl; have hfz19_0 := blk_frozen BKs.out 0; have hcz19_1 : w18_.cell? ⟨gbs, 1, none⟩ = some (.int .i64 a0_1) := (blk_cell BKs.out 1).trans rfl; have hfz19_1 := blk_frozen BKs.out 1; have hcz19_2 : w18_.cell? ⟨gbs, 2, none⟩ = some (.int .i64 a0_2) := (blk_cell BKs.out 2).trans rfl; have hfz19_2 := blk_frozen BKs.out 2; have hcz20_0 : w18_.cell? ⟨gbq, 0, none⟩ = some (.string a1) := (blk_cell BKq.out 0).trans rfl; have hfz20_0 := blk_frozen BKq.out 0) | (go_at_call 79; (with_reducible refine (sContains _ a1 _ HCc.out false HCb.out _).mono ?_); rintro e w21_ ⟨rfl, rfl⟩))
        go_ret2
        exact ⟨_, rfl, Kd.R_nil _ _ _ _ _, by repeat (first | (with_reducible first | exact HB.out | apply below_alloc | apply pw_below_drewN | apply below_drew1) | exact HB.out)⟩
    · rw [if_neg c1] at h
      have c1b0 : ((a1.size : Int) == 1) = false := beq_eq_false_iff_ne.mpr (by omega)
      have c1b1 : ((a1.size : Int) != 1) = true := by rw [bne, c1b0]; rfl
      have c1b2 : decide ((a1.size : Int) = 1) = false := decide_eq_false (by omega)
      have c1b3 : ¬ (a1.size : Int) = 1 := by omega
      clear c1
      simp only [Option.some.injEq, Prod.mk.injEq] at h
      obtain ⟨rfl, rfl⟩ := h
      go_enter Try.func41, Try.ntmps41
      go_wp2_with (first | ((with_reducible refine gate_dst (N := 2) rfl ?_); refine box_event ?hg (N := 2) ?hd (cs := #[.int .i64 a0_0, .int .i64 a0_1, .int .i64 a0_2]) (t := 53) ?hr ?_; (case hd => rfl); (case hg => rfl); (case hr => first | (go_simp; done) | (go_simp; rfl)); intro gbs hg w22_ hbox hb; have BKs := Aside0.mk hbox; have GWs := Aside0.mk ((by rw [hg]; exact (below_size (by repeat (first | (with_reducible first | exact HB.out | apply below_alloc | apply pw_below_drewN | apply below_drew1) | exact HB.out))) : w.heap.size ≤ gbs)); clear hbox hg; have mb_ := Aside0.mk (below_step (by repeat (first | (with_reducible first | exact HB.out | apply below_alloc | apply pw_below_drewN | apply below_drew1) | exact HB.out)) hb); clear HB; have HB := mb_; clear mb_; clear hb; have hcz23_0 : w22_.cell? ⟨gbs, 0, none⟩ = some (.int .i64 a0_0) := (blk_cell BKs.out 0).trans rfl; have hfz23_0 := blk_frozen BKs.out 0; have hcz23_1 : w22_.cell? ⟨gbs, 1, none⟩ = some (.int .i64 a0_1) := (blk_cell BKs.out 1).trans rfl; have hfz23_1 := blk_frozen BKs.out 1; have hcz23_2 : w22_.cell? ⟨gbs, 2, none⟩ = some (.int .i64 a0_2) := (blk_cell BKs.out 2).trans rfl; have hfz23_2 := blk_frozen BKs.out 2) | ((with_reducible refine gate_dst (N := 3) rfl ?_); refine box_event ?hg (N := 3) ?hd (cs := #[.string a1]) (t := 9) ?hr ?_; (case hd => rfl); (case hg => rfl); (case hr => first | (go_simp; done) | (go_simp; rfl)); intro gbq hg w24_ hbox hb; have BKq := Aside0.mk hbox; have GWq := Aside0.mk ((by rw [hg]; exact (below_size (by repeat (first | (with_reducible first | exact HB.out | apply below_alloc | apply pw_below_drewN | apply below_drew1) | exact HB.out))) : w.heap.size ≤ gbq)); clear hbox hg; have ms_ := Aside0.mk (blk_below (g := gbs) (o := .cells #[.int .i64 a0_0, .int .i64 a0_1, .int .i64 a0_2] 53 (0, 0)) (by (with_reducible repeat (first | refine blk_drewN ?_ _ | refine blk_drew ?_ | refine blk_alloc ?_ _)); exact BKs.out) hb); have mb_ := Aside0.mk (below_step (by repeat (first | (with_reducible first | exact HB.out | apply below_alloc | apply pw_below_drewN | apply below_drew1) | exact HB.out)) hb); clear HB; have HB := mb_; clear mb_; clear BKs; have BKs := ms_; clear ms_; clear hb; have hcz25_0 : w24_.cell? ⟨gbs, 0, none⟩ = some (.int .i64 a0_0) := (blk_cell BKs.out 0).trans rfl; have hfz25_0 := blk_frozen BKs.out 0; have hcz25_1 : w24_.cell? ⟨gbs, 1, none⟩ = some (.int .i64 a0_1) := (blk_cell BKs.out 1).trans rfl; have hfz25_1 := blk_frozen BKs.out 1; have hcz25_2 : w24_.cell? ⟨gbs, 2, none⟩ = some (.int .i64 a0_2) := (blk_cell BKs.out 2).trans rfl; have hfz25_2 := blk_frozen BKs.out 2; have hcz26_0 : w24_.cell? ⟨gbq, 0, none⟩ = some (.string a1) := (blk_cell BKq.out 0).trans rfl; have hfz26_0 := blk_frozen BKq.out 0) | ((with_reducible refine gate_callee (f := 78) rfl ?_); refine goesL_ (some 7) rfl rfl Try.func78 (by kernel_rfl) rfl #[.agg #[.int .i64 a0_0, .int .i64 a0_1, .int .i64 a0_2]] rfl (by (try simp only [List.map_toArray, List.map_cons, List.map_nil]); first | done | rfl | (simp only [List.length_drop, List.length_take]; rfl)) ?_; (with_reducible refine (impl_IsSpiral.calls a0_0 a0_1 a0_2 true _ HA.out).mono ?_); rintro e w27_ ⟨rfl, hb⟩; refine ⟨_, rfl, ?_⟩; have ms_ := Aside0.mk (blk_below (g := gbs) (o := .cells #[.int .i64 a0_0, .int .i64 a0_1, .int .i64 a0_2] 53 (0, 0)) (by (with_reducible repeat (first | refine blk_drewN ?_ _ | refine blk_drew ?_ | refine blk_alloc ?_ _)); exact BKs.out) hb); have mq_ := Aside0.mk (blk_below (g := gbq) (o := .cells #[.string a1] 9 (0, 0)) (by (with_reducible repeat (first | refine blk_drewN ?_ _ | refine blk_drew ?_ | refine blk_alloc ?_ _)); exact BKq.out) hb); have mb_ := Aside0.mk (below_step (by repeat (first | (with_reducible first | exact HB.out | apply below_alloc | apply pw_below_drewN | apply below_drew1) | exact HB.out)) hb); clear HB; have HB := mb_; clear mb_; clear BKs; have BKs := ms_; clear ms_; clear BKq; have BKq := mq_; clear mq_; clear hb; have hcz28_0 : w27_.cell? ⟨gbs, 0, none⟩ = some (.int .i64 a0_0) := (blk_cell BKs.out 0).trans rfl; have hfz28_0 := blk_frozen BKs.out 0; have hcz28_1 : w27_.cell? ⟨gbs, 1, none⟩ = some (.int .i64 a0_1) := (blk_cell BKs.out 1).trans rfl; have hfz28_1 := blk_frozen BKs.out 1; have hcz28_2 : w27_.cell? ⟨gbs, 2, none⟩ = some (.int .i64 a0_2) := (blk_cell BKs.out 2).trans rfl; have hfz28_2 := blk_frozen BKs.out 2; have hcz29_0 : w27_.cell? ⟨gbq, 0, none⟩ = some (.string a1) := (blk_cell BKq.out 0).trans rfl; have hfz29_0 := blk_frozen BKq.out 0))
      go_ret2
      exact ⟨_, rfl, Kd.R_nil _ _ _ _ _, by repeat (first | (with_reducible first | exact HB.out | apply below_alloc | apply pw_below_drewN | apply below_drew1) | exact HB.out)⟩
  | false =>
    rw [if_neg (by decide)] at h
    simp only [Option.some.injEq, Prod.mk.injEq] at h
    obtain ⟨rfl, rfl⟩ := h
    go_enter Try.func41, Try.ntmps41
    go_wp2_with (first | ((with_reducible refine gate_dst (N := 2) rfl ?_); refine box_event ?hg (N := 2) ?hd (cs := #[.int .i64 a0_0, .int .i64 a0_1, .int .i64 a0_2]) (t := 53) ?hr ?_; (case hd => rfl); (case hg => rfl); (case hr => first | (go_simp; done) | (go_simp; rfl)); intro gbs hg w30_ hbox hb; have BKs := Aside0.mk hbox; have GWs := Aside0.mk ((by rw [hg]; exact (below_size (by repeat (first | (with_reducible first | exact HB.out | apply below_alloc | apply pw_below_drewN | apply below_drew1) | exact HB.out))) : w.heap.size ≤ gbs)); clear hbox hg; have mb_ := Aside0.mk (below_step (by repeat (first | (with_reducible first | exact HB.out | apply below_alloc | apply pw_below_drewN | apply below_drew1) | exact HB.out)) hb); clear HB; have HB := mb_; clear mb_; clear hb; have hcz31_0 : w30_.cell? ⟨gbs, 0, none⟩ = some (.int .i64 a0_0) := (blk_cell BKs.out 0).trans rfl; have hfz31_0 := blk_frozen BKs.out 0; have hcz31_1 : w30_.cell? ⟨gbs, 1, none⟩ = some (.int .i64 a0_1) := (blk_cell BKs.out 1).trans rfl; have hfz31_1 := blk_frozen BKs.out 1; have hcz31_2 : w30_.cell? ⟨gbs, 2, none⟩ = some (.int .i64 a0_2) := (blk_cell BKs.out 2).trans rfl; have hfz31_2 := blk_frozen BKs.out 2) | ((with_reducible refine gate_dst (N := 3) rfl ?_); refine box_event ?hg (N := 3) ?hd (cs := #[.string a1]) (t := 9) ?hr ?_; (case hd => rfl); (case hg => rfl); (case hr => first | (go_simp; done) | (go_simp; rfl)); intro gbq hg w32_ hbox hb; have BKq := Aside0.mk hbox; have GWq := Aside0.mk ((by rw [hg]; exact (below_size (by repeat (first | (with_reducible first | exact HB.out | apply below_alloc | apply pw_below_drewN | apply below_drew1) | exact HB.out))) : w.heap.size ≤ gbq)); clear hbox hg; have ms_ := Aside0.mk (blk_below (g := gbs) (o := .cells #[.int .i64 a0_0, .int .i64 a0_1, .int .i64 a0_2] 53 (0, 0)) (by (with_reducible repeat (first | refine blk_drewN ?_ _ | refine blk_drew ?_ | refine blk_alloc ?_ _)); exact BKs.out) hb); have mb_ := Aside0.mk (below_step (by repeat (first | (with_reducible first | exact HB.out | apply below_alloc | apply pw_below_drewN | apply below_drew1) | exact HB.out)) hb); clear HB; have HB := mb_; clear mb_; clear BKs; have BKs := ms_; clear ms_; clear hb; have hcz33_0 : w32_.cell? ⟨gbs, 0, none⟩ = some (.int .i64 a0_0) := (blk_cell BKs.out 0).trans rfl; have hfz33_0 := blk_frozen BKs.out 0; have hcz33_1 : w32_.cell? ⟨gbs, 1, none⟩ = some (.int .i64 a0_1) := (blk_cell BKs.out 1).trans rfl; have hfz33_1 := blk_frozen BKs.out 1; have hcz33_2 : w32_.cell? ⟨gbs, 2, none⟩ = some (.int .i64 a0_2) := (blk_cell BKs.out 2).trans rfl; have hfz33_2 := blk_frozen BKs.out 2; have hcz34_0 : w32_.cell? ⟨gbq, 0, none⟩ = some (.string a1) := (blk_cell BKq.out 0).trans rfl; have hfz34_0 := blk_frozen BKq.out 0) | ((with_reducible refine gate_callee (f := 78) rfl ?_); refine goesL_ (some 7) rfl rfl Try.func78 (by kernel_rfl) rfl #[.agg #[.int .i64 a0_0, .int .i64 a0_1, .int .i64 a0_2]] rfl (by (try simp only [List.map_toArray, List.map_cons, List.map_nil]); first | done | rfl | (simp only [List.length_drop, List.length_take]; rfl)) ?_; (with_reducible refine (impl_IsSpiral.calls a0_0 a0_1 a0_2 false _ HA.out).mono ?_); rintro e w35_ ⟨rfl, hb⟩; refine ⟨_, rfl, ?_⟩; have ms_ := Aside0.mk (blk_below (g := gbs) (o := .cells #[.int .i64 a0_0, .int .i64 a0_1, .int .i64 a0_2] 53 (0, 0)) (by (with_reducible repeat (first | refine blk_drewN ?_ _ | refine blk_drew ?_ | refine blk_alloc ?_ _)); exact BKs.out) hb); have mq_ := Aside0.mk (blk_below (g := gbq) (o := .cells #[.string a1] 9 (0, 0)) (by (with_reducible repeat (first | refine blk_drewN ?_ _ | refine blk_drew ?_ | refine blk_alloc ?_ _)); exact BKq.out) hb); have mb_ := Aside0.mk (below_step (by repeat (first | (with_reducible first | exact HB.out | apply below_alloc | apply pw_below_drewN | apply below_drew1) | exact HB.out)) hb); clear HB; have HB := mb_; clear mb_; clear BKs; have BKs := ms_; clear ms_; clear BKq; have BKq := mq_; clear mq_; clear hb; have hcz36_0 : w35_.cell? ⟨gbs, 0, none⟩ = some (.int .i64 a0_0) := (blk_cell BKs.out 0).trans rfl; have hfz36_0 := blk_frozen BKs.out 0; have hcz36_1 : w35_.cell? ⟨gbs, 1, none⟩ = some (.int .i64 a0_1) := (blk_cell BKs.out 1).trans rfl; have hfz36_1 := blk_frozen BKs.out 1; have hcz36_2 : w35_.cell? ⟨gbs, 2, none⟩ = some (.int .i64 a0_2) := (blk_cell BKs.out 2).trans rfl; have hfz36_2 := blk_frozen BKs.out 2; have hcz37_0 : w35_.cell? ⟨gbq, 0, none⟩ = some (.string a1) := (blk_cell BKq.out 0).trans rfl; have hfz37_0 := blk_frozen BKq.out 0))
    go_ret2
    exact ⟨_, rfl, Kd.R_nil _ _ _ _ _, by repeat (first | (with_reducible first | exact HB.out | apply below_alloc | apply pw_below_drewN | apply below_drew1) | exact HB.out)⟩

/-! ### laws_FnExactStepsAtSide: function 11 -/
mutual
def laws_FnExactStepsAtSide.j0 : Nat → ByteArray → List Int → Bool → List Int → Bool → Int → Int → Int → Option (Bool)
  | 0, _, _, _, _, _, _, _, _ => none
  | k + 1, x1, x5, x6, x7, x38, x127000, x127001, x127002 => if x38 = true then (some false) else ((laws_markIntS.f k x7 1).bind fun bt142 => ((laws_heldIntS.f k bt142.2 1).bind fun t144 => (if t144 < 0 then (some false) else (if t144 = bt142.1 then ((laws_toSpiral.f x127000 x127001 x127002).bind fun bt145 => ((impl_StepsAtSide.f k bt145.1 bt145.2.1 bt145.2.2 x1).bind fun bt148 => ((laws_eqIntS.f k bt148.1 x5).bind fun t152 => (if t152 = true then (laws_FnExactStepsAtSide.j1 k bt142.2 bt142.1 (bt148.2 != x6)) else (laws_FnExactStepsAtSide.j1 k bt142.2 bt142.1 true))))) else (some false)))))
def laws_FnExactStepsAtSide.j1 : Nat → List Int → Int → Bool → Option (Bool)
  | 0, _, _, _ => none
  | k + 1, x7, x9, x65 => if x65 = true then (some false) else ((laws_heldIntS.f k x7 1).bind fun t153 => (if t153 < 0 then (some false) else (if t153 = x9 then (some true) else (some false))))
end
def laws_FnExactStepsAtSide.f (k : Nat) (a0_0 : Int) (a0_1 : Int) (a0_2 : Int) (a1 : ByteArray) : Option (Bool) := if (a1.size : Int) > 1048576 then (some true) else ((laws_toSpiral.f a0_0 a0_1 a0_2).bind fun bt127 => ((spec_StepsAtSide.f k bt127.1 bt127.2.1 bt127.2.2 a1).bind fun bt130 => ((laws_toSpiral.f a0_0 a0_1 a0_2).bind fun bt134 => ((impl_StepsAtSide.f k bt134.1 bt134.2.1 bt134.2.2 a1).bind fun bt137 => ((laws_eqIntS.f k bt137.1 bt130.1).bind fun t141 => (if t141 = true then (laws_FnExactStepsAtSide.j0 k a1 bt130.1 bt130.2 bt137.1 (bt137.2 != bt130.2) a0_0 a0_1 a0_2) else (laws_FnExactStepsAtSide.j0 k a1 bt130.1 bt130.2 bt137.1 true a0_0 a0_1 a0_2)))))))
theorem laws_FnExactStepsAtSide.mono_l : ∀ k, (∀ y0 y1 y2 y3 y4 y5 y6 y7, LeO (laws_FnExactStepsAtSide.j0 k y0 y1 y2 y3 y4 y5 y6 y7) (laws_FnExactStepsAtSide.j0 (k + 1) y0 y1 y2 y3 y4 y5 y6 y7)) ∧ (∀ y0 y1 y2, LeO (laws_FnExactStepsAtSide.j1 k y0 y1 y2) (laws_FnExactStepsAtSide.j1 (k + 1) y0 y1 y2))
  | 0 => ⟨fun _ _ _ _ _ _ _ _ r h => by simp [laws_FnExactStepsAtSide.j0] at h, fun _ _ _ r h => by simp [laws_FnExactStepsAtSide.j1] at h⟩
  | k + 1 => by
    obtain ⟨ih0, ih1⟩ := laws_FnExactStepsAtSide.mono_l k
    refine ⟨?_, ?_⟩
    · intro y0 y1 y2 y3 y4 y5 y6 y7
      unfold laws_FnExactStepsAtSide.j0
      repeat' first
      | (with_reducible exact ih0 _ _ _ _ _ _ _ _)
      | (with_reducible exact ih1 _ _ _)
      | (with_reducible exact impl_StepsAtSide.mono _ _ _ _ _)
      | (with_reducible exact laws_eqIntS.mono _ _ _)
      | (with_reducible exact laws_heldIntS.mono _ _ _)
      | (with_reducible exact laws_markIntS.mono _ _ _)
      | (with_reducible exact spec_StepsAtSide.mono _ _ _ _ _)
      | (with_reducible exact LeO.refl _)
      | (with_reducible exact LeO.none _)
      | (with_reducible refine LeO.ite ?_ ?_)
      | (with_reducible refine LeO.bind ?_ (fun _ => ?_))
      | exact ih0 _ _ _ _ _ _ _ _
      | exact ih1 _ _ _
      | exact impl_StepsAtSide.mono _ _ _ _ _
      | exact laws_eqIntS.mono _ _ _
      | exact laws_heldIntS.mono _ _ _
      | exact laws_markIntS.mono _ _ _
      | exact spec_StepsAtSide.mono _ _ _ _ _
      | exact LeO.none _
      | refine LeO.ite ?_ ?_
      | refine LeO.bind ?_ (fun _ => ?_)
    · intro y0 y1 y2
      unfold laws_FnExactStepsAtSide.j1
      repeat' first
      | (with_reducible exact ih0 _ _ _ _ _ _ _ _)
      | (with_reducible exact ih1 _ _ _)
      | (with_reducible exact impl_StepsAtSide.mono _ _ _ _ _)
      | (with_reducible exact laws_eqIntS.mono _ _ _)
      | (with_reducible exact laws_heldIntS.mono _ _ _)
      | (with_reducible exact laws_markIntS.mono _ _ _)
      | (with_reducible exact spec_StepsAtSide.mono _ _ _ _ _)
      | (with_reducible exact LeO.refl _)
      | (with_reducible exact LeO.none _)
      | (with_reducible refine LeO.ite ?_ ?_)
      | (with_reducible refine LeO.bind ?_ (fun _ => ?_))
      | exact ih0 _ _ _ _ _ _ _ _
      | exact ih1 _ _ _
      | exact impl_StepsAtSide.mono _ _ _ _ _
      | exact laws_eqIntS.mono _ _ _
      | exact laws_heldIntS.mono _ _ _
      | exact laws_markIntS.mono _ _ _
      | exact spec_StepsAtSide.mono _ _ _ _ _
      | exact LeO.none _
      | refine LeO.ite ?_ ?_
      | refine LeO.bind ?_ (fun _ => ?_)
theorem laws_FnExactStepsAtSide.mono : ∀ a0 a1 a2 a3 k, LeO (laws_FnExactStepsAtSide.f k a0 a1 a2 a3) (laws_FnExactStepsAtSide.f (k + 1) a0 a1 a2 a3) := by
  intro a0 a1 a2 a3 k
  obtain ⟨ih0, ih1⟩ := laws_FnExactStepsAtSide.mono_l k
  unfold laws_FnExactStepsAtSide.f
  repeat' first
      | (with_reducible exact ih0 _ _ _ _ _ _ _ _)
      | (with_reducible exact ih1 _ _ _)
      | (with_reducible exact impl_StepsAtSide.mono _ _ _ _ _)
      | (with_reducible exact laws_eqIntS.mono _ _ _)
      | (with_reducible exact laws_heldIntS.mono _ _ _)
      | (with_reducible exact laws_markIntS.mono _ _ _)
      | (with_reducible exact spec_StepsAtSide.mono _ _ _ _ _)
      | (with_reducible exact LeO.refl _)
      | (with_reducible exact LeO.none _)
      | (with_reducible refine LeO.ite ?_ ?_)
      | (with_reducible refine LeO.bind ?_ (fun _ => ?_))
      | exact ih0 _ _ _ _ _ _ _ _
      | exact ih1 _ _ _
      | exact impl_StepsAtSide.mono _ _ _ _ _
      | exact laws_eqIntS.mono _ _ _
      | exact laws_heldIntS.mono _ _ _
      | exact laws_markIntS.mono _ _ _
      | exact spec_StepsAtSide.mono _ _ _ _ _
      | exact LeO.none _
      | refine LeO.ite ?_ ?_
      | refine LeO.bind ?_ (fun _ => ?_)
set_option maxHeartbeats 8000000 in
set_option maxRecDepth 100000 in
theorem laws_FnExactStepsAtSide.calls (k : Nat) (a0_0 : Int) (a0_1 : Int) (a0_2 : Int) (a1 : ByteArray) (r : Bool) (w : World) (h : laws_FnExactStepsAtSide.f k a0_0 a0_1 a0_2 a1 = some r) :
    Calls Try.prog 11 #[.agg #[.int .i64 a0_0, .int .i64 a0_1, .int .i64 a0_2], .string a1] w fun e w' => e = .returned (.bool r) ∧ Below w.heap.size w w' := by
  have hu51 := Try.underlying51
  have HB := Aside0.mk (Below.refl w.heap.size w)
  have H : (if (a1.size : Int) > 1048576 then (some true) else ((laws_toSpiral.f a0_0 a0_1 a0_2).bind fun bt127 => ((spec_StepsAtSide.f k bt127.1 bt127.2.1 bt127.2.2 a1).bind fun bt130 => ((laws_toSpiral.f a0_0 a0_1 a0_2).bind fun bt134 => ((impl_StepsAtSide.f k bt134.1 bt134.2.1 bt134.2.2 a1).bind fun bt137 => ((laws_eqIntS.f k bt137.1 bt130.1).bind fun t141 => (if t141 = true then (laws_FnExactStepsAtSide.j0 k a1 bt130.1 bt130.2 bt137.1 (bt137.2 != bt130.2) a0_0 a0_1 a0_2) else (laws_FnExactStepsAtSide.j0 k a1 bt130.1 bt130.2 bt137.1 true a0_0 a0_1 a0_2)))))))) = some r := h
  clear h
  by_cases c3 : (a1.size : Int) > 1048576
  · rw [if_pos c3] at H
    have c3b0 : decide (1048576 < (a1.size : Int)) = true := decide_eq_true c3
    have c3b1 : decide (1048576 < a1.size) = true := decide_eq_true (by omega)
    clear c3
    obtain rfl := Option.some.inj H
    go_enter Try.func11, Try.ntmps11
    go_wp2_with (first | ((with_reducible refine gate_dst (N := 2) rfl ?_); refine box_event ?hg (N := 2) ?hd (cs := #[.int .i64 a0_0, .int .i64 a0_1, .int .i64 a0_2]) (t := 51) ?hr ?_; (case hd => rfl); (case hg => rfl); (case hr => first | (go_simp; done) | (go_simp; rfl)); intro gb126 hg w4 hbox hb; have n0_ := Aside0.mk (below_step (by repeat (first | (with_reducible first | exact HB.out | apply below_alloc | apply pw_below_drewN | apply below_drew1) | exact HB.out)) hb); have n1_ := Aside0.mk (hbox); have n2_ := Aside0.mk ((by rw [hg]; exact (below_size (by repeat (first | (with_reducible first | exact HB.out | apply below_alloc | apply pw_below_drewN | apply below_drew1) | exact HB.out))) : w.heap.size ≤ gb126)); have n3_ := Aside0.mk ((by rw [hg]; exact (below_size (by repeat (first | (with_reducible first | exact HB.out | apply below_alloc | apply pw_below_drewN | apply below_drew1) | exact HB.out))) : w.heap.size ≤ gb126)); clear HB; have HB := n0_; have BK126 := n1_; have GW126 := n2_; have GE126 := n3_; clear n0_ n1_ n2_ n3_; clear hb hbox hg))
    go_ret
    exact ⟨by first | rfl | (simp [errW_none, errW_some] <;> rfl) | (simp [*, errW_none, errW_some] <;> rfl), by repeat (first | (with_reducible first | exact HB.out | apply below_alloc | apply pw_below_drewN | apply below_drew1 | refine below_set ?_ GE126.out) | exact HB.out)⟩
  · rw [if_neg c3] at H
    have c3b0 : decide (1048576 < (a1.size : Int)) = false := decide_eq_false c3
    have c3b1 : decide (1048576 < a1.size) = false := decide_eq_false (by omega)
    clear c3
    replace H := Option.bind_eq_some_iff.mp H
    obtain ⟨⟨t127, t128, t129⟩, A50, H⟩ := H
    replace H : ((spec_StepsAtSide.f k t127 t128 t129 a1).bind fun bt130 => ((laws_toSpiral.f a0_0 a0_1 a0_2).bind fun bt134 => ((impl_StepsAtSide.f k bt134.1 bt134.2.1 bt134.2.2 a1).bind fun bt137 => ((laws_eqIntS.f k bt137.1 bt130.1).bind fun t141 => (if t141 = true then (laws_FnExactStepsAtSide.j0 k a1 bt130.1 bt130.2 bt137.1 (bt137.2 != bt130.2) a0_0 a0_1 a0_2) else (laws_FnExactStepsAtSide.j0 k a1 bt130.1 bt130.2 bt137.1 true a0_0 a0_1 a0_2)))))) = some r := H
    have A5 := Aside0.mk A50
    clear A50
    replace H := Option.bind_eq_some_iff.mp H
    obtain ⟨⟨t130, t133⟩, A60, H⟩ := H
    replace H : ((laws_toSpiral.f a0_0 a0_1 a0_2).bind fun bt134 => ((impl_StepsAtSide.f k bt134.1 bt134.2.1 bt134.2.2 a1).bind fun bt137 => ((laws_eqIntS.f k bt137.1 t130).bind fun t141 => (if t141 = true then (laws_FnExactStepsAtSide.j0 k a1 t130 t133 bt137.1 (bt137.2 != t133) a0_0 a0_1 a0_2) else (laws_FnExactStepsAtSide.j0 k a1 t130 t133 bt137.1 true a0_0 a0_1 a0_2))))) = some r := H
    have A6 := Aside0.mk A60
    clear A60
    replace H := Option.bind_eq_some_iff.mp H
    obtain ⟨⟨t134, t135, t136⟩, A70, H⟩ := H
    replace H : ((impl_StepsAtSide.f k t134 t135 t136 a1).bind fun bt137 => ((laws_eqIntS.f k bt137.1 t130).bind fun t141 => (if t141 = true then (laws_FnExactStepsAtSide.j0 k a1 t130 t133 bt137.1 (bt137.2 != t133) a0_0 a0_1 a0_2) else (laws_FnExactStepsAtSide.j0 k a1 t130 t133 bt137.1 true a0_0 a0_1 a0_2)))) = some r := H
    have A7 := Aside0.mk A70
    clear A70
    replace H := Option.bind_eq_some_iff.mp H
    obtain ⟨⟨t137, t140⟩, A80, H⟩ := H
    replace H : ((laws_eqIntS.f k t137 t130).bind fun t141 => (if t141 = true then (laws_FnExactStepsAtSide.j0 k a1 t130 t133 t137 (t140 != t133) a0_0 a0_1 a0_2) else (laws_FnExactStepsAtSide.j0 k a1 t130 t133 t137 true a0_0 a0_1 a0_2))) = some r := H
    have A8 := Aside0.mk A80
    clear A80
    have HC9 := Aside0.mk H
    clear H
    go_enter Try.func11, Try.ntmps11
    go_upto_region 5 with (first | ((with_reducible refine gate_dst (N := 2) rfl ?_); refine box_event ?hg (N := 2) ?hd (cs := #[.int .i64 a0_0, .int .i64 a0_1, .int .i64 a0_2]) (t := 51) ?hr ?_; (case hd => rfl); (case hg => rfl); (case hr => first | (go_simp; done) | (go_simp; rfl)); intro gb126 hg w10 hbox hb; have n0_ := Aside0.mk (below_step (by repeat (first | (with_reducible first | exact HB.out | apply below_alloc | apply pw_below_drewN | apply below_drew1) | exact HB.out)) hb); have n1_ := Aside0.mk (hbox); have n2_ := Aside0.mk ((by rw [hg]; exact (below_size (by repeat (first | (with_reducible first | exact HB.out | apply below_alloc | apply pw_below_drewN | apply below_drew1) | exact HB.out))) : w.heap.size ≤ gb126)); have n3_ := Aside0.mk ((by rw [hg]; exact (below_size (by repeat (first | (with_reducible first | exact HB.out | apply below_alloc | apply pw_below_drewN | apply below_drew1) | exact HB.out))) : w.heap.size ≤ gb126)); clear HB; have HB := n0_; have BK126 := n1_; have GW126 := n2_; have GE126 := n3_; clear n0_ n1_ n2_ n3_; clear hb hbox hg; have hcz11_0 : w10.cell? ⟨gb126, 0, none⟩ = some (.int .i64 a0_0) := (blk_cell BK126.out 0).trans rfl; have hcz11_1 : w10.cell? ⟨gb126, 1, none⟩ = some (.int .i64 a0_1) := (blk_cell BK126.out 1).trans rfl; have hcz11_2 : w10.cell? ⟨gb126, 2, none⟩ = some (.int .i64 a0_2) := (blk_cell BK126.out 2).trans rfl; have hfz11_0 := blk_frozen BK126.out 0; have hfz11_1 := blk_frozen BK126.out 1; have hfz11_2 := blk_frozen BK126.out 2) | ((with_reducible refine gate_callee (f := 40) rfl ?_); refine goesL_ (some 18) rfl rfl Try.func40 (by kernel_rfl) rfl #[.agg #[.int .i64 a0_0, .int .i64 a0_1, .int .i64 a0_2]] rfl (by (try simp only [List.map_toArray, List.map_cons, List.map_nil]); first | done | rfl | (simp only [List.length_drop, List.length_take]; rfl)) ?_; (with_reducible refine (laws_toSpiral.calls a0_0 a0_1 a0_2 t127 t128 t129 _ A5.out).mono ?_); rintro e w12 ⟨rfl, hb⟩; refine ⟨_, rfl, ?_⟩; have n0_ := Aside0.mk (blk_below (g := gb126) (o := .cells #[.int .i64 a0_0, .int .i64 a0_1, .int .i64 a0_2] 51 (0, 0)) (by (with_reducible repeat (first | refine blk_drewN ?_ _ | refine blk_drew ?_ | refine blk_alloc ?_ _)); exact BK126.out) hb); have n1_ := Aside0.mk (below_step (by repeat (first | (with_reducible first | exact HB.out | apply below_alloc | apply pw_below_drewN | apply below_drew1 | refine below_set ?_ GE126.out) | exact HB.out)) hb); clear BK126; clear HB; have BK126 := n0_; have HB := n1_; clear n0_ n1_; (try clear hb); (try clear hb2); (try clear hk); (try clear hi)) | ((with_reducible refine gate_callee (f := 39) rfl ?_); refine goesL_ (some 20) rfl rfl Try.func39 (by kernel_rfl) rfl #[.agg #[.int .i64 t127, .int .i64 t128, .int .i64 t129], .string a1] rfl (by (try simp only [List.map_toArray, List.map_cons, List.map_nil]); first | done | rfl | (simp only [List.length_drop, List.length_take]; rfl)) ?_; (with_reducible refine (spec_StepsAtSide.calls k t127 t128 t129 a1 t130 t133 _ A6.out).mono ?_); rintro e w13 ⟨v131, rfl, ho0, hb⟩; refine ⟨_, rfl, ?_⟩; have n0_ := Aside0.mk (Kd.R_lower ho0 (below_size (by repeat (first | (with_reducible first | exact HB.out | apply below_alloc | apply pw_below_drewN | apply below_drew1 | refine below_set ?_ GE126.out) | exact HB.out)))); have n1_ := Aside0.mk (blk_below (g := gb126) (o := .cells #[.int .i64 a0_0, .int .i64 a0_1, .int .i64 a0_2] 51 (0, 0)) (by (with_reducible repeat (first | refine blk_drewN ?_ _ | refine blk_drew ?_ | refine blk_alloc ?_ _)); exact BK126.out) hb); have n2_ := Aside0.mk (below_step (by repeat (first | (with_reducible first | exact HB.out | apply below_alloc | apply pw_below_drewN | apply below_drew1 | refine below_set ?_ GE126.out) | exact HB.out)) hb); clear BK126; clear HB; have HO132 := n0_; have BK126 := n1_; have HB := n2_; clear n0_ n1_ n2_; (try clear hb); (try clear hb2); (try clear hk); (try clear hi); (try clear ho0); have hcz14_0 : w13.cell? ⟨gb126, 0, none⟩ = some (.int .i64 a0_0) := (blk_cell BK126.out 0).trans rfl; have hcz14_1 : w13.cell? ⟨gb126, 1, none⟩ = some (.int .i64 a0_1) := (blk_cell BK126.out 1).trans rfl; have hcz14_2 : w13.cell? ⟨gb126, 2, none⟩ = some (.int .i64 a0_2) := (blk_cell BK126.out 2).trans rfl; have hfz14_0 := blk_frozen BK126.out 0; have hfz14_1 := blk_frozen BK126.out 1; have hfz14_2 := blk_frozen BK126.out 2) | ((with_reducible refine gate_callee (f := 40) rfl ?_); refine goesL_ (some 25) rfl rfl Try.func40 (by kernel_rfl) rfl #[.agg #[.int .i64 a0_0, .int .i64 a0_1, .int .i64 a0_2]] rfl (by (try simp only [List.map_toArray, List.map_cons, List.map_nil]); first | done | rfl | (simp only [List.length_drop, List.length_take]; rfl)) ?_; (with_reducible refine (laws_toSpiral.calls a0_0 a0_1 a0_2 t134 t135 t136 _ A7.out).mono ?_); rintro e w15 ⟨rfl, hb⟩; refine ⟨_, rfl, ?_⟩; have n0_ := Aside0.mk (Kd.R_below (by (with_reducible repeat (first | apply Kd.R_alloc | apply Kd.R_drewN | apply Kd.R_drew)); exact HO132.out) hb); have n1_ := Aside0.mk (blk_below (g := gb126) (o := .cells #[.int .i64 a0_0, .int .i64 a0_1, .int .i64 a0_2] 51 (0, 0)) (by (with_reducible repeat (first | refine blk_drewN ?_ _ | refine blk_drew ?_ | refine blk_alloc ?_ _)); exact BK126.out) hb); have n2_ := Aside0.mk (below_step (by repeat (first | (with_reducible first | exact HB.out | apply below_alloc | apply pw_below_drewN | apply below_drew1 | refine below_set ?_ GE126.out) | exact HB.out)) hb); clear HO132; clear BK126; clear HB; have HO132 := n0_; have BK126 := n1_; have HB := n2_; clear n0_ n1_ n2_; (try clear hb); (try clear hb2); (try clear hk); (try clear hi)) | ((with_reducible refine gate_callee (f := 41) rfl ?_); refine goesL_ (some 27) rfl rfl Try.func41 (by kernel_rfl) rfl #[.agg #[.int .i64 t134, .int .i64 t135, .int .i64 t136], .string a1] rfl (by (try simp only [List.map_toArray, List.map_cons, List.map_nil]); first | done | rfl | (simp only [List.length_drop, List.length_take]; rfl)) ?_; (with_reducible refine (impl_StepsAtSide.calls k t134 t135 t136 a1 t137 t140 _ A8.out).mono ?_); rintro e w16 ⟨v138, rfl, ho0, hb⟩; refine ⟨_, rfl, ?_⟩; have n0_ := Aside0.mk (Kd.R_elder' (by (with_reducible repeat (first | apply Kd.R_alloc | apply Kd.R_drewN | apply Kd.R_drew)); exact HO132.out) (Kd.R_base ho0) hb); have n1_ := Aside0.mk (Kd.R_lower (Kd.R_new' ho0 (Kd.R_lt (by (with_reducible repeat (first | apply Kd.R_alloc | apply Kd.R_drewN | apply Kd.R_drew)); exact HO132.out))) (below_size (by repeat (first | (with_reducible first | exact HB.out | apply below_alloc | apply pw_below_drewN | apply below_drew1 | refine below_set ?_ GE126.out) | exact HB.out)))); have n2_ := Aside0.mk (blk_below (g := gb126) (o := .cells #[.int .i64 a0_0, .int .i64 a0_1, .int .i64 a0_2] 51 (0, 0)) (by (with_reducible repeat (first | refine blk_drewN ?_ _ | refine blk_drew ?_ | refine blk_alloc ?_ _)); exact BK126.out) hb); have n3_ := Aside0.mk (below_step (by repeat (first | (with_reducible first | exact HB.out | apply below_alloc | apply pw_below_drewN | apply below_drew1 | refine below_set ?_ GE126.out) | exact HB.out)) hb); clear HO132; clear BK126; clear HB; have HO132 := n0_; have HO139 := n1_; have BK126 := n2_; have HB := n3_; clear n0_ n1_ n2_ n3_; (try clear hb); (try clear hb2); (try clear hk); (try clear hi); (try clear ho0)))
    (try simp only [Act.put, List.setIfInBounds_toArray, List.set_cons_zero, List.set_cons_succ])
    go_cut [38] (fun v38 wc => ∃ (kq : Nat) (x38_8 : Bool), v38 = .bool x38_8 ∧ Aside0 (laws_FnExactStepsAtSide.j0 kq a1 t130 t133 t137 x38_8 a0_0 a0_1 a0_2 = some r) ∧ Aside0 (kq ≤ k) ∧ Aside0 (Kd.R (Kd.int .i64) 3 wc w.heap.size (fun k_ => some k_ ≠ (v138 : Value).ownBlock) v131 t130) ∧ Aside0 (Kd.R (Kd.int .i64) 3 wc w.heap.size (fun k_ => some k_ ≠ (v131 : Value).ownBlock) v138 t137) ∧ Aside0 (wc.heap[gb126]? = some (.cells #[.int .i64 a0_0, .int .i64 a0_1, .int .i64 a0_2] 51 (0, 0))) ∧ Aside0 (Below w.heap.size w wc))
    case first =>
      have H := HC9.out
      clear HC9
      replace H := Option.bind_eq_some_iff.mp H
      obtain ⟨t141, A170, H⟩ := H
      replace H : (if t141 = true then (laws_FnExactStepsAtSide.j0 k a1 t130 t133 t137 (t140 != t133) a0_0 a0_1 a0_2) else (laws_FnExactStepsAtSide.j0 k a1 t130 t133 t137 true a0_0 a0_1 a0_2)) = some r := H
      have A17 := Aside0.mk A170
      clear A170
      by_cases c18 : t141 = true
      · subst c18
        have H1 : (laws_FnExactStepsAtSide.j0 k a1 t130 t133 t137 (t140 != t133) a0_0 a0_1 a0_2) = some r := by rw [if_pos rfl] at H; exact H
        clear H
        have H := H1
        clear H1
        have H' := Aside0.mk H
        clear H
        obtain ⟨Ao19, co19, eo19⟩ := Kd.R_slice HO139.out
        subst eo19
        obtain ⟨Ao20, co20, eo20⟩ := Kd.R_slice HO132.out
        subst eo20
        go_wp2_with (first | ((with_reducible refine gate_callee (f := 18) rfl ?_); refine goesL_ (some 32) rfl rfl Try.func18 (by kernel_rfl) rfl #[.slice Ao19 t137.length co19, .slice Ao20 t130.length co20] rfl (by (try simp only [List.map_toArray, List.map_cons, List.map_nil]); first | done | rfl | (simp only [List.length_drop, List.length_take]; rfl)) ?_; (with_reducible refine (laws_eqIntS.calls k _ _ t137 _ _ t130 true _ ?side1 ?side2 ?side3 ?side4 A17.out).mono ?_); (case side1 => repeat (first | exact (Kd.R_reads' HO139.out).2.2 | (with_reducible refine Kd.C_alloc ?_ _) | (with_reducible refine Kd.C_drewN ?_ _) | (with_reducible refine Kd.C_drew ?_))); (case side2 => exact (Kd.R_reads' HO139.out).2.1); (case side3 => repeat (first | exact (Kd.R_reads' HO132.out).2.2 | (with_reducible refine Kd.C_alloc ?_ _) | (with_reducible refine Kd.C_drewN ?_ _) | (with_reducible refine Kd.C_drew ?_))); (case side4 => exact (Kd.R_reads' HO132.out).2.1); rintro e w' ⟨rfl, ⟨nd, rfl⟩⟩; refine ⟨_, rfl, ?_⟩))
        go_meet
        case rel => exact ⟨_, ((t140 != t133)), (by first | rfl | (simp; done) | (simp [*]; done)), H', ⟨by first | omega | exact Nat.le_refl _⟩, ⟨by (with_reducible repeat (first | apply Kd.R_alloc | apply Kd.R_drewN | apply Kd.R_drew)); exact Kd.R_mono HO132.out (fun _ hk => hk.2)⟩, ⟨by (with_reducible repeat (first | apply Kd.R_alloc | apply Kd.R_drewN | apply Kd.R_drew)); exact Kd.R_mono HO139.out (fun _ hk => hk.2)⟩, ⟨by (with_reducible repeat (first | refine blk_drewN ?_ _ | refine blk_drew ?_ | refine blk_alloc ?_ _)); exact BK126.out⟩, ⟨by repeat (first | (with_reducible first | exact HB.out | apply below_alloc | apply pw_below_drewN | apply below_drew1 | refine below_set ?_ GE126.out) | exact HB.out)⟩⟩
      · replace c18 := Bool.eq_false_iff.mpr c18
        subst c18
        have H1 : (laws_FnExactStepsAtSide.j0 k a1 t130 t133 t137 true a0_0 a0_1 a0_2) = some r := by rw [if_neg (show ¬ (false = true) by decide)] at H; exact H
        clear H
        have H := H1
        clear H1
        have H' := Aside0.mk H
        clear H
        obtain ⟨Ao21, co21, eo21⟩ := Kd.R_slice HO139.out
        subst eo21
        obtain ⟨Ao22, co22, eo22⟩ := Kd.R_slice HO132.out
        subst eo22
        go_wp2_with (first | ((with_reducible refine gate_callee (f := 18) rfl ?_); refine goesL_ (some 32) rfl rfl Try.func18 (by kernel_rfl) rfl #[.slice Ao21 t137.length co21, .slice Ao22 t130.length co22] rfl (by (try simp only [List.map_toArray, List.map_cons, List.map_nil]); first | done | rfl | (simp only [List.length_drop, List.length_take]; rfl)) ?_; (with_reducible refine (laws_eqIntS.calls k _ _ t137 _ _ t130 false _ ?side1 ?side2 ?side3 ?side4 A17.out).mono ?_); (case side1 => repeat (first | exact (Kd.R_reads' HO139.out).2.2 | (with_reducible refine Kd.C_alloc ?_ _) | (with_reducible refine Kd.C_drewN ?_ _) | (with_reducible refine Kd.C_drew ?_))); (case side2 => exact (Kd.R_reads' HO139.out).2.1); (case side3 => repeat (first | exact (Kd.R_reads' HO132.out).2.2 | (with_reducible refine Kd.C_alloc ?_ _) | (with_reducible refine Kd.C_drewN ?_ _) | (with_reducible refine Kd.C_drew ?_))); (case side4 => exact (Kd.R_reads' HO132.out).2.1); rintro e w' ⟨rfl, ⟨nd, rfl⟩⟩; refine ⟨_, rfl, ?_⟩))
        go_meet
        case rel => exact ⟨_, (true), (by first | rfl | (simp; done) | (simp [*]; done)), H', ⟨by first | omega | exact Nat.le_refl _⟩, ⟨by (with_reducible repeat (first | apply Kd.R_alloc | apply Kd.R_drewN | apply Kd.R_drew)); exact Kd.R_mono HO132.out (fun _ hk => hk.2)⟩, ⟨by (with_reducible repeat (first | apply Kd.R_alloc | apply Kd.R_drewN | apply Kd.R_drew)); exact Kd.R_mono HO139.out (fun _ hk => hk.2)⟩, ⟨by (with_reducible repeat (first | refine blk_drewN ?_ _ | refine blk_drew ?_ | refine blk_alloc ?_ _)); exact BK126.out⟩, ⟨by repeat (first | (with_reducible first | exact HB.out | apply below_alloc | apply pw_below_drewN | apply below_drew1 | refine below_set ?_ GE126.out) | exact HB.out)⟩⟩
    case rest =>
      clear HC9
      try clear c1
      try clear p2
      try clear c3
      try clear c3b0
      try clear c3b1
      try clear c4
      try clear c11
      try clear c18
      try clear hcz11_0
      try clear hcz11_1
      try clear hcz11_2
      try clear hcz14_0
      try clear hcz14_1
      try clear hcz14_2
      try clear hfz11_0
      try clear hfz11_1
      try clear hfz11_2
      try clear hfz14_0
      try clear hfz14_1
      try clear hfz14_2
      obtain ⟨kq, x38_8, rfl, HA, HJ8, HO_5, HO_7, BK126, HB⟩ := hcut
      cases kq with
      | zero => exact absurd HA.out (by simp [laws_FnExactStepsAtSide.j0])
      | succ kj8 =>
        have H := HA.out
        clear HA
        simp only [laws_FnExactStepsAtSide.j0] at H
        by_cases c23 : x38_8 = true
        · subst c23
          have H1 : (some false) = some r := by rw [if_pos rfl] at H; exact H
          clear H
          have H := H1
          clear H1
          obtain rfl := Option.some.inj H
          go_wp2
          go_ret
          exact ⟨by first | rfl | (simp [errW_none, errW_some] <;> rfl) | (simp [*, errW_none, errW_some] <;> rfl), by repeat (first | (with_reducible first | exact HB.out | apply below_alloc | apply pw_below_drewN | apply below_drew1 | refine below_set ?_ GE126.out) | exact HB.out)⟩
        · replace c23 := Bool.eq_false_iff.mpr c23
          subst c23
          have H1 : ((laws_markIntS.f kj8 t137 1).bind fun bt142 => ((laws_heldIntS.f kj8 bt142.2 1).bind fun t144 => (if t144 < 0 then (some false) else (if t144 = bt142.1 then ((laws_toSpiral.f a0_0 a0_1 a0_2).bind fun bt145 => ((impl_StepsAtSide.f kj8 bt145.1 bt145.2.1 bt145.2.2 a1).bind fun bt148 => ((laws_eqIntS.f kj8 bt148.1 t130).bind fun t152 => (if t152 = true then (laws_FnExactStepsAtSide.j1 kj8 bt142.2 bt142.1 (bt148.2 != t133)) else (laws_FnExactStepsAtSide.j1 kj8 bt142.2 bt142.1 true))))) else (some false))))) = some r := by rw [if_neg (show ¬ (false = true) by decide)] at H; exact H
          clear H
          have H := H1
          clear H1
          replace H := Option.bind_eq_some_iff.mp H
          obtain ⟨⟨t142, t143⟩, A240, H⟩ := H
          replace H : ((laws_heldIntS.f kj8 t143 1).bind fun t144 => (if t144 < 0 then (some false) else (if t144 = t142 then ((laws_toSpiral.f a0_0 a0_1 a0_2).bind fun bt145 => ((impl_StepsAtSide.f kj8 bt145.1 bt145.2.1 bt145.2.2 a1).bind fun bt148 => ((laws_eqIntS.f kj8 bt148.1 t130).bind fun t152 => (if t152 = true then (laws_FnExactStepsAtSide.j1 kj8 t143 t142 (bt148.2 != t133)) else (laws_FnExactStepsAtSide.j1 kj8 t143 t142 true))))) else (some false)))) = some r := H
          have A24 := Aside0.mk A240
          clear A240
          replace H := Option.bind_eq_some_iff.mp H
          obtain ⟨t144, A250, H⟩ := H
          replace H : (if t144 < 0 then (some false) else (if t144 = t142 then ((laws_toSpiral.f a0_0 a0_1 a0_2).bind fun bt145 => ((impl_StepsAtSide.f kj8 bt145.1 bt145.2.1 bt145.2.2 a1).bind fun bt148 => ((laws_eqIntS.f kj8 bt148.1 t130).bind fun t152 => (if t152 = true then (laws_FnExactStepsAtSide.j1 kj8 t143 t142 (bt148.2 != t133)) else (laws_FnExactStepsAtSide.j1 kj8 t143 t142 true))))) else (some false))) = some r := H
          have A25 := Aside0.mk A250
          clear A250
          by_cases c26 : t144 < 0
          · rw [if_pos c26] at H
            have c26b0 : decide (t144 < 0) = true := decide_eq_true c26
            clear c26
            obtain rfl := Option.some.inj H
            obtain ⟨Ao27, co27, eo27⟩ := Kd.R_slice HO_7.out
            subst eo27
            go_wp2_with (first | ((with_reducible refine gate_callee (f := 29) rfl ?_); refine goesL_ (some 41) rfl rfl Try.func29 (by kernel_rfl) rfl #[.slice Ao27 t137.length co27, .int .i64 1] rfl (by (try simp only [List.map_toArray, List.map_cons, List.map_nil]); first | done | rfl | (simp only [List.length_drop, List.length_take]; rfl)) ?_; (with_reducible refine (laws_markIntS.calls kj8 (fun k_ => some k_ = (.slice Ao27 t137.length co27 : Value).ownBlock) (.slice Ao27 t137.length co27) t137 1 t142 t143 w _ ?side1 ?side2 A24.out).mono ?_); (case side1 => repeat (first | (with_reducible first | exact HB.out | apply below_alloc | apply pw_below_drewN | apply below_drew1 | refine below_set ?_ GE126.out) | exact HB.out)); (case side2 => exact Kd.R_tight rfl HO_7.out); rintro e w28 ⟨rfl, hy0, hb, hkp⟩; refine ⟨_, rfl, ?_⟩; have n0_ := Aside0.mk (Kd.R_mono (ok' := fun k_ => some k_ ≠ (.slice Ao27 t137.length co27 : Value).ownBlock) (Kd.R_keptB (HO_5.out) hkp (fun k_ hk_ hs_ => (hk_) hs_)) (fun k_ hk_ => hk_.1)); have n1_ := Aside0.mk (Kd.R_reok rfl hy0 (fun k_ e_ => HO_7.out.1 k_ e_)); have n2_ := Aside0.mk (blk_kept (by (with_reducible repeat (first | refine blk_drewN ?_ _ | refine blk_drew ?_ | refine blk_alloc ?_ _)); exact BK126.out) hkp (fun hs_ => (fun e_ => (Kd.R_ne HO_7.out BK126.out (by decide)) e_) hs_)); have n3_ := Aside0.mk (hb); clear HO_5; clear HO_7; clear BK126; clear HB; have HO_5 := n0_; have HO_7 := n1_; have BK126 := n2_; have HB := n3_; clear n0_ n1_ n2_ n3_; (try clear hb); (try clear hkp); (try clear hy0)) | ((with_reducible refine gate_callee (f := 30) rfl ?_); refine goesL_ (some 44) rfl rfl Try.func30 (by kernel_rfl) rfl #[.slice Ao27 t143.length co27, .int .i64 1] rfl (by (try simp only [List.map_toArray, List.map_cons, List.map_nil]); first | done | (rw [show t143.length = t137.length from (Kd.R_reads' HO_7.out).1.symm] <;> rfl) | rfl | (simp only [List.length_drop, List.length_take]; rfl)) ?_; (with_reducible refine (laws_heldIntS.calls kj8 _ _ t143 1 t144 _ ?side1 ?side2 A25.out).mono ?_); (case side1 => repeat (first | exact (Kd.R_reads' HO_7.out).2.2 | (with_reducible refine Kd.C_alloc ?_ _) | (with_reducible refine Kd.C_drewN ?_ _) | (with_reducible refine Kd.C_drew ?_))); (case side2 => rw [show t143.length = t137.length from (Kd.R_reads' HO_7.out).1.symm]; exact (Kd.R_reads' HO_7.out).2.1); rintro e w' ⟨rfl, ⟨nd, rfl⟩⟩; refine ⟨_, rfl, ?_⟩))
            go_ret
            exact ⟨by first | rfl | (simp [errW_none, errW_some] <;> rfl) | (simp [*, errW_none, errW_some] <;> rfl), by repeat (first | (with_reducible first | exact HB.out | apply below_alloc | apply pw_below_drewN | apply below_drew1 | refine below_set ?_ GE126.out) | exact HB.out)⟩
          · rw [if_neg c26] at H
            have c26b0 : decide (t144 < 0) = false := decide_eq_false c26
            clear c26
            by_cases c29 : t144 = t142
            · rw [if_pos c29] at H
              have c29b0 : (t144 == t142) = true := beq_iff_eq.mpr c29
              have c29b1 : (t144 != t142) = false := bne_eq_false_iff_eq.mpr c29
              clear c29
              replace H := Option.bind_eq_some_iff.mp H
              obtain ⟨⟨t145, t146, t147⟩, A300, H⟩ := H
              replace H : ((impl_StepsAtSide.f kj8 t145 t146 t147 a1).bind fun bt148 => ((laws_eqIntS.f kj8 bt148.1 t130).bind fun t152 => (if t152 = true then (laws_FnExactStepsAtSide.j1 kj8 t143 t142 (bt148.2 != t133)) else (laws_FnExactStepsAtSide.j1 kj8 t143 t142 true)))) = some r := H
              have A30 := Aside0.mk A300
              clear A300
              replace H := Option.bind_eq_some_iff.mp H
              obtain ⟨⟨t148, t151⟩, A310, H⟩ := H
              replace H : ((laws_eqIntS.f kj8 t148 t130).bind fun t152 => (if t152 = true then (laws_FnExactStepsAtSide.j1 kj8 t143 t142 (t151 != t133)) else (laws_FnExactStepsAtSide.j1 kj8 t143 t142 true))) = some r := H
              have A31 := Aside0.mk A310
              clear A310
              have HC32 := Aside0.mk H
              clear H
              obtain ⟨Ao33, co33, eo33⟩ := Kd.R_slice HO_7.out
              subst eo33
              go_upto_region 16 with (first | ((with_reducible refine gate_callee (f := 29) rfl ?_); refine goesL_ (some 41) rfl rfl Try.func29 (by kernel_rfl) rfl #[.slice Ao33 t137.length co33, .int .i64 1] rfl (by (try simp only [List.map_toArray, List.map_cons, List.map_nil]); first | done | rfl | (simp only [List.length_drop, List.length_take]; rfl)) ?_; (with_reducible refine (laws_markIntS.calls kj8 (fun k_ => some k_ = (.slice Ao33 t137.length co33 : Value).ownBlock) (.slice Ao33 t137.length co33) t137 1 t142 t143 w _ ?side1 ?side2 A24.out).mono ?_); (case side1 => repeat (first | (with_reducible first | exact HB.out | apply below_alloc | apply pw_below_drewN | apply below_drew1 | refine below_set ?_ GE126.out) | exact HB.out)); (case side2 => exact Kd.R_tight rfl HO_7.out); rintro e w34 ⟨rfl, hy0, hb, hkp⟩; refine ⟨_, rfl, ?_⟩; have n0_ := Aside0.mk (Kd.R_mono (ok' := fun k_ => some k_ ≠ (.slice Ao33 t137.length co33 : Value).ownBlock) (Kd.R_keptB (HO_5.out) hkp (fun k_ hk_ hs_ => (hk_) hs_)) (fun k_ hk_ => hk_.1)); have n1_ := Aside0.mk (Kd.R_reok rfl hy0 (fun k_ e_ => HO_7.out.1 k_ e_)); have n2_ := Aside0.mk (blk_kept (by (with_reducible repeat (first | refine blk_drewN ?_ _ | refine blk_drew ?_ | refine blk_alloc ?_ _)); exact BK126.out) hkp (fun hs_ => (fun e_ => (Kd.R_ne HO_7.out BK126.out (by decide)) e_) hs_)); have n3_ := Aside0.mk (hb); clear HO_5; clear HO_7; clear BK126; clear HB; have HO_5 := n0_; have HO_7 := n1_; have BK126 := n2_; have HB := n3_; clear n0_ n1_ n2_ n3_; (try clear hb); (try clear hkp); (try clear hy0)) | ((with_reducible refine gate_callee (f := 30) rfl ?_); refine goesL_ (some 44) rfl rfl Try.func30 (by kernel_rfl) rfl #[.slice Ao33 t143.length co33, .int .i64 1] rfl (by (try simp only [List.map_toArray, List.map_cons, List.map_nil]); first | done | (rw [show t143.length = t137.length from (Kd.R_reads' HO_7.out).1.symm] <;> rfl) | rfl | (simp only [List.length_drop, List.length_take]; rfl)) ?_; (with_reducible refine (laws_heldIntS.calls kj8 _ _ t143 1 t144 _ ?side1 ?side2 A25.out).mono ?_); (case side1 => repeat (first | exact (Kd.R_reads' HO_7.out).2.2 | (with_reducible refine Kd.C_alloc ?_ _) | (with_reducible refine Kd.C_drewN ?_ _) | (with_reducible refine Kd.C_drew ?_))); (case side2 => rw [show t143.length = t137.length from (Kd.R_reads' HO_7.out).1.symm]; exact (Kd.R_reads' HO_7.out).2.1); rintro e w' ⟨rfl, ⟨nd, rfl⟩⟩; refine ⟨_, rfl, ?_⟩; have hcz35_0 : w34.cell? ⟨gb126, 0, none⟩ = some (.int .i64 a0_0) := (blk_cell BK126.out 0).trans rfl; have hcz35_1 : w34.cell? ⟨gb126, 1, none⟩ = some (.int .i64 a0_1) := (blk_cell BK126.out 1).trans rfl; have hcz35_2 : w34.cell? ⟨gb126, 2, none⟩ = some (.int .i64 a0_2) := (blk_cell BK126.out 2).trans rfl; have hfz35_0 := blk_frozen BK126.out 0; have hfz35_1 := blk_frozen BK126.out 1; have hfz35_2 := blk_frozen BK126.out 2) | ((with_reducible refine gate_callee (f := 40) rfl ?_); refine goesL_ (some 52) rfl rfl Try.func40 (by kernel_rfl) rfl #[.agg #[.int .i64 a0_0, .int .i64 a0_1, .int .i64 a0_2]] rfl (by (try simp only [List.map_toArray, List.map_cons, List.map_nil]); first | done | rfl | (simp only [List.length_drop, List.length_take]; rfl)) ?_; (with_reducible refine (laws_toSpiral.calls a0_0 a0_1 a0_2 t145 t146 t147 _ A30.out).mono ?_); rintro e w36 ⟨rfl, hb⟩; refine ⟨_, rfl, ?_⟩; have n0_ := Aside0.mk (Kd.R_below (by (with_reducible repeat (first | apply Kd.R_alloc | apply Kd.R_drewN | apply Kd.R_drew)); exact HO_5.out) hb); have n1_ := Aside0.mk (Kd.R_below (by (with_reducible repeat (first | apply Kd.R_alloc | apply Kd.R_drewN | apply Kd.R_drew)); exact HO_7.out) hb); have n2_ := Aside0.mk (blk_below (g := gb126) (o := .cells #[.int .i64 a0_0, .int .i64 a0_1, .int .i64 a0_2] 51 (0, 0)) (by (with_reducible repeat (first | refine blk_drewN ?_ _ | refine blk_drew ?_ | refine blk_alloc ?_ _)); exact BK126.out) hb); have n3_ := Aside0.mk (below_step (by repeat (first | (with_reducible first | exact HB.out | apply below_alloc | apply pw_below_drewN | apply below_drew1 | refine below_set ?_ GE126.out) | exact HB.out)) hb); clear HO_5; clear HO_7; clear BK126; clear HB; have HO_5 := n0_; have HO_7 := n1_; have BK126 := n2_; have HB := n3_; clear n0_ n1_ n2_ n3_; (try clear hb); (try clear hb2); (try clear hk); (try clear hi)) | ((with_reducible refine gate_callee (f := 41) rfl ?_); refine goesL_ (some 54) rfl rfl Try.func41 (by kernel_rfl) rfl #[.agg #[.int .i64 t145, .int .i64 t146, .int .i64 t147], .string a1] rfl (by (try simp only [List.map_toArray, List.map_cons, List.map_nil]); first | done | rfl | (simp only [List.length_drop, List.length_take]; rfl)) ?_; (with_reducible refine (impl_StepsAtSide.calls kj8 t145 t146 t147 a1 t148 t151 _ A31.out).mono ?_); rintro e w37 ⟨v149, rfl, ho0, hb⟩; refine ⟨_, rfl, ?_⟩; have n0_ := Aside0.mk (Kd.R_elder' (by (with_reducible repeat (first | apply Kd.R_alloc | apply Kd.R_drewN | apply Kd.R_drew)); exact HO_5.out) (Kd.R_base ho0) hb); have n1_ := Aside0.mk (Kd.R_elder' (by (with_reducible repeat (first | apply Kd.R_alloc | apply Kd.R_drewN | apply Kd.R_drew)); exact HO_7.out) (Kd.R_base ho0) hb); have n2_ := Aside0.mk (Kd.R_lower (Kd.R_new' (Kd.R_new' ho0 (Kd.R_lt (by (with_reducible repeat (first | apply Kd.R_alloc | apply Kd.R_drewN | apply Kd.R_drew)); exact HO_5.out))) (Kd.R_lt (by (with_reducible repeat (first | apply Kd.R_alloc | apply Kd.R_drewN | apply Kd.R_drew)); exact HO_7.out))) (below_size (by repeat (first | (with_reducible first | exact HB.out | apply below_alloc | apply pw_below_drewN | apply below_drew1 | refine below_set ?_ GE126.out) | exact HB.out)))); have n3_ := Aside0.mk (blk_below (g := gb126) (o := .cells #[.int .i64 a0_0, .int .i64 a0_1, .int .i64 a0_2] 51 (0, 0)) (by (with_reducible repeat (first | refine blk_drewN ?_ _ | refine blk_drew ?_ | refine blk_alloc ?_ _)); exact BK126.out) hb); have n4_ := Aside0.mk (below_step (by repeat (first | (with_reducible first | exact HB.out | apply below_alloc | apply pw_below_drewN | apply below_drew1 | refine below_set ?_ GE126.out) | exact HB.out)) hb); clear HO_5; clear HO_7; clear BK126; clear HB; have HO_5 := n0_; have HO_7 := n1_; have HO150 := n2_; have BK126 := n3_; have HB := n4_; clear n0_ n1_ n2_ n3_ n4_; (try clear hb); (try clear hb2); (try clear hk); (try clear hi); (try clear ho0)))
              (try simp only [Act.put, List.setIfInBounds_toArray, List.set_cons_zero, List.set_cons_succ])
              go_cut [65] (fun v65 wc => ∃ (kq : Nat) (x65_31 : Bool), v65 = .bool x65_31 ∧ Aside0 (laws_FnExactStepsAtSide.j1 kq t143 t142 x65_31 = some r) ∧ Aside0 (kq ≤ kj8) ∧ Aside0 (Kd.R (Kd.int .i64) 3 wc w.heap.size (fun _ => True) (.slice Ao33 t137.length co33) t143) ∧ Aside0 (wc.heap[gb126]? = some (.cells #[.int .i64 a0_0, .int .i64 a0_1, .int .i64 a0_2] 51 (0, 0))) ∧ Aside0 (Below w.heap.size w wc))
              case first =>
                have H := HC32.out
                clear HC32
                replace H := Option.bind_eq_some_iff.mp H
                obtain ⟨t152, A380, H⟩ := H
                replace H : (if t152 = true then (laws_FnExactStepsAtSide.j1 kj8 t143 t142 (t151 != t133)) else (laws_FnExactStepsAtSide.j1 kj8 t143 t142 true)) = some r := H
                have A38 := Aside0.mk A380
                clear A380
                by_cases c39 : t152 = true
                · subst c39
                  have H1 : (laws_FnExactStepsAtSide.j1 kj8 t143 t142 (t151 != t133)) = some r := by rw [if_pos rfl] at H; exact H
                  clear H
                  have H := H1
                  clear H1
                  have H' := Aside0.mk H
                  clear H
                  obtain ⟨Ao40, co40, eo40⟩ := Kd.R_slice HO150.out
                  subst eo40
                  obtain ⟨Ao41, co41, eo41⟩ := Kd.R_slice HO_5.out
                  subst eo41
                  go_wp2_with (first | ((with_reducible refine gate_callee (f := 18) rfl ?_); refine goesL_ (some 59) rfl rfl Try.func18 (by kernel_rfl) rfl #[.slice Ao40 t148.length co40, .slice Ao41 t130.length co41] rfl (by (try simp only [List.map_toArray, List.map_cons, List.map_nil]); first | done | rfl | (simp only [List.length_drop, List.length_take]; rfl)) ?_; (with_reducible refine (laws_eqIntS.calls kj8 _ _ t148 _ _ t130 true _ ?side1 ?side2 ?side3 ?side4 A38.out).mono ?_); (case side1 => repeat (first | exact (Kd.R_reads' HO150.out).2.2 | (with_reducible refine Kd.C_alloc ?_ _) | (with_reducible refine Kd.C_drewN ?_ _) | (with_reducible refine Kd.C_drew ?_))); (case side2 => exact (Kd.R_reads' HO150.out).2.1); (case side3 => repeat (first | exact (Kd.R_reads' HO_5.out).2.2 | (with_reducible refine Kd.C_alloc ?_ _) | (with_reducible refine Kd.C_drewN ?_ _) | (with_reducible refine Kd.C_drew ?_))); (case side4 => exact (Kd.R_reads' HO_5.out).2.1); rintro e w' ⟨rfl, ⟨nd, rfl⟩⟩; refine ⟨_, rfl, ?_⟩))
                  go_meet
                  case rel => exact ⟨_, ((t151 != t133)), (by first | rfl | (simp; done) | (simp [*]; done)), H', ⟨by have := HJ8.out; first | omega | exact Nat.le_refl _⟩, ⟨by (with_reducible repeat (first | apply Kd.R_alloc | apply Kd.R_drewN | apply Kd.R_drew)); exact Kd.R_mono HO_7.out (fun _ hk => trivial)⟩, ⟨by (with_reducible repeat (first | refine blk_drewN ?_ _ | refine blk_drew ?_ | refine blk_alloc ?_ _)); exact BK126.out⟩, ⟨by repeat (first | (with_reducible first | exact HB.out | apply below_alloc | apply pw_below_drewN | apply below_drew1 | refine below_set ?_ GE126.out) | exact HB.out)⟩⟩
                · replace c39 := Bool.eq_false_iff.mpr c39
                  subst c39
                  have H1 : (laws_FnExactStepsAtSide.j1 kj8 t143 t142 true) = some r := by rw [if_neg (show ¬ (false = true) by decide)] at H; exact H
                  clear H
                  have H := H1
                  clear H1
                  have H' := Aside0.mk H
                  clear H
                  obtain ⟨Ao42, co42, eo42⟩ := Kd.R_slice HO150.out
                  subst eo42
                  obtain ⟨Ao43, co43, eo43⟩ := Kd.R_slice HO_5.out
                  subst eo43
                  go_wp2_with (first | ((with_reducible refine gate_callee (f := 18) rfl ?_); refine goesL_ (some 59) rfl rfl Try.func18 (by kernel_rfl) rfl #[.slice Ao42 t148.length co42, .slice Ao43 t130.length co43] rfl (by (try simp only [List.map_toArray, List.map_cons, List.map_nil]); first | done | rfl | (simp only [List.length_drop, List.length_take]; rfl)) ?_; (with_reducible refine (laws_eqIntS.calls kj8 _ _ t148 _ _ t130 false _ ?side1 ?side2 ?side3 ?side4 A38.out).mono ?_); (case side1 => repeat (first | exact (Kd.R_reads' HO150.out).2.2 | (with_reducible refine Kd.C_alloc ?_ _) | (with_reducible refine Kd.C_drewN ?_ _) | (with_reducible refine Kd.C_drew ?_))); (case side2 => exact (Kd.R_reads' HO150.out).2.1); (case side3 => repeat (first | exact (Kd.R_reads' HO_5.out).2.2 | (with_reducible refine Kd.C_alloc ?_ _) | (with_reducible refine Kd.C_drewN ?_ _) | (with_reducible refine Kd.C_drew ?_))); (case side4 => exact (Kd.R_reads' HO_5.out).2.1); rintro e w' ⟨rfl, ⟨nd, rfl⟩⟩; refine ⟨_, rfl, ?_⟩))
                  go_meet
                  case rel => exact ⟨_, (true), (by first | rfl | (simp; done) | (simp [*]; done)), H', ⟨by have := HJ8.out; first | omega | exact Nat.le_refl _⟩, ⟨by (with_reducible repeat (first | apply Kd.R_alloc | apply Kd.R_drewN | apply Kd.R_drew)); exact Kd.R_mono HO_7.out (fun _ hk => trivial)⟩, ⟨by (with_reducible repeat (first | refine blk_drewN ?_ _ | refine blk_drew ?_ | refine blk_alloc ?_ _)); exact BK126.out⟩, ⟨by repeat (first | (with_reducible first | exact HB.out | apply below_alloc | apply pw_below_drewN | apply below_drew1 | refine below_set ?_ GE126.out) | exact HB.out)⟩⟩
              case rest =>
                clear HC32
                try clear c1
                try clear c2
                try clear p2
                try clear c3
                try clear c3b0
                try clear c3b1
                try clear c4
                try clear c11
                try clear c18
                try clear c23
                try clear c26
                try clear c26b0
                try clear c29
                try clear c29b0
                try clear c29b1
                try clear c30
                try clear c39
                try clear c40
                try clear c41
                try clear hcz11_0
                try clear hcz11_1
                try clear hcz11_2
                try clear hcz14_0
                try clear hcz14_1
                try clear hcz14_2
                try clear hcz35_0
                try clear hcz35_1
                try clear hcz35_2
                try clear hfz11_0
                try clear hfz11_1
                try clear hfz11_2
                try clear hfz14_0
                try clear hfz14_1
                try clear hfz14_2
                try clear hfz35_0
                try clear hfz35_1
                try clear hfz35_2
                try clear p2
                obtain ⟨kq, x65_31, rfl, HA, HJ31, HO_7, BK126, HB⟩ := hcut
                have hl7_31 := (Kd.R_reads' HO_7.out).1
                rw [hl7_31] at HO_7
                (try simp only [hl7_31])
                (try simp only [hl7_31] at BK126)
                cases kq with
                | zero => exact absurd HA.out (by simp [laws_FnExactStepsAtSide.j1])
                | succ kj31 =>
                  have H := HA.out
                  clear HA
                  simp only [laws_FnExactStepsAtSide.j1] at H
                  by_cases c44 : x65_31 = true
                  · subst c44
                    have H1 : (some false) = some r := by rw [if_pos rfl] at H; exact H
                    clear H
                    have H := H1
                    clear H1
                    obtain rfl := Option.some.inj H
                    go_wp2
                    go_ret
                    exact ⟨by first | rfl | (simp [errW_none, errW_some] <;> rfl) | (simp [*, errW_none, errW_some] <;> rfl), by repeat (first | (with_reducible first | exact HB.out | apply below_alloc | apply pw_below_drewN | apply below_drew1 | refine below_set ?_ GE126.out) | exact HB.out)⟩
                  · replace c44 := Bool.eq_false_iff.mpr c44
                    subst c44
                    have H1 : ((laws_heldIntS.f kj31 t143 1).bind fun t153 => (if t153 < 0 then (some false) else (if t153 = t142 then (some true) else (some false)))) = some r := by rw [if_neg (show ¬ (false = true) by decide)] at H; exact H
                    clear H
                    have H := H1
                    clear H1
                    replace H := Option.bind_eq_some_iff.mp H
                    obtain ⟨t153, A450, H⟩ := H
                    replace H : (if t153 < 0 then (some false) else (if t153 = t142 then (some true) else (some false))) = some r := H
                    have A45 := Aside0.mk A450
                    clear A450
                    by_cases c46 : t153 < 0
                    · rw [if_pos c46] at H
                      have c46b0 : decide (t153 < 0) = true := decide_eq_true c46
                      clear c46
                      obtain rfl := Option.some.inj H
                      go_wp2_with (first | ((with_reducible refine gate_callee (f := 30) rfl ?_); refine goesL_ (some 68) rfl rfl Try.func30 (by kernel_rfl) rfl #[.slice Ao33 t143.length co33, .int .i64 1] rfl (by (try simp only [List.map_toArray, List.map_cons, List.map_nil]); first | done | rfl | (simp only [List.length_drop, List.length_take]; rfl)) ?_; (with_reducible refine (laws_heldIntS.calls kj31 _ _ t143 1 t153 _ ?side1 ?side2 A45.out).mono ?_); (case side1 => repeat (first | exact (Kd.R_reads' HO_7.out).2.2 | (with_reducible refine Kd.C_alloc ?_ _) | (with_reducible refine Kd.C_drewN ?_ _) | (with_reducible refine Kd.C_drew ?_))); (case side2 => exact (Kd.R_reads' HO_7.out).2.1); rintro e w' ⟨rfl, ⟨nd, rfl⟩⟩; refine ⟨_, rfl, ?_⟩))
                      go_ret
                      exact ⟨by first | rfl | (simp [errW_none, errW_some] <;> rfl) | (simp [*, errW_none, errW_some] <;> rfl), by repeat (first | (with_reducible first | exact HB.out | apply below_alloc | apply pw_below_drewN | apply below_drew1 | refine below_set ?_ GE126.out) | exact HB.out)⟩
                    · rw [if_neg c46] at H
                      have c46b0 : decide (t153 < 0) = false := decide_eq_false c46
                      clear c46
                      by_cases c47 : t153 = t142
                      · rw [if_pos c47] at H
                        have c47b0 : (t153 == t142) = true := beq_iff_eq.mpr c47
                        have c47b1 : (t153 != t142) = false := bne_eq_false_iff_eq.mpr c47
                        clear c47
                        obtain rfl := Option.some.inj H
                        go_wp2_with (first | ((with_reducible refine gate_callee (f := 30) rfl ?_); refine goesL_ (some 68) rfl rfl Try.func30 (by kernel_rfl) rfl #[.slice Ao33 t143.length co33, .int .i64 1] rfl (by (try simp only [List.map_toArray, List.map_cons, List.map_nil]); first | done | rfl | (simp only [List.length_drop, List.length_take]; rfl)) ?_; (with_reducible refine (laws_heldIntS.calls kj31 _ _ t143 1 t153 _ ?side1 ?side2 A45.out).mono ?_); (case side1 => repeat (first | exact (Kd.R_reads' HO_7.out).2.2 | (with_reducible refine Kd.C_alloc ?_ _) | (with_reducible refine Kd.C_drewN ?_ _) | (with_reducible refine Kd.C_drew ?_))); (case side2 => exact (Kd.R_reads' HO_7.out).2.1); rintro e w' ⟨rfl, ⟨nd, rfl⟩⟩; refine ⟨_, rfl, ?_⟩))
                        go_ret
                        exact ⟨by first | rfl | (simp [errW_none, errW_some] <;> rfl) | (simp [*, errW_none, errW_some] <;> rfl), by repeat (first | (with_reducible first | exact HB.out | apply below_alloc | apply pw_below_drewN | apply below_drew1 | refine below_set ?_ GE126.out) | exact HB.out)⟩
                      · rw [if_neg c47] at H
                        have c47b0 : (t153 == t142) = false := beq_eq_false_iff_ne.mpr c47
                        have c47b1 : (t153 != t142) = true := bne_iff_ne.mpr c47
                        obtain rfl := Option.some.inj H
                        go_wp2_with (first | ((with_reducible refine gate_callee (f := 30) rfl ?_); refine goesL_ (some 68) rfl rfl Try.func30 (by kernel_rfl) rfl #[.slice Ao33 t143.length co33, .int .i64 1] rfl (by (try simp only [List.map_toArray, List.map_cons, List.map_nil]); first | done | rfl | (simp only [List.length_drop, List.length_take]; rfl)) ?_; (with_reducible refine (laws_heldIntS.calls kj31 _ _ t143 1 t153 _ ?side1 ?side2 A45.out).mono ?_); (case side1 => repeat (first | exact (Kd.R_reads' HO_7.out).2.2 | (with_reducible refine Kd.C_alloc ?_ _) | (with_reducible refine Kd.C_drewN ?_ _) | (with_reducible refine Kd.C_drew ?_))); (case side2 => exact (Kd.R_reads' HO_7.out).2.1); rintro e w' ⟨rfl, ⟨nd, rfl⟩⟩; refine ⟨_, rfl, ?_⟩))
                        go_ret
                        exact ⟨by first | rfl | (simp [errW_none, errW_some] <;> rfl) | (simp [*, errW_none, errW_some] <;> rfl), by repeat (first | (with_reducible first | exact HB.out | apply below_alloc | apply pw_below_drewN | apply below_drew1 | refine below_set ?_ GE126.out) | exact HB.out)⟩
            · rw [if_neg c29] at H
              have c29b0 : (t144 == t142) = false := beq_eq_false_iff_ne.mpr c29
              have c29b1 : (t144 != t142) = true := bne_iff_ne.mpr c29
              obtain rfl := Option.some.inj H
              obtain ⟨Ao48, co48, eo48⟩ := Kd.R_slice HO_7.out
              subst eo48
              go_wp2_with (first | ((with_reducible refine gate_callee (f := 29) rfl ?_); refine goesL_ (some 41) rfl rfl Try.func29 (by kernel_rfl) rfl #[.slice Ao48 t137.length co48, .int .i64 1] rfl (by (try simp only [List.map_toArray, List.map_cons, List.map_nil]); first | done | rfl | (simp only [List.length_drop, List.length_take]; rfl)) ?_; (with_reducible refine (laws_markIntS.calls kj8 (fun k_ => some k_ = (.slice Ao48 t137.length co48 : Value).ownBlock) (.slice Ao48 t137.length co48) t137 1 t142 t143 w _ ?side1 ?side2 A24.out).mono ?_); (case side1 => repeat (first | (with_reducible first | exact HB.out | apply below_alloc | apply pw_below_drewN | apply below_drew1 | refine below_set ?_ GE126.out) | exact HB.out)); (case side2 => exact Kd.R_tight rfl HO_7.out); rintro e w49 ⟨rfl, hy0, hb, hkp⟩; refine ⟨_, rfl, ?_⟩; have n0_ := Aside0.mk (Kd.R_mono (ok' := fun k_ => some k_ ≠ (.slice Ao48 t137.length co48 : Value).ownBlock) (Kd.R_keptB (HO_5.out) hkp (fun k_ hk_ hs_ => (hk_) hs_)) (fun k_ hk_ => hk_.1)); have n1_ := Aside0.mk (Kd.R_reok rfl hy0 (fun k_ e_ => HO_7.out.1 k_ e_)); have n2_ := Aside0.mk (blk_kept (by (with_reducible repeat (first | refine blk_drewN ?_ _ | refine blk_drew ?_ | refine blk_alloc ?_ _)); exact BK126.out) hkp (fun hs_ => (fun e_ => (Kd.R_ne HO_7.out BK126.out (by decide)) e_) hs_)); have n3_ := Aside0.mk (hb); clear HO_5; clear HO_7; clear BK126; clear HB; have HO_5 := n0_; have HO_7 := n1_; have BK126 := n2_; have HB := n3_; clear n0_ n1_ n2_ n3_; (try clear hb); (try clear hkp); (try clear hy0)) | ((with_reducible refine gate_callee (f := 30) rfl ?_); refine goesL_ (some 44) rfl rfl Try.func30 (by kernel_rfl) rfl #[.slice Ao48 t143.length co48, .int .i64 1] rfl (by (try simp only [List.map_toArray, List.map_cons, List.map_nil]); first | done | (rw [show t143.length = t137.length from (Kd.R_reads' HO_7.out).1.symm] <;> rfl) | rfl | (simp only [List.length_drop, List.length_take]; rfl)) ?_; (with_reducible refine (laws_heldIntS.calls kj8 _ _ t143 1 t144 _ ?side1 ?side2 A25.out).mono ?_); (case side1 => repeat (first | exact (Kd.R_reads' HO_7.out).2.2 | (with_reducible refine Kd.C_alloc ?_ _) | (with_reducible refine Kd.C_drewN ?_ _) | (with_reducible refine Kd.C_drew ?_))); (case side2 => rw [show t143.length = t137.length from (Kd.R_reads' HO_7.out).1.symm]; exact (Kd.R_reads' HO_7.out).2.1); rintro e w' ⟨rfl, ⟨nd, rfl⟩⟩; refine ⟨_, rfl, ?_⟩))
              go_ret
              exact ⟨by first | rfl | (simp [errW_none, errW_some] <;> rfl) | (simp [*, errW_none, errW_some] <;> rfl), by repeat (first | (with_reducible first | exact HB.out | apply below_alloc | apply pw_below_drewN | apply below_drew1 | refine below_set ?_ GE126.out) | exact HB.out)⟩

/-- THE ONE PURE STATEMENT of laws_FnExactStepsAtSide. -/
def laws_FnExactStepsAtSide.Pure : Prop := ∀ (a0_0 : Int) (a0_1 : Int) (a0_2 : Int) (a1 : ByteArray), (Lit.int .i64 a0_0).wf = true → (Lit.int .i64 a0_1).wf = true → (Lit.int .i64 a0_2).wf = true → a1.size ≤ 140737488351232 → ∃ k, laws_FnExactStepsAtSide.f k a0_0 a0_1 a0_2 a1 = some true
theorem laws_FnExactStepsAtSide.walk (P : laws_FnExactStepsAtSide.Pure) (a0_0 : Int) (a0_1 : Int) (a0_2 : Int) (a1 : ByteArray) (w : World) (w0_0 : (Lit.int .i64 a0_0).wf = true) (w0_1 : (Lit.int .i64 a0_1).wf = true) (w0_2 : (Lit.int .i64 a0_2).wf = true) (w1 : a1.size ≤ 140737488351232) :
    Calls Try.prog 11 #[.agg #[.int .i64 a0_0, .int .i64 a0_1, .int .i64 a0_2], .string a1] w fun e w' => e = .returned (.bool true) ∧ Below w.heap.size w w' := by
  obtain ⟨k, h⟩ := P a0_0 a0_1 a0_2 a1 w0_0 w0_1 w0_2 w1
  refine (laws_FnExactStepsAtSide.calls k a0_0 a0_1 a0_2 a1 true w h).mono ?_
  rintro e w' ⟨rfl, hd⟩
  exact ⟨rfl, hd⟩

end Go.Proofs.Ytlajnkdokmbpeaa.PFnExactStepsAtSide
