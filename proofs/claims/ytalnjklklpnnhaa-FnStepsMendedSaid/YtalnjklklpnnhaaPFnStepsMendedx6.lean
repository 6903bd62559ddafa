-- Written by this session's own program wip/myprint.py. Not trusted: Lean checks it.
import Derived.Test.YtalnjklklpnnhaaPFnStepsMendedx0
import Derived.Test.YtalnjklklpnnhaaPFnStepsMendedx5
namespace Go.Proofs.Ytalnjklklpnnhaa.PFnStepsMended
open Go.RowKit Go.Proofs.YtalnjklklpnnhaaW.PrintWords Go.Proofs.YtalnjklklpnnhaaW.PrintLast Go.Proofs.YtalnjklklpnnhaaW.PrintMore
attribute [local go_sem] max2_int min2_int max_two min_two
set_option linter.unusedVariables false
set_option linter.unusedSimpArgs false

/-! ### slices_Repeat_int_int: function 74, one number a few times -/
def slices_Repeat_int_int.f (l0 : List Int) (a1 : Int) : Option (List Int) := if l0.length = 1 ∧ 1 ≤ a1 ∧ a1 ≤ 64 then some (List.replicate a1.toNat (rd l0 0)) else none
theorem mul_one : ∀ n : Nat, n ≤ 64 → bits_Mul.f 1 (n : Int) = some (0, (n : Int)) := by
  have h : (List.range 65).all (fun n => decide (bits_Mul.f 1 ((n : Nat) : Int) = some (0, ((n : Nat) : Int)))) = true := by kernel_rfl
  intro n hn
  have := List.all_eq_true.1 h n (List.mem_range.2 (by omega))
  exact of_decide_eq_true this
theorem stop_ {p : Prop} (h : Go.RowKit.Hid p) : p := h
theorem goon_ {p : Prop} (h : p) : Go.RowKit.Hid p := h
theorem splice_take {cur : List Value} {c m : Nat} {z : Value} (h : cur.take c = List.replicate c z) (hm : c + m ≤ cur.length) : (splice cur c (List.replicate m z)).take (c + m) = List.replicate (c + m) z := by
  unfold splice
  rw [h, ← List.append_assoc, List.replicate_append_replicate, List.take_append_of_le_length (by simp)]
  simp
theorem own_parts {e : Nat} {w : World} {base : Nat} {ok : Nat → Prop} {v : Value} {xs : List Int} (h : (Kd.int .i64).R e w base ok v xs) (hp : 0 < xs.length) : ∃ g cap cur, v = .slice (some ⟨g, 0, none⟩) xs.length cap ∧ base ≤ g ∧ w.heap[g]? = some (.cells cur e (0, 0)) ∧ xs.length ≤ cap ∧ cap ≤ maxLen ∧ cur.size = cap := by
  obtain ⟨_, inner, ho, _⟩ := h
  rcases ho.2 with h0 | ⟨g, cap, cur, er, hrb, hrh, hnc, hcm, hcs, _⟩
  · exact absurd h0.2 (by omega)
  · exact ⟨g, cap, cur, er, hrb, hrh, hnc, hcm, by rw [hcs]; exact Nat.mul_one _⟩
theorem own_filled {e : Nat} {w : World} {base g cap n : Nat} {cur : List Value} {x : Int} (hb : base ≤ g) (hh : w.heap[g]? = some (.cells cur.toArray e (0, 0))) (hn : n ≤ cap) (hc : cap ≤ maxLen) (hl : cur.length = cap) (ht : cur.take n = List.replicate n (.int .i64 x)) :
    (Kd.int .i64).R e w base (fun _ => True) (.slice (some ⟨g, 0, none⟩) n cap) (List.replicate n x) := by
  refine Kd.R_of_own (enc := Value.int .i64) (h1 := fun _ => rfl) ?_ (fun _ _ => trivial)
  rw [List.length_replicate]
  refine ⟨by simp [encs], .inr ⟨g, cap, cur.toArray, rfl, hb, hh, hn, hc, by simp [hl], ?_⟩⟩
  simp [encs, ht]
set_option maxHeartbeats 8000000 in
set_option maxRecDepth 100000 in
theorem slices_Repeat_int_int.calls (A0 : Option Addr) (c0 : Nat) (l0 : List Int) (a1 : Int) (r : List Int) (w : World) (hr0 : Kd.C (Kd.int .i64) w A0 l0.length l0) (hc0 : l0.length ≤ c0) (h : slices_Repeat_int_int.f l0 a1 = some r) :
    Calls Try.prog 74 #[.slice A0 l0.length c0, .int .i64 a1] w fun e w' => ∃ v0_ : Value, e = .returned (v0_) ∧ Kd.R (Kd.int .i64) 3 w' w.heap.size (fun _ => True) v0_ r ∧ Below w.heap.size w w' := by
  unfold slices_Repeat_int_int.f at h
  by_cases c : l0.length = 1 ∧ 1 ≤ a1 ∧ a1 ≤ 64
  · rw [if_pos c] at h
    obtain rfl := Option.some.inj h
    clear h
    obtain ⟨h1, h2, h3⟩ := c
    obtain ⟨n, rfl⟩ := Int.eq_ofNat_of_zero_le (show 0 ≤ a1 by omega)
    obtain ⟨x, rfl⟩ : ∃ x, l0 = [x] := List.length_eq_one_iff.1 h1
    obtain ⟨ad, eA, hx⟩ := Kd.at_int hr0 0 (Int.le_refl 0) (by simp)
    subst eA
    have HR := Aside0.mk hr0
    clear hx hr0
    have hmul := mul_one n (by omega)
    have HM := Aside0.mk hmul
    clear hmul
    have HN : Aside0 (1 ≤ n ∧ n ≤ 64) := ⟨by omega, by omega⟩
    have hi1 : (Try.prog.info? 3).map (·.size) = some 1 := by kernel_rfl
    have HI := Aside0.mk hi1
    clear hi1
    have q1 : decide ((n : Int) < 0) = false := decide_eq_false (by omega)
    have q2 : IntKind.u64.wrap (n : Int) = (n : Int) := by rw [IntKind.wrap_u64]; omega
    have q3 : decide ((n : Int) > 9223372036854775807) = false := decide_eq_false (by omega)
    have q3b : decide ((9223372036854775807 : Int) < (n : Int)) = false := decide_eq_false (by omega)
    have q4 : IntKind.i64.wrap (n : Int) = (n : Int) := by rw [IntKind.wrap_i64]; omega
    have q5 : wrap64 (n : Int) = (n : Int) := by unfold wrap64; omega
    clear h1 h2 h3
    have HB := Aside0.mk (Below.refl w.heap.size w)
    show Calls Try.prog 74 #[.slice (some ad) 1 c0, .int .i64 (n : Int)] w _
    go_enter Try.func74, Try.ntmps74
    go_wp2_with (first | ((with_reducible refine gate_callee (f := 79) rfl ?_); refine goesL_ (some 18) rfl rfl Try.func79 (by kernel_rfl) rfl #[.int .u64 1, .int .u64 (n : Int)] rfl (by (try simp only [List.map_toArray, List.map_cons, List.map_nil]); first | done | rfl) ?_; (with_reducible refine (bits_Mul.calls 1 (n : Int) 0 (n : Int) _ HM.out).mono ?_); rintro e w' ⟨rfl, ⟨nd, rfl⟩⟩; refine ⟨_, rfl, ?_⟩) | ((with_reducible refine gate_dst (N := 30) rfl ?_); refine Kd.R_make (Kd.int .i64) _ 3 rfl (N := 30) rfl 22 _ _ rfl (n : Int) rfl rfl Try.underlying22 (.int .i64 0) 8 info3 rfl (by decide) (by omega) 0 (ok := fun _ => True) (okp := fun _ => True) rfl (fun _ hk => hk) trivial (by omega) (by have := HN.out; omega) (Below.refl _ _) (Nat.le_refl _) ?_; intro v130 w10 ho11 hb hg_ hnew_; clear hg_ hnew_; have n1_ := Aside0.mk (below_step (by repeat (first | (with_reducible first | exact HB.out | apply below_alloc | apply pw_below_drewN | apply below_drew1) | exact HB.out)) hb); have n0_ := Aside0.mk (Kd.R_lower ho11 (below_size (by repeat (first | (with_reducible first | exact HB.out | apply below_alloc | apply pw_below_drewN | apply below_drew1) | exact HB.out)))); clear HB; have HB := n1_; have HO1 := n0_; clear n0_ n1_ hb ho11; obtain ⟨gr, cap, cells, er, hrb, hrh, hnc, hcm, hcs⟩ := own_parts HO1.out (by rw [List.length_replicate]; have := HN.out; omega); rw [List.length_replicate, Int.toNat_natCast] at er hnc; subst er; have HG := Aside0.mk hrh; have HGb := Aside0.mk hrb; have HC := Aside0.mk (And.intro hnc (And.intro hcm hcs)); clear hrh hrb hnc hcm hcs HO1) | ((with_reducible refine gate_builtin (b := .copy) (xs := #[.tmp 31, .tmp 32]) rfl ?_); refine stop_ ?_))
    refine goon_ ?_
    refine wpList_copy_splice rfl (.tmp 31) (.tmp 32) 22 22 rfl 3 Try.underlying22 HI.out (some ⟨gr, 0, none⟩) (some ad) n cap 1 c0 rfl rfl gr 0 cells.toList 3 ?cg [.int .i64 x] ?cn ?cp ?cf ?c1 w.heap.size w ?cb HGb.out ?_
    (case cg => (rw [Array.toArray_toList]; exact HG.out))
    (case cn => (have := HN.out; show 1 = min 1 n; omega))
    (case cp => (intro _; refine ⟨rfl, ad, rfl, ?_⟩; intro j v hj; obtain ⟨ad2, e2, hx2⟩ := Kd.at_int (Kd.C_below HR.out HB.out) 0 (Int.le_refl 0) (by simp); cases e2; cases j with | zero => (obtain rfl := Option.some.inj hj; exact hx2) | succ j => cases hj))
    (case cf => (have := HN.out; have := HC.out; simp; omega))
    (case c1 => (intro v hv; rw [List.mem_singleton.1 hv]; rfl))
    (case cb => exact HB.out)
    intro w11 hgx hb
    have n0_ := Aside0.mk (show w11.heap[gr]? = some (.cells (splice cells.toList 0 [.int .i64 x]).toArray 3 (0, 0)) from hgx)
    have n1_ := Aside0.mk hb
    clear HG HB hgx hb
    have HG := n0_
    have HB := n1_
    clear n0_ n1_
    go_wp2
    go_loopg [8] (n - 1) (fun kq v8 w' => ∃ (c : Nat) (cur : List Value), v8 = .int .i64 (c : Int) ∧ Aside0 (kq + c = n ∧ 1 ≤ c) ∧ Aside0 (w'.heap[gr]? = some (.cells cur.toArray 3 (0, 0))) ∧ Aside0 (cur.length = cap ∧ cur.take c = List.replicate c (.int .i64 x)) ∧ Aside0 (Below w.heap.size w w'))
    case atStart => exact ⟨1, splice cells.toList 0 [.int .i64 x], rfl, ⟨by have := HN.out; omega⟩, HG, ⟨by have h1 := HN.out; have h2 := HC.out; refine ⟨?_, ?_⟩; (rw [length_splice _ _ _ (by simp; omega)]; simpa using h2.2.2); (unfold splice; simp)⟩, HB⟩
    case round =>
      clear HG HB
      obtain ⟨c, cur, rfl, HQ, HG, HL, HB⟩ := hrel
      cases gk with
      | zero =>
        have e : c = n := by have := HQ.out; omega
        subst e
        have c1 : decide ((c : Int) < (c : Int)) = false := decide_eq_false (by omega)
        have c2 : decide (c < c) = false := decide_eq_false (by omega)
        go_wp2
        go_ret
        refine ⟨_, rfl, ?_, by repeat (first | (with_reducible first | exact HB.out | apply below_alloc | apply pw_below_drewN | apply below_drew1) | exact HB.out)⟩
        exact own_filled HGb.out HG.out HC.out.1 HC.out.2.1 HL.out.1 HL.out.2
      | succ k1 =>
        have c1 : decide ((c : Int) < (n : Int)) = true := decide_eq_true (by have := HQ.out; omega)
        have c2 : decide (c < n) = true := decide_eq_true (by have := HQ.out; omega)
        obtain ⟨i0, hi0, _, hsz0, _⟩ := info_parts info3
        have hcutA := cut_from (P := Try.prog) 22 3 .i64 Try.underlying22 hi0 1 hsz0 (some ⟨gr, 0, none⟩) n cap (c : Int) (by omega) (by have := HQ.out; omega)
        have hcutB := cut_to (P := Try.prog) 22 3 .i64 Try.underlying22 hi0 (some ⟨gr, 0, none⟩) n cap (c : Int) (by omega) (by have := HQ.out; omega) HC.out.1
        rw [Int.toNat_natCast] at hcutA hcutB
        rw [if_neg (by have := HQ.out; have := HC.out.1; omega), show (Option.map (fun y => y.add (c * 1)) (some (⟨gr, 0, none⟩ : Addr))) = some ⟨gr, c, none⟩ from by (have hc0 : c ≠ 0 := by have := HQ.out; omega); simp [Addr.add, hc0]] at hcutA
        have q6 : IntKind.i64.wrap ((c : Int) + ((min c (n - c) : Nat) : Int)) = ((c + min c (n - c) : Nat) : Int) := by have := HQ.out; have := HN.out; rw [IntKind.wrap_i64]; omega
        clear hi0 hsz0
        go_wp2
        have HG2 := Aside0.mk (blk_drew HG.out)
        have HB2 := Aside0.mk (below_drew1 HB.out)
        clear HG HB
        refine start_ (n := 10) (S := fun w' => True) (ds := []) #[false, false, false, false, false, false, false, false, false, false] (by kernel_rfl) rfl rfl trivial (fun hHeld => ?_)
        generalize wr.drew = w12 at HG2 HB2 hHeld ⊢
        refine pure_ (i := 0) (N := some 38) (v := ?_) (a' := ?_) #[true, false, false, false, false, false, false, false, false, false] rfl rfl (by kernel_rfl) (fun _ _ _ h => h) (Or.inl ⟨by rfl, ?_⟩) ?_ ?_
        rotate_left
        · intro w'
          go_simp
          with_reducible rfl
        rotate_left
        · simp only [Act.put, List.setIfInBounds_toArray, List.set_cons_zero, List.set_cons_succ, i64_w, i32_w]
          rfl
        refine pure_ (i := 1) (N := some 39) (v := ?_) (a' := ?_) #[true, true, false, false, false, false, false, false, false, false] rfl rfl (by kernel_rfl) (fun _ _ _ h => h) (Or.inl ⟨by rfl, ?_⟩) ?_ ?_
        rotate_left
        · intro w'
          go_simp
          with_reducible rfl
        rotate_left
        · simp only [Act.put, List.setIfInBounds_toArray, List.set_cons_zero, List.set_cons_succ, i64_w, i32_w]
          rfl
        refine pure_ (i := 2) (N := some 40) (v := ?_) (a' := ?_) #[true, true, true, false, false, false, false, false, false, false] rfl rfl (by kernel_rfl) (fun _ _ _ h => h) (Or.inl ⟨by rfl, ?_⟩) ?_ ?_
        rotate_left
        · intro w'
          go_simp
          with_reducible rfl
        rotate_left
        · simp only [Act.put, List.setIfInBounds_toArray, List.set_cons_zero, List.set_cons_succ, i64_w, i32_w]
          rfl
        refine pure_ (i := 3) (N := some 41) (v := ?_) (a' := ?_) #[true, true, true, true, false, false, false, false, false, false] rfl rfl (by kernel_rfl) (fun _ _ _ h => h) (Or.inl ⟨by rfl, ?_⟩) ?_ ?_
        rotate_left
        · intro w'
          go_simp
          with_reducible rfl
        rotate_left
        · simp only [Act.put, List.setIfInBounds_toArray, List.set_cons_zero, List.set_cons_succ, i64_w, i32_w]
          rfl
        refine pure_ (i := 4) (N := some 42) (v := ?_) (a' := ?_) #[true, true, true, true, true, false, false, false, false, false] rfl rfl (by kernel_rfl) (fun _ _ _ h => h) (Or.inl ⟨by rfl, ?_⟩) ?_ ?_
        rotate_left
        · intro w'
          go_simp
          with_reducible rfl
        rotate_left
        · simp only [Act.put, List.setIfInBounds_toArray, List.set_cons_zero, List.set_cons_succ, i64_w, i32_w]
          rfl
        refine pure_ (i := 5) (N := some 43) (v := ?_) (a' := ?_) #[true, true, true, true, true, true, false, false, false, false] rfl rfl (by kernel_rfl) (fun _ _ _ h => h) (Or.inl ⟨by rfl, ?_⟩) ?_ ?_
        rotate_left
        · intro w'
          go_simp
          with_reducible rfl
        rotate_left
        · simp only [Act.put, List.setIfInBounds_toArray, List.set_cons_zero, List.set_cons_succ, i64_w, i32_w]
          rfl
        refine pure_ (i := 6) (N := some 44) (v := ?_) (a' := ?_) #[true, true, true, true, true, true, true, false, false, false] rfl rfl (by kernel_rfl) (fun _ _ _ h => h) (Or.inl ⟨by rfl, ?_⟩) ?_ ?_
        rotate_left
        · intro w'
          go_simp
          with_reducible rfl
        rotate_left
        · simp only [Act.put, List.setIfInBounds_toArray, List.set_cons_zero, List.set_cons_succ, i64_w, i32_w]
          rfl
        refine one_ (i := 7) (N := some 45) #[true, true, true, true, true, true, true, true, false, false] rfl rfl (by kernel_rfl) (by decide) (fun K hK => ?_)
        refine step_copy_splice rfl (.tmp 41) (.tmp 44) 22 22 rfl 3 Try.underlying22 HI.out (some ⟨gr, c, none⟩) (some ⟨gr, 0, none⟩) (n - c) (cap - c) c cap rfl rfl gr c cur 3 HG2.out (List.replicate (min c (n - c)) (.int .i64 x)) (by rw [List.length_replicate]) ?cp (by rw [List.length_replicate]; have := HL.out.1; have := HC.out.1; have := HQ.out; omega) ?c1 w.heap.size w HB2.out HGb.out ?_
        case cp =>
          intro hp
          refine ⟨rfl, ⟨gr, 0, none⟩, rfl, fun j v hj => ?_⟩
          have hjl : j < min c (n - c) := by
            rcases Nat.lt_or_ge j (min c (n - c)) with h | h
            · exact h
            · rw [List.getElem?_eq_none (by rw [List.length_replicate]; exact h)] at hj; cases hj
          rw [List.getElem?_replicate, if_pos hjl] at hj
          obtain rfl := Option.some.inj hj
          have hcell : w12.cell? ⟨gr, j, none⟩ = cur.toArray[j]? := blk_cell HG2.out j
          have e1 : (cur.take c)[j]? = cur[j]? := by rw [List.getElem?_take, if_pos (by omega)]
          rw [HL.out.2, List.getElem?_replicate, if_pos (by omega)] at e1
          rw [show (⟨gr, 0, none⟩ : Addr).add j = ⟨gr, j, none⟩ from by unfold Addr.add; split <;> simp [*], hcell]
          simpa using e1.symm
        case c1 =>
          intro v hv
          rw [(List.mem_replicate.1 hv).2]; rfl
        intro w13 hgx hb
        refine hK.out _ _ trivial (fun hHeld2 => ?_)
        clear hK K
        rw [List.length_replicate]
        have HG3 := Aside0.mk (show w13.heap[gr]? = some (.cells (splice cur c (List.replicate (min c (n - c)) (.int .i64 x))).toArray 3 (0, 0)) from hgx)
        have HB3 := Aside0.mk hb
        clear HG2 HB2 hgx hb
        refine norm_ (a' := ?_) ?_ ?_
        rotate_left
        · show Act.put _ (some 45) _ = _
          simp only [Act.put, List.setIfInBounds_toArray, List.set_cons_zero, List.set_cons_succ, i64_w, i32_w, goInt]
          rfl
        refine pure_ (i := 8) (N := some 46) (v := ?_) (a' := ?_) #[true, true, true, true, true, true, true, true, true, false] rfl rfl (by kernel_rfl) (fun _ _ _ h => h) (Or.inl ⟨by rfl, ?_⟩) ?_ ?_
        rotate_left
        · intro w'
          go_simp
          with_reducible rfl
        rotate_left
        · simp only [Act.put, List.setIfInBounds_toArray, List.set_cons_zero, List.set_cons_succ, i64_w, i32_w]
          rfl
        refine pure_ (i := 9) (N := some 8) (v := ?_) (a' := ?_) #[true, true, true, true, true, true, true, true, true, true] rfl rfl (by kernel_rfl) (fun _ _ _ h => h) (Or.inl ⟨by rfl, ?_⟩) ?_ ?_
        rotate_left
        · intro w'
          go_simp
          with_reducible rfl
        rotate_left
        · simp only [Act.put, List.setIfInBounds_toArray, List.set_cons_zero, List.set_cons_succ, i64_w, i32_w]
          rfl
        refine done_ (by kernel_rfl) ?_
        try go_wp2
        go_roundg (n - (c + min c (n - c)))
        case measure => have := HQ.out; omega
        case rel =>
          have hfit : c + min c (n - c) ≤ cur.length := by have := HL.out.1; have := HC.out.1; have := HQ.out; omega
          exact ⟨c + min c (n - c), splice cur c (List.replicate (min c (n - c)) (.int .i64 x)), (by first | rfl | (simp; done) | (simp [*]; done)), ⟨by have := HQ.out; omega⟩, ⟨by repeat (first | exact HG3.out | exact blk_drew HG3.out)⟩, ⟨by refine ⟨?_, ?_⟩; (rw [length_splice _ _ _ (by rw [List.length_replicate]; exact hfit)]; exact HL.out.1); exact splice_take HL.out.2 hfit⟩, ⟨by repeat (first | (with_reducible first | exact HB3.out | apply below_alloc | apply pw_below_drewN | apply below_drew1) | exact HB3.out)⟩⟩
  · rw [if_neg c] at h
    exact absurd h (by simp)

end Go.Proofs.Ytalnjklklpnnhaa.PFnStepsMended
