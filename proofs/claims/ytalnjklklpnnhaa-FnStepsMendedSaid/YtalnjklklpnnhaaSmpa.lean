/- What the functions that draw return is short lists; when bears and a reach are good (StepsMended). No condition but that bytes are bytes. -/
import Derived.Test.YtalnjklklpnnhaaSmHead
namespace Go.Proofs.Ytalnjklklpnnhaa.Pure
open Go.RowKit Go.Proofs.Ytalnjklklpnnhaa.PFnStepsMended Go.Proofs.YtalnjklklpnnhaaW.PrintWords Go.Proofs.YtalnjklklpnnhaaW.PrintLast Go.Proofs.YtalnjklklpnnhaaW.PrintMore
set_option linter.unusedVariables false
set_option linter.unusedSimpArgs false

theorem w64 {x : Int} (h : -9223372036854775808 ≤ x ∧ x ≤ 9223372036854775807) : wrap64 x = x := by
  unfold wrap64; omega

theorem within_eq (a b c : Int) : impl_within.f a b c = some (decide (b ≤ a ∧ a ≤ c)) := by
  unfold impl_within.f
  by_cases h : b ≤ a
  · rw [if_pos h]; simp [h]
  · rw [if_neg h]; simp [h]

theorem l1In_eq (a b c : Int) : spec_l1In.f a b c = some (decide (b ≤ a ∧ a ≤ c)) := by
  unfold spec_l1In.f
  by_cases h : a ≥ b
  · rw [if_pos h]; simp [show b ≤ a from h]
  · rw [if_neg h]; simp [show ¬ b ≤ a from h]

theorem l1All_l0 (lo hi : Int) (l : List Int) (hl : l.length ≤ 1000000000) (d : Nat) : ∀ (k i : Nat), i + d = l.length → d < k → spec_l1All.l0 k lo hi l l.length i = some ((l.drop i).all fun n => decide (lo ≤ n ∧ n ≤ hi)) := by
  induction d with
  | zero =>
    intro k i hd hk
    obtain ⟨k, rfl⟩ : ∃ m, k = m + 1 := ⟨k - 1, by omega⟩
    simp only [spec_l1All.l0]; rw [if_neg (by omega), List.drop_eq_nil_of_le (by omega)]; rfl
  | succ d ih =>
    intro k i hd hk
    obtain ⟨k, rfl⟩ : ∃ m, k = m + 1 := ⟨k - 1, by omega⟩
    simp only [spec_l1All.l0]
    have h : i < l.length := by omega
    have e : rd l i = l[i] := by simp [rd, List.getD_eq_getElem?_getD, List.getElem?_eq_getElem h]
    rw [if_pos (by omega), if_pos (by omega), if_pos (by omega), l1In_eq, Option.bind_some, List.drop_eq_getElem_cons h, e, List.all_cons]
    by_cases g : lo ≤ l[i] ∧ l[i] ≤ hi
    · rw [if_pos (decide_eq_true g), w64 (by omega), decide_eq_true g, Bool.true_and]
      exact ih k (i + 1) (by omega) (by omega)
    · rw [if_neg (by simpa using g), decide_eq_false g, Bool.false_and]
theorem l1All_eq {k : Nat} {l : List Int} (lo hi : Int) (hl : l.length ≤ 1000000000) (hk : l.length < k) : spec_l1All.f k l lo hi = some (l.all fun n => decide (lo ≤ n ∧ n ≤ hi)) := by
  unfold spec_l1All.f
  exact l1All_l0 lo hi l hl l.length k 0 (by omega) (by omega)

theorem hofAny_eq (q : Int → Option Bool) (p : Int → Bool) (h : ∀ n, q n = some (p n)) (l : List Int) : hofAny q l = some (l.any p) := by
  induction l with
  | nil => rfl
  | cons x xs ih =>
    unfold hofAny
    rw [h x, Option.bind_some, ih]
    cases hp : p x
    · rw [if_neg (by decide)]; simp [hp]
    · rw [if_pos rfl]; simp [hp]

theorem wHas_l0 (x : Int) (l : List Int) (hl : l.length ≤ 1048576) (d : Nat) : ∀ (k i : Nat), i + d = l.length → d < k → laws_wHas.l0 k x l l.length i = some (decide (x ∈ l.drop i)) := by
  induction d with
  | zero =>
    intro k i hd hk
    obtain ⟨k, rfl⟩ : ∃ m, k = m + 1 := ⟨k - 1, by omega⟩
    simp only [laws_wHas.l0]; rw [if_neg (by omega), List.drop_eq_nil_of_le (by omega)]; simp
  | succ d ih =>
    intro k i hd hk
    obtain ⟨k, rfl⟩ : ∃ m, k = m + 1 := ⟨k - 1, by omega⟩
    simp only [laws_wHas.l0]
    have h : i < l.length := by omega
    have e : rd l i = l[i] := by simp [rd, List.getD_eq_getElem?_getD, List.getElem?_eq_getElem h]
    rw [if_pos (by omega), if_pos (by omega), if_pos (by omega), e, List.drop_eq_getElem_cons h]
    by_cases g : l[i] = x
    · rw [if_pos g]; congr 1; rw [eq_comm, decide_eq_true_eq, g]; simp
    · rw [if_neg g, w64 (by omega), show (i : Int) + 1 = ((i + 1 : Nat) : Int) from rfl, ih k (i + 1) (by omega) (by omega)]
      congr 1; rw [decide_eq_decide, List.mem_cons]
      exact ⟨fun z => .inr z, fun z => z.resolve_left (fun y => g y.symm)⟩
theorem wHas_eq {k : Nat} {l : List Int} (x : Int) (hl : l.length ≤ 1048576) (hk : l.length < k) : laws_wHas.f k l x = some (decide (x ∈ l)) := by
  unfold laws_wHas.f
  have := wHas_l0 x l hl l.length k 0 (by omega) hk
  simpa using this
theorem wSame_l0 (l : List Int) (hl : l.length ≤ 1000000000) (d : Nat) : ∀ (k i : Nat), i + d = l.length → d < k → laws_wSame.l0 k l l l.length i = some true := by
  induction d with
  | zero =>
    intro k i hd hk
    obtain ⟨k, rfl⟩ : ∃ m, k = m + 1 := ⟨k - 1, by omega⟩
    simp only [laws_wSame.l0]; rw [if_neg (by omega)]
  | succ d ih =>
    intro k i hd hk
    obtain ⟨k, rfl⟩ : ∃ m, k = m + 1 := ⟨k - 1, by omega⟩
    simp only [laws_wSame.l0]
    rw [if_pos (by omega), if_pos (by omega), if_pos (by omega), if_pos (by omega), if_pos trivial, w64 (by omega)]
    exact ih k (i + 1) (by omega) (by omega)
theorem wSame_self {k : Nat} {l : List Int} (hl : l.length ≤ 1000000000) (hk : l.length < k) : laws_wSame.f k l l = some true := by
  unfold laws_wSame.f
  rw [if_pos rfl, show (0 : Int) = ((0 : Nat) : Int) from rfl, wSame_l0 l hl l.length k 0 (by omega) hk]

theorem rd_set_eq (x : List Int) (a : Nat) (v : Int) (h : a < x.length) : rd (x.set a v) (a : Int) = v := by
  simp [rd, List.getD_eq_getElem?_getD, h]
theorem rd_set_ne (x : List Int) (a j : Nat) (v : Int) (h : j ≠ a) : rd (x.set a v) (j : Int) = rd x (j : Int) := by
  simp [rd, List.getD_eq_getElem?_getD, List.getElem?_set_ne (Ne.symm h)]
theorem rb_set_eq (x : List Bool) (a : Nat) (v : Bool) (h : a < x.length) : rdOf false (x.set a v) (a : Int) = v := by
  simp [rdOf, List.getD_eq_getElem?_getD, h]
theorem rb_set_ne (x : List Bool) (a j : Nat) (v : Bool) (h : j ≠ a) : rdOf false (x.set a v) (j : Int) = rdOf false x (j : Int) := by
  simp [rdOf, List.getD_eq_getElem?_getD, List.getElem?_set_ne (Ne.symm h)]
theorem rd_rep (n i : Nat) : rd (List.replicate n (0 : Int)) (i : Int) = 0 := by
  simp [rd, List.getD_eq_getElem?_getD, List.getElem?_replicate]; split <;> rfl
theorem rb_rep (n i : Nat) : rdOf false (List.replicate n false) (i : Int) = false := by
  simp [rdOf, List.getD_eq_getElem?_getD, List.getElem?_replicate]; split <;> rfl
theorem rd_get {l : List Int} {i : Nat} (h : i < l.length) : rd l (i : Int) = l[i] := by
  simp [rd, List.getD_eq_getElem?_getD, List.getElem?_eq_getElem h]

theorem mx_eq (a b : Int) : mx a b = max a b := by unfold mx; omega
theorem mn_eq (a b : Int) : mn a b = min a b := by unfold mn; omega
theorem next_ex {l : List Int} (hl : l.length ≤ 1048576) (hb : ∀ x ∈ l, 0 ≤ x ∧ x ≤ 255) {p : Int} (s : Int) (h0 : 0 ≤ p) (h1 : p ≤ 1000000) : ∃ x q, spec_l1Cur_next.f l p s = some (x, p + 1, q) ∧ 0 ≤ x ∧ x ≤ 255 := by
  have hand : ∀ e : Int, 0 ≤ wrap64 (Go.bits .and .u64 ((IntKind.u64.wrap e) / 1099511627776) 255) ∧ wrap64 (Go.bits .and .u64 ((IntKind.u64.wrap e) / 1099511627776) 255) ≤ 255 := by
    intro e
    have h : 0 ≤ IntKind.u64.wrap e ∧ IntKind.u64.wrap e ≤ 18446744073709551615 := by unfold IntKind.wrap; simp [IntKind.bits, IntKind.signed]; omega
    generalize IntKind.u64.wrap e = z at *
    obtain ⟨n, hn⟩ := Int.eq_ofNat_of_zero_le (show 0 ≤ z / 1099511627776 by omega)
    rw [hn, show (255 : Int) = ((255 : Nat) : Int) from rfl, bits_and_u64_nat n 255 (by omega) (by omega)]
    have : n &&& 255 ≤ 255 := Nat.and_le_right
    rw [w64 (by omega)]; omega
  unfold spec_l1Cur_next.f
  rw [w64 (x := p + 1) (by omega)]
  by_cases c : p < (l.length : Int)
  · have hm : 0 ≤ rd l p ∧ rd l p ≤ 255 := by
      obtain ⟨i, rfl⟩ := Int.eq_ofNat_of_zero_le h0
      rw [rd_get (by omega)]; exact hb _ (List.getElem_mem _)
    rw [if_pos c, if_pos h0, if_pos (by omega), w64 (x := rd l p) (by omega)]
    exact ⟨_, _, rfl, hm⟩
  · rw [if_neg c]
    by_cases d : p + 1 ≤ (l.length : Int)
    · omega
    · rw [if_neg d]; exact ⟨_, _, rfl, hand _⟩
theorem pick_ex {l : List Int} (hl : l.length ≤ 1048576) (hb : ∀ x ∈ l, 0 ≤ x ∧ x ≤ 255) {p : Int} (s n : Int) (h0 : 0 ≤ p) (h1 : p ≤ 900000) (hn : 1 < n) (hn2 : n ≤ 200) : ∃ x q, spec_l1Cur_pick.f l p s n = some (x, p + 1, q) ∧ 0 ≤ x ∧ x < n := by
  obtain ⟨x, q, e, x0, x1⟩ := next_ex hl hb s h0 (by omega : p ≤ 1000000)
  unfold spec_l1Cur_pick.f
  rw [if_neg (by omega), e, Option.bind_some, if_neg (by omega), if_neg (by omega)]
  refine ⟨_, _, rfl, ?_⟩
  dsimp only
  rw [Int.tmod_eq_emod_of_nonneg x0]
  exact ⟨Int.emod_nonneg _ (by omega), Int.emod_lt_of_pos _ (by omega)⟩
theorem among_ex {l : List Int} (hl : l.length ≤ 1048576) (hb : ∀ x ∈ l, 0 ≤ x ∧ x ≤ 255) {p : Int} (s : Int) (L : List Int) (h0 : 0 ≤ p) (h1 : p ≤ 900000) (hn : 1 < L.length) (hn2 : L.length ≤ 200) : ∃ x q, spec_l1Cur_among.f l p s L = some (x, p + 1, q) := by
  obtain ⟨x, q, e, x0, x1⟩ := pick_ex hl hb s (L.length : Int) h0 h1 (by omega) (by omega)
  unfold spec_l1Cur_among.f
  rw [e, Option.bind_some, if_pos x0, if_pos x1]
  exact ⟨_, _, rfl⟩
theorem sure_l0 {l : List Int} (hl : l.length ≤ 1048576) (hb : ∀ x ∈ l, 0 ≤ x ∧ x ≤ 255) (d : Nat) : ∀ (k : Nat) (acc : List Int) (p s : Int), d < k → 0 ≤ p → p + d ≤ 800000 → acc.length + d ≤ 100 →
    ∃ r q, spec_l1Cur_sureBears.l0 k acc (d : Int) l p s = some (r, p + d, q) ∧ r.length = acc.length + d := by
  induction d with
  | zero =>
    intro k acc p s hk h0 h1 ha
    obtain ⟨k, rfl⟩ : ∃ m, k = m + 1 := ⟨k - 1, by omega⟩
    rw [spec_l1Cur_sureBears.l0, if_neg (by omega)]
    exact ⟨acc, s, by simp, by simp⟩
  | succ d ih =>
    intro k acc p s hk h0 h1 ha
    obtain ⟨k, rfl⟩ : ∃ m, k = m + 1 := ⟨k - 1, by omega⟩
    obtain ⟨x, q, e, x0, x1⟩ := pick_ex hl hb s 5 h0 (by omega) (by omega) (by omega)
    rw [spec_l1Cur_sureBears.l0, if_pos (by omega), e, Option.bind_some, if_pos (by omega), w64 (by omega), show ((d + 1 : Nat) : Int) - 1 = (d : Int) from by omega]
    obtain ⟨r, q2, e2, e3⟩ := ih k (acc ++ [x]) (p + 1) q (by omega) (by omega) (by omega) (by simp; omega)
    exact ⟨r, q2, by rw [e2]; congr 3; omega, by rw [e3]; simp; omega⟩
theorem bears_l0 {l : List Int} (hl : l.length ≤ 1048576) (hb : ∀ x ∈ l, 0 ≤ x ∧ x ≤ 255) (d : Nat) : ∀ (k : Nat) (acc : List Int) (p s : Int), d < k → 0 ≤ p → p + d ≤ 800000 → 22 ≤ acc.length + d → acc.length ≤ 22 →
    ∃ r p2 q, spec_l1Cur_bears.l0 k acc l p s = some (r, p2, q) ∧ r.length ≤ 22 ∧ 0 ≤ p2 ∧ p2 ≤ p + d + 1 := by
  induction d with
  | zero =>
    intro k acc p s hk h0 h1 ha hc
    obtain ⟨k, rfl⟩ : ∃ m, k = m + 1 := ⟨k - 1, by omega⟩
    obtain ⟨x, q, e, x0, x1⟩ := pick_ex hl hb s 2 h0 (by omega) (by omega) (by omega)
    rw [spec_l1Cur_bears.l0, e, Option.bind_some, w64 (by omega), if_neg (by omega)]
    exact ⟨acc, p + 1, q, rfl, hc, by omega, by omega⟩
  | succ d ih =>
    intro k acc p s hk h0 h1 ha hc
    obtain ⟨k, rfl⟩ : ∃ m, k = m + 1 := ⟨k - 1, by omega⟩
    obtain ⟨x, q, e, x0, x1⟩ := pick_ex hl hb s 2 h0 (by omega) (by omega) (by omega)
    rw [spec_l1Cur_bears.l0, e, Option.bind_some, w64 (by omega)]
    by_cases g : (acc.length : Int) < 20 + x
    · rw [if_pos g, if_pos (by omega)]
      obtain ⟨r, p2, q2, e2, e3, e4, e5⟩ := ih k (acc ++ [2]) (p + 1) q (by omega) (by omega) (by omega) (by simp; omega) (by simp; omega)
      exact ⟨r, p2, q2, e2, e3, e4, by omega⟩
    · rw [if_neg g]
      exact ⟨acc, p + 1, q, rfl, hc, by omega, by omega⟩
theorem bears_ex {k : Nat} (hk : 100 < k) {l : List Int} (hl : l.length ≤ 1048576) (hb : ∀ x ∈ l, 0 ≤ x ∧ x ≤ 255) : ∃ r p2 q, spec_l1Cur_bears.f k l 0 0 = some (r, p2, q) ∧ r.length ≤ 22 ∧ 0 ≤ p2 ∧ p2 ≤ 1000 := by
  obtain ⟨x, q, e, x0, x1⟩ := pick_ex hl hb 0 8 (Int.le_refl 0) (by omega) (by omega) (by omega)
  obtain ⟨n, rfl⟩ := Int.eq_ofNat_of_zero_le x0
  obtain ⟨r, q2, e2, e3⟩ := sure_l0 hl hb (n + 1) k [] (0 + 1) q (by omega) (by omega) (by omega) (by simp; omega)
  unfold spec_l1Cur_bears.f spec_l1Cur_sureBears.f
  rw [e, Option.bind_some, w64 (by omega), show (1 : Int) + (n : Int) = ((n + 1 : Nat) : Int) from by omega, e2, Option.bind_some]
  obtain ⟨y, q3, e4, y0, y1⟩ := pick_ex hl hb q2 20 (show (0 : Int) ≤ 0 + 1 + ((n + 1 : Nat) : Int) by omega) (by omega) (by omega) (by omega)
  rw [e4, Option.bind_some]
  by_cases c0 : y = 0
  · rw [if_pos c0]; exact ⟨_, _, _, rfl, by simp, by dsimp only; omega, by dsimp only; omega⟩
  rw [if_neg c0]
  by_cases c1 : y = 1
  · rw [if_pos c1]
    obtain ⟨z, q4, e5⟩ := among_ex hl hb q3 [(-1), 0, 1, 100, 101, 4611686018427387904] (show (0 : Int) ≤ 0 + 1 + ((n + 1 : Nat) : Int) + 1 by omega) (by omega) (by simp) (by simp)
    rw [e5, Option.bind_some, if_pos (by rw [e3]; simp; omega)]
    exact ⟨_, _, _, rfl, by rw [List.length_append, e3]; simp; omega, by dsimp only; omega, by dsimp only; omega⟩
  rw [if_neg c1]
  by_cases c2 : y = 2
  · rw [if_pos c2]
    obtain ⟨r2, p2, q5, e6, e7, e8, e9⟩ := bears_l0 hl hb 22 k r (0 + 1 + ((n + 1 : Nat) : Int) + 1) q3 (by omega) (by omega) (by omega) (by omega) (by rw [e3]; simp; omega)
    exact ⟨_, _, _, e6, e7, e8, by omega⟩
  · rw [if_neg c2]; exact ⟨_, _, _, rfl, by rw [e3]; simp; omega, by dsimp only; omega, by dsimp only; omega⟩
theorem drawMost_ex {k : Nat} (hk : 100 < k) {l : List Int} (hl : l.length ≤ 1048576) (hb : ∀ x ∈ l, 0 ≤ x ∧ x ≤ 255) : ∃ B R, spec_DrawMostWears.f k l = some (B, R) ∧ B.length ≤ 22 := by
  obtain ⟨r, p, q, e, e1, e2, e3⟩ := bears_ex hk hl hb
  obtain ⟨x, q2, e4⟩ := among_ex hl hb q [1, 2, 2, 2, 3, 3, 4, 6, 20, 21, 0, (-1)] e2 (by omega) (by simp) (by simp)
  unfold spec_DrawMostWears.f spec_l1Cur_reach.f
  rw [e, Option.bind_some, e4, Option.bind_some, Option.bind_some]
  exact ⟨_, _, rfl, e1⟩
theorem drawReach_ex {k : Nat} (hk : 100 < k) {l : List Int} (hl : l.length ≤ 1048576) (hb : ∀ x ∈ l, 0 ≤ x ∧ x ≤ 255) : ∃ B R, spec_DrawReachForWears.f k l = some (B, R) ∧ B.length ≤ 22 := by
  obtain ⟨r, p, q, e, e1, e2, e3⟩ := bears_ex hk hl hb
  obtain ⟨x, q2, e4⟩ := among_ex hl hb q [0, 1, 2, 3, 4, 5, 8, 20, 1000, 1001, (-1)] e2 (by omega) (by simp) (by simp)
  unfold spec_DrawReachForWears.f
  rw [e, Option.bind_some, e4, Option.bind_some]
  exact ⟨_, _, rfl, e1⟩
theorem drawMend_ex {k : Nat} (hk : 100 < k) {l : List Int} (hl : l.length ≤ 1048576) (hb : ∀ x ∈ l, 0 ≤ x ∧ x ≤ 255) : ∃ B R C, spec_DrawMendSum.f k l = some (B, R, C) ∧ B.length ≤ 22 := by
  obtain ⟨r, p, q, e, e1, e2, e3⟩ := bears_ex hk hl hb
  obtain ⟨x, q2, e4⟩ := among_ex hl hb q [1, 2, 2, 2, 3, 3, 4, 6, 20, 21, 0, (-1)] e2 (by omega) (by simp) (by simp)
  obtain ⟨y, q3, e5⟩ := among_ex hl hb q2 [0, 1, 2, 3, 4, 5, 8, 20, 1000, 1001, (-1)] (show (0 : Int) ≤ p + 1 by omega) (by omega) (by simp) (by simp)
  unfold spec_DrawMendSum.f spec_l1Cur_reach.f
  rw [e, Option.bind_some, e4, Option.bind_some, Option.bind_some, e5, Option.bind_some]
  exact ⟨_, _, _, rfl, e1⟩
/-! good bears -/
def gB (B : List Int) : Bool := decide (1 ≤ B.length ∧ B.length ≤ 20) && B.all fun n => decide (0 ≤ n ∧ n ≤ 100)
def rB (B : List Int) (R : Int) : Bool := gB B && decide (1 ≤ R ∧ R ≤ 20)
def eB (B : List Int) (R : Int) : Bool := rB B R && decide (R ≤ (B.length : Int))
theorem AreBears_eq (l : List Int) : impl_AreBears.f l = some (gB l) := by
  unfold impl_AreBears.f gB
  have hc : ∀ n, impl_AreBears_1.f n = some (!decide (0 ≤ n ∧ n ≤ 100)) := fun n => by unfold impl_AreBears_1.f; rw [within_eq]; rfl
  have hh := hofAny_eq _ _ hc l
  rw [within_eq, Option.bind_some]
  by_cases h : 1 ≤ l.length ∧ l.length ≤ 20
  · rw [if_pos (by simp; omega), decide_eq_true h, Bool.true_and]
    simp only [slices_ContainsFunc_int_int.f, Array.size_empty, and_self, if_true]
    simp [hh, List.not_any_eq_all_not]
  · rw [if_neg (by simp; omega), decide_eq_false h, Bool.false_and]
theorem weGood_eq {k : Nat} {l : List Int} (hk : 30 < k) : spec_weGood.f k l = some (gB l) := by
  unfold spec_weGood.f gB
  rw [l1In_eq, Option.bind_some]
  by_cases h : 1 ≤ l.length ∧ l.length ≤ 20
  · rw [if_pos (by simp; omega), l1All_eq _ _ (by omega) (by omega), decide_eq_true h, Bool.true_and, Option.bind_some]
  · rw [if_neg (by simp; omega), decide_eq_false h, Bool.false_and]
theorem canWear_eq (l : List Int) (R : Int) : impl_canWear.f l R = some (rB l R) := by
  unfold impl_canWear.f rB
  rw [AreBears_eq, Option.bind_some]
  cases gB l
  · simp
  · rw [if_pos rfl, within_eq]; simp
theorem weReach_eq {k : Nat} (hk : 30 < k) (l : List Int) (R : Int) : spec_weReach.f k l R = some (rB l R) := by
  unfold spec_weReach.f rB
  rw [weGood_eq hk, Option.bind_some]
  cases gB l
  · simp
  · rw [if_pos rfl, l1In_eq]; simp
theorem hasParts_eq (l : List Int) (R : Int) : impl_hasParts.f l R = some (eB l R) := by
  unfold impl_hasParts.f eB
  rw [canWear_eq, Option.bind_some]
  cases rB l R
  · simp
  · rw [if_pos rfl]; simp
theorem weEnds_eq {k : Nat} (hk : 30 < k) (l : List Int) (R : Int) : spec_weEnds.f k l R = some (eB l R) := by
  unfold spec_weEnds.f eB
  rw [weReach_eq hk, Option.bind_some]
  cases rB l R
  · simp
  · rw [if_pos rfl]; simp
theorem weClimbs_eq (c : Int) : spec_weClimbs.f c = some (decide (0 ≤ c ∧ c ≤ 1000)) := by
  unfold spec_weClimbs.f; rw [l1In_eq]; rfl
theorem gB_true {B : List Int} (h : gB B = true) : 1 ≤ B.length ∧ B.length ≤ 20 ∧ ∀ j : Nat, j < B.length → 0 ≤ rd B (j : Int) ∧ rd B (j : Int) ≤ 100 := by
  unfold gB at h
  rw [Bool.and_eq_true, decide_eq_true_eq, List.all_eq_true] at h
  refine ⟨h.1.1, h.1.2, fun j hj => ?_⟩
  rw [rd_get hj]; simpa using h.2 _ (List.getElem_mem hj)
theorem rB_true {B : List Int} {R : Int} (h : rB B R = true) : gB B = true ∧ 1 ≤ R ∧ R ≤ 20 := by
  unfold rB at h; rw [Bool.and_eq_true, decide_eq_true_eq] at h; exact h
theorem eB_true {B : List Int} {R : Int} (h : eB B R = true) : rB B R = true ∧ R ≤ B.length := by
  unfold eB at h; rw [Bool.and_eq_true, decide_eq_true_eq] at h; exact h

end Go.Proofs.Ytalnjklklpnnhaa.Pure
