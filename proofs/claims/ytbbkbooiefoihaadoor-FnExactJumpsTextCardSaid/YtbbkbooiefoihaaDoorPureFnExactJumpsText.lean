/- The program's JumpsText returns what the reference's returns, for all arguments. No condition. -/
import Derived.Test.YtbbkbooiefoihaaDoorPFnExactJumpsTextx3
namespace Go.Proofs.YtbbkbooiefoihaaDoor.Pure
open Go.RowKit Go.Proofs.YtbbkbooiefoihaaDoor.PFnExactJumpsText Go.Proofs.YtbbkbooiefoihaaDoorW.PrintWords Go.Proofs.YtbbkbooiefoihaaDoorW.PrintLast Go.Proofs.YtbbkbooiefoihaaDoorW.PrintMore
set_option linter.unusedVariables false
set_option linter.unusedSimpArgs false

-- block l1In
theorem l1In_eq (a b c : Int) : spec_l1In.f a b c = some (decide (b ≤ a ∧ a ≤ c)) := by
  unfold spec_l1In.f
  by_cases h : a ≥ b
  · rw [if_pos h]; simp [show b ≤ a from h]
  · rw [if_neg h]; simp [show ¬ b ≤ a from h]

-- block w64
theorem w64 {x : Int} (h : -9223372036854775808 ≤ x ∧ x ≤ 9223372036854775807) : wrap64 x = x := by
  unfold wrap64; omega

-- block l1All
theorem l1All_l0 (lo hi : Int) (l : List Int) (hl : l.length ≤ 1000000000) (d : Nat) : ∀ (k i : Nat), i + d = l.length → d < k → spec_l1All.l0 k lo hi l l.length i = some ((l.drop i).all fun n => decide (lo ≤ n ∧ n ≤ hi)) := by
  induction d with
  | zero =>
    intro k i hd hk
    obtain ⟨k, rfl⟩ : ∃ m, k = m + 1 := ⟨k - 1, by omega⟩
    simp only [spec_l1All.l0]; rw [if_neg (by omega), List.drop_eq_nil_of_le (by omega)]; rfl
  | succ d ih =>
    intro k i hd hk
    obtain ⟨k, rfl⟩ : ∃ m, k = m + 1 := ⟨k - 1, by omega⟩
    simp only [spec_l1All.l0]
    have h : i < l.length := by omega
    have e : rd l i = l[i] := by simp [rd, List.getD_eq_getElem?_getD, List.getElem?_eq_getElem h]
    rw [if_pos (by omega), if_pos (by omega), if_pos (by omega), l1In_eq, Option.bind_some, List.drop_eq_getElem_cons h, e, List.all_cons]
    by_cases g : lo ≤ l[i] ∧ l[i] ≤ hi
    · rw [if_pos (decide_eq_true g), w64 (by omega), decide_eq_true g, Bool.true_and]
      exact ih k (i + 1) (by omega) (by omega)
    · rw [if_neg (by simpa using g), decide_eq_false g, Bool.false_and]
theorem l1All_eq {k : Nat} {l : List Int} (lo hi : Int) (hl : l.length ≤ 1000000000) (hk : l.length < k) : spec_l1All.f k l lo hi = some (l.all fun n => decide (lo ≤ n ∧ n ≤ hi)) := by
  unfold spec_l1All.f
  exact l1All_l0 lo hi l hl l.length k 0 (by omega) (by omega)

-- block within
theorem within_eq (a b c : Int) : impl_within.f a b c = some (decide (b ≤ a ∧ a ≤ c)) := by
  unfold impl_within.f
  by_cases h : b ≤ a
  · rw [if_pos h]; simp [h]
  · rw [if_neg h]; simp [h]

-- block hofAny
theorem hofAny_eq (q : Int → Option Bool) (p : Int → Bool) (h : ∀ n, q n = some (p n)) (l : List Int) : hofAny q l = some (l.any p) := by
  induction l with
  | nil => rfl
  | cons x xs ih =>
    unfold hofAny
    rw [h x, Option.bind_some, ih]
    cases hp : p x
    · rw [if_neg (by decide)]; simp [hp]
    · rw [if_pos rfl]; simp [hp]

-- block jumps
def jumpsB (l : List Int) : Bool := decide (1 ≤ l.length ∧ l.length ≤ 30) && l.all fun n => decide (-30 ≤ n ∧ n ≤ 30)
theorem AreJumps_eq (l : List Int) : impl_AreJumps.f l = some (jumpsB l) := by
  unfold impl_AreJumps.f jumpsB
  have hc : ∀ n, impl_AreJumps_1.f n = some (!decide (-30 ≤ n ∧ n ≤ 30)) := fun n => by unfold impl_AreJumps_1.f; rw [within_eq]; rfl
  have hh := hofAny_eq _ _ hc l
  rw [within_eq, Option.bind_some]
  by_cases h : 1 ≤ l.length ∧ l.length ≤ 30
  · rw [if_pos (by simp; omega), decide_eq_true h, Bool.true_and]
    simp only [slices_ContainsFunc_int_int.f, Array.size_empty, and_self, if_true]
    simp [hh, List.not_any_eq_all_not]
  · rw [if_neg (by simp; omega), decide_eq_false h, Bool.false_and]
theorem baGood_eq {k : Nat} {l : List Int} (hk : 30 < k) : spec_baGood.f k l = some (jumpsB l) := by
  unfold spec_baGood.f jumpsB
  rw [l1In_eq, Option.bind_some]
  by_cases h : 1 ≤ l.length ∧ l.length ≤ 30
  · rw [if_pos (by simp; omega), l1All_eq _ _ (by omega) (by omega), decide_eq_true h, Bool.true_and, Option.bind_some]
  · rw [if_neg (by simp; omega), decide_eq_false h, Bool.false_and]
theorem jumpsB_true {l : List Int} (h : jumpsB l = true) : (1 ≤ l.length ∧ l.length ≤ 30) ∧ ∀ x ∈ l, -30 ≤ x ∧ x ≤ 30 := by
  unfold jumpsB at h
  rw [Bool.and_eq_true, decide_eq_true_eq, List.all_eq_true] at h
  exact ⟨h.1, fun x hx => by simpa using h.2 x hx⟩

-- block toIntS
theorem toIntS_l0 (l : List Int) (hl : l.length ≤ 1048576) (d : Nat) : ∀ (k i : Nat) (m : List Int), i + d = l.length → d < k → m.length = d → laws_toIntS.l0 k l (l.take i ++ m) i = some l := by
  induction d with
  | zero =>
    intro k i m hd hk hm
    obtain ⟨k, rfl⟩ : ∃ n, k = n + 1 := ⟨k - 1, by omega⟩
    obtain rfl := List.eq_nil_of_length_eq_zero hm
    simp only [laws_toIntS.l0]; rw [if_neg (by omega), List.take_of_length_le (by omega), List.append_nil]
  | succ d ih =>
    intro k i m hd hk hm
    obtain ⟨k, rfl⟩ : ∃ n, k = n + 1 := ⟨k - 1, by omega⟩
    obtain ⟨x, m, rfl⟩ : ∃ x p, m = x :: p := by
      cases m with
      | nil => simp at hm
      | cons x p => exact ⟨x, p, rfl⟩
    simp only [laws_toIntS.l0]
    have hi : i < l.length := by omega
    have hlen : (l.take i ++ x :: m).length = l.length := by simp at hm ⊢; omega
    have e : (l.take i ++ x :: m).set (i : Int).toNat (rd l i) = l.take (i + 1) ++ m := by
      have ht : (l.take i).length = i := by simp; omega
      rw [Int.toNat_natCast, List.set_append_right _ _ (by omega), ht, Nat.sub_self, List.set_cons_zero, List.take_succ_eq_append_getElem hi, List.append_assoc]
      simp [rd, List.getD_eq_getElem?_getD, List.getElem?_eq_getElem hi]
    rw [if_pos (by omega), if_pos (by omega), if_pos (by omega), e, w64 (by omega)]
    exact ih k (i + 1) m (by omega) (by omega) (by simpa using hm)
theorem toIntS_eq {k : Nat} {l : List Int} (hl : l.length ≤ 1048576) (hk : 1048576 < k) : laws_toIntS.f k l = some l := by
  unfold laws_toIntS.f
  rw [if_pos (by omega), if_pos (by omega)]
  have := toIntS_l0 l hl l.length k 0 (List.replicate l.length 0) (by omega) (by omega) (by simp)
  simpa using this

-- block eqIntS
theorem eqIntS_l0 (l : List Int) (hl : l.length ≤ 1000000000) (d : Nat) : ∀ (k i : Nat), i + d = l.length → d < k → laws_eqIntS.l0 k l l i = some true := by
  induction d with
  | zero =>
    intro k i hd hk
    obtain ⟨k, rfl⟩ : ∃ m, k = m + 1 := ⟨k - 1, by omega⟩
    simp only [laws_eqIntS.l0]; rw [if_neg (by omega)]
  | succ d ih =>
    intro k i hd hk
    obtain ⟨k, rfl⟩ : ∃ m, k = m + 1 := ⟨k - 1, by omega⟩
    simp only [laws_eqIntS.l0]
    rw [if_pos (by omega), if_pos (by omega), if_pos (by omega), if_pos trivial, w64 (by omega)]
    exact ih k (i + 1) (by omega) (by omega)
theorem eqIntS_self {k : Nat} {l : List Int} (hl : l.length ≤ 1000000000) (hk : l.length < k) : laws_eqIntS.f k l l = some true := by
  unfold laws_eqIntS.f
  rw [if_pos rfl, show (0 : Int) = ((0 : Nat) : Int) from rfl, eqIntS_l0 l hl l.length k 0 (by omega) hk]

-- block l1Num
theorem strOf_one (n : Nat) : strOfNums [((n : Nat) : Int)] = ⟨#[UInt8.ofNat n]⟩ := rfl
theorem l1Num_eq : ∀ (u k : Nat), u < k → u ≤ 1000000 → spec_l1Num.f k (u : Int) = some ⟨(Lib.decDigits u).toArray⟩ ∧ (Lib.decDigits u).length ≤ u + 1 := by
  intro u
  induction u using Nat.strongRecOn with
  | _ u ih =>
    intro k hk hu
    obtain ⟨k, rfl⟩ : ∃ m, k = m + 1 := ⟨k - 1, by omega⟩
    have hd := Lib.decDigits.eq_def u
    by_cases h : u < 10
    · rw [dif_pos h] at hd
      rw [hd]
      refine ⟨?_, by simp⟩
      rw [spec_l1Num.f, if_pos (by omega), w64 (by omega)]
      rw [show (48 + (u : Int)) % 256 = ((48 + u : Nat) : Int) from by omega]
      rw [strOf_one]
    · rw [dif_neg h] at hd
      obtain ⟨e1, e2⟩ := ih (u / 10) (by omega) k (by omega) (by omega)
      rw [hd]
      refine ⟨?_, by rw [List.length_append]; simp; omega⟩
      have q1 : Int.tdiv (u : Int) 10 = ((u / 10 : Nat) : Int) := by rw [Int.tdiv_eq_ediv_of_nonneg (by omega)]; omega
      have q2 : Int.tmod (u : Int) 10 = ((u % 10 : Nat) : Int) := by rw [Int.tmod_eq_emod_of_nonneg (by omega)]; omega
      rw [spec_l1Num.f, if_neg (by omega), q1, q2, w64 (by omega), w64 (by omega), e1, Option.bind_some, Option.bind_some]
      rw [show (48 + ((u % 10 : Nat) : Int)) % 256 = ((48 + u % 10 : Nat) : Int) from by omega]
      have hs : (ByteArray.mk (Lib.decDigits (u / 10)).toArray).size = (Lib.decDigits (u / 10)).length := rfl
      have h1 : ∀ x : UInt8, (ByteArray.mk #[x]).size = 1 := fun _ => rfl
      rw [strOf_one, if_pos (by rw [hs, h1]; omega)]
      congr 1

theorem itoa_length (n : Int) (h : -30 ≤ n ∧ n ≤ 30) : (Lib.itoa n).length ≤ 32 := by
  unfold Lib.itoa
  have h1 := (l1Num_eq n.natAbs 100 (by omega) (by omega)).2
  have h2 := (l1Num_eq n.toNat 100 (by omega) (by omega)).2
  split
  · rw [List.length_cons]; omega
  · omega
theorem Itoa_eq (n : Int) (h : -30 ≤ n ∧ n ≤ 30) : strconv_Itoa.f n = some ⟨(Lib.itoa n).toArray⟩ := by
  unfold strconv_Itoa.f
  rw [if_pos (by omega)]
theorem mk_size (l : List UInt8) : (ByteArray.mk l.toArray).size = l.length := rfl
theorem mk_append (a b : List UInt8) : ByteArray.mk a.toArray ++ ByteArray.mk b.toArray = ByteArray.mk (a ++ b).toArray := by
  apply ByteArray.ext
  simp
theorem l1Int_eq {k : Nat} (hk : 100 < k) (n : Int) (h : -30 ≤ n ∧ n ≤ 30) : spec_l1Int.f k n = some ⟨(Lib.itoa n).toArray⟩ := by
  unfold spec_l1Int.f Lib.itoa
  by_cases c : n < 0
  · rw [if_pos c, if_pos c]
    obtain ⟨e1, e2⟩ := l1Num_eq n.natAbs k (by omega) (by omega)
    rw [w64 (by omega), show -n = ((n.natAbs : Nat) : Int) from by omega, e1, Option.bind_some, if_pos (by rw [mk_size]; omega)]
    rw [show (⟨#[45]⟩ : ByteArray) = ⟨[45].toArray⟩ from rfl, mk_append]
    rfl
  · rw [if_neg c, if_neg c]
    obtain ⟨e1, e2⟩ := l1Num_eq n.toNat k (by omega) (by omega)
    rw [show n = ((n.toNat : Nat) : Int) from by omega, e1, Option.bind_some, Int.toNat_natCast]
theorem tail_cons (x : List UInt8) (r : List (List UInt8)) : Lib.joinTail [44] (x :: r) = 44 :: (x ++ Lib.joinTail [44] r) := by
  simp [Lib.joinTail]
theorem tail_length (r : List Int) (h : ∀ x ∈ r, -30 ≤ x ∧ x ≤ 30) : (Lib.joinTail [44] (r.map Lib.itoa)).length ≤ 33 * r.length := by
  induction r with
  | nil => simp [Lib.joinTail]
  | cons x r ih =>
    rw [List.map_cons, tail_cons, List.length_cons, List.length_append, List.length_cons]
    have h1 := itoa_length x (h x (by simp))
    have h2 := ih (fun y hy => h y (List.mem_cons_of_mem _ hy))
    omega
theorem text_l0 (l : List Int) (hl : l.length ≤ 30) (hr : ∀ x ∈ l, -30 ≤ x ∧ x ≤ 30) (d : Nat) : ∀ (k i : Nat) (acc : List UInt8), 0 < i → i + d = l.length → d + 100 < k → acc.length ≤ 100 * i →
    spec_baText.l0 k ⟨acc.toArray⟩ l l.length i = some ⟨(acc ++ Lib.joinTail [44] ((l.drop i).map Lib.itoa)).toArray⟩ := by
  induction d with
  | zero =>
    intro k i acc h0 hi hk ha
    obtain ⟨k, rfl⟩ : ∃ m, k = m + 1 := ⟨k - 1, by omega⟩
    rw [spec_baText.l0, if_neg (by omega), List.drop_eq_nil_of_le (by omega)]
    simp [Lib.joinTail]
  | succ d ih =>
    intro k i acc h0 hi hk ha
    obtain ⟨k, rfl⟩ : ∃ m, k = m + 1 := ⟨k - 1, by omega⟩
    have hx : rd l (i : Int) = l[i] := by simp [rd, List.getD_eq_getElem?_getD, List.getElem?_eq_getElem (show i < l.length by omega)]
    have hb := hr l[i] (List.getElem_mem _)
    have hn := itoa_length _ hb
    rw [spec_baText.l0, if_pos (by omega), if_pos (by omega), if_pos (by omega), if_pos (by omega), if_pos (by rw [mk_size]; omega), hx, l1Int_eq (by omega) _ hb, Option.bind_some]
    rw [show (⟨#[44]⟩ : ByteArray) = ⟨[44].toArray⟩ from rfl, mk_append, mk_size, mk_size, if_pos (by simp; omega), mk_append, w64 (by omega)]
    rw [show ((i : Int) + 1) = ((i + 1 : Nat) : Int) from by omega, ih k (i + 1) _ (by omega) (by omega) (by omega) (by simp; omega)]
    rw [List.drop_eq_getElem_cons (show i < l.length by omega), List.map_cons, tail_cons]
    simp
theorem baText_eq {k : Nat} (hk : 300 < k) (l : List Int) (h1 : 1 ≤ l.length) (hl : l.length ≤ 30) (hr : ∀ x ∈ l, -30 ≤ x ∧ x ≤ 30) :
    spec_baText.f k l = some ⟨(Lib.join (l.map Lib.itoa) [44]).toArray⟩ := by
  obtain ⟨k, rfl⟩ : ∃ m, k = m + 1 := ⟨k - 1, by omega⟩
  unfold spec_baText.f
  cases l with
  | nil => simp at h1
  | cons x r =>
    have hb := hr x (by simp)
    have hn := itoa_length _ hb
    rw [spec_baText.l0, if_pos (by simp only [List.length_cons]; omega), if_pos (by omega), if_pos (by simp only [List.length_cons]; omega), if_neg (by omega), show rd (x :: r) 0 = x from rfl, l1Int_eq (by omega) _ hb, Option.bind_some]
    rw [show (⟨#[]⟩ : ByteArray) = ⟨([] : List UInt8).toArray⟩ from rfl, mk_append, mk_size, mk_size, if_pos (by simp; omega), w64 (by omega)]
    rw [show ((0 : Int) + 1) = ((1 : Nat) : Int) from rfl, text_l0 (x :: r) hl hr r.length k 1 _ (by omega) (by simp; omega) (by simp at hl; omega) (by simp; omega)]
    rw [List.map_cons, Lib.join_cons]
    simp
def ITB (n : Int) : ByteArray := ⟨(Lib.itoa n).toArray⟩
theorem itb_map (l : List Int) : (l.map ITB).map (·.data.toList) = l.map Lib.itoa := by
  rw [List.map_map]
  apply List.map_congr_left
  intro x _
  simp [ITB]
theorem joined_l0 (l : List Int) (hl1 : 1 ≤ l.length) (hl : l.length ≤ 30) (hr : ∀ x ∈ l, -30 ≤ x ∧ x ≤ 30) (d : Nat) : ∀ (k i : Nat), i + d = l.length → d < k →
    impl_joined.l0 k ⟨[44].toArray⟩ ((l.take i).map ITB) l l.length i = some ⟨(Lib.join (l.map Lib.itoa) [44]).toArray⟩ := by
  induction d with
  | zero =>
    intro k i hi hk
    obtain ⟨k, rfl⟩ : ∃ m, k = m + 1 := ⟨k - 1, by omega⟩
    rw [impl_joined.l0, if_neg (by omega), List.take_of_length_le (by omega)]
    unfold strings_Join.f
    rw [itb_map, if_pos ?_]
    · rfl
    · rw [List.length_map]
      refine ⟨by omega, ?_⟩
      cases l with
      | nil => simp at hl1
      | cons x r =>
        rw [List.map_cons, Lib.join_cons, List.length_append]
        have h1 := itoa_length x (hr x (by simp))
        have h2 := tail_length r (fun y hy => hr y (List.mem_cons_of_mem _ hy))
        rw [List.length_cons] at hl
        show (Lib.itoa x).length + (Lib.joinTail [44] (r.map Lib.itoa)).length ≤ _
        omega
  | succ d ih =>
    intro k i hi hk
    obtain ⟨k, rfl⟩ : ∃ m, k = m + 1 := ⟨k - 1, by omega⟩
    have hx : rd l (i : Int) = l[i] := by simp [rd, List.getD_eq_getElem?_getD, List.getElem?_eq_getElem (show i < l.length by omega)]
    have hb := hr l[i] (List.getElem_mem _)
    rw [impl_joined.l0, if_pos (by omega), if_pos (by omega), if_pos (by omega), hx, Itoa_eq _ hb, Option.bind_some, if_pos (by simp; omega), w64 (by omega)]
    rw [show ((i : Int) + 1) = ((i + 1 : Nat) : Int) from by omega, ← ih k (i + 1) (by omega) (by omega)]
    rw [List.take_succ_eq_append_getElem (show i < l.length by omega), List.map_append]
    rfl
theorem JumpsText_eq {k : Nat} (hk : 3000 < k) (l : List Int) (hl : l.length ≤ 1048576) : ∃ r, spec_JumpsText.f k l = some r ∧ impl_JumpsText.f k l = some r := by
  unfold spec_JumpsText.f impl_JumpsText.f
  rw [baGood_eq (by omega), AreJumps_eq, Option.bind_some, Option.bind_some]
  by_cases h : jumpsB l = true
  · have g := jumpsB_true h
    rw [if_pos h, if_pos h, baText_eq (by omega) l g.1.1 g.1.2 g.2]
    unfold impl_joined.f
    rw [show (⟨#[44]⟩ : ByteArray) = ⟨[44].toArray⟩ from rfl, show ([] : List ByteArray) = (l.take 0).map ITB from rfl, show (0 : Int) = ((0 : Nat) : Int) from rfl, joined_l0 l g.1.1 g.1.2 g.2 l.length k 0 (by omega) (by omega)]
    exact ⟨_, rfl, rfl⟩
  · rw [if_neg h, if_neg h]; exact ⟨_, rfl, rfl⟩
theorem FnExactJumpsText : laws_FnExactJumpsText.Pure := by
  intro l  _ _ _ 
  obtain ⟨k, hk⟩ : ∃ k, 2000000 < k := ⟨2000001, by omega⟩
  refine ⟨k + 1, ?_⟩
  unfold laws_FnExactJumpsText.f
  by_cases hs : (l.length : Int) > 1048576
  · rw [if_pos hs]
  · obtain ⟨r, h1, h2⟩ := JumpsText_eq (k := k + 1) (by omega) l (by omega) 
    rw [if_neg hs, toIntS_eq (by omega) (by omega), Option.bind_some, h1, Option.bind_some, Option.bind_some, h2, Option.bind_some, if_pos rfl, laws_FnExactJumpsText.j0, if_neg (by simp), toIntS_eq (by omega) (by omega), Option.bind_some, eqIntS_self (by omega) (by omega), Option.bind_some, if_pos rfl]

end Go.Proofs.YtbbkbooiefoihaaDoor.Pure
