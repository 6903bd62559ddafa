/- The program's ParseSpiral returns what the reference's returns, for all arguments. No condition. -/
import Derived.Test.YtalnjklklpnnhaaDoorPFnExactParseSpiralx4
namespace Go.Proofs.YtalnjklklpnnhaaDoor.Pure
open Go.RowKit Go.Proofs.YtalnjklklpnnhaaDoor.PFnExactParseSpiral Go.Proofs.YtalnjklklpnnhaaDoorW.PrintWords Go.Proofs.YtalnjklklpnnhaaDoorW.PrintLast Go.Proofs.YtalnjklklpnnhaaDoorW.PrintMore
set_option linter.unusedVariables false
set_option linter.unusedSimpArgs false

-- block w64
theorem w64 {x : Int} (h : -9223372036854775808 ≤ x ∧ x ≤ 9223372036854775807) : wrap64 x = x := by
  unfold wrap64; omega

-- block digits
/- Decimal digits: what Atoi's parse and the reference's l1Read make of them. -/
theorem dec_pos (u : Nat) : Lib.decDigits u ≠ [] := by
  rw [Lib.decDigits]
  split <;> simp
theorem dec_range (u : Nat) : ∀ b ∈ Lib.decDigits u, 48 ≤ b.toNat ∧ b.toNat ≤ 57 := by
  induction u using Nat.strongRecOn with
  | _ u ih =>
    intro b hb
    rw [Lib.decDigits] at hb
    split at hb
    · rw [List.mem_singleton.1 hb, UInt8.toNat_ofNat']; omega
    · rcases List.mem_append.1 hb with h | h
      · exact ih (u / 10) (by omega) b h
      · rw [List.mem_singleton.1 h, UInt8.toNat_ofNat']; omega
theorem dec_length (k : Nat) : ∀ u, u < 10 ^ (k + 1) → (Lib.decDigits u).length ≤ k + 1 := by
  induction k with
  | zero =>
    intro u hu
    rw [Lib.decDigits, dif_pos (by omega)]
    simp
  | succ k ih =>
    intro u hu
    rw [Lib.decDigits]
    split
    · simp
    · have := ih (u / 10) (by rw [Nat.pow_succ] at hu; omega)
      rw [List.length_append, List.length_singleton]; omega
theorem dec_one (u : Nat) (h : u < 10) : Lib.decDigits u = [UInt8.ofNat (48 + u)] := by rw [Lib.decDigits, dif_pos h]
theorem dec_head (u : Nat) (h : 0 < u) : (Lib.decDigits u).head? ≠ some 48 := by
  induction u using Nat.strongRecOn with
  | _ u ih =>
    rw [Lib.decDigits]
    split
    · rename_i hu
      intro e
      have e := congrArg UInt8.toNat (Option.some.inj e)
      rw [UInt8.toNat_ofNat'] at e
      have : (48 : UInt8).toNat = 48 := rfl
      omega
    · have h1 := ih (u / 10) (by omega) (by omega)
      have h2 := dec_pos (u / 10)
      cases hd : Lib.decDigits (u / 10) with
      | nil => exact absurd hd h2
      | cons a r => rw [hd] at h1; simpa using h1
theorem parse_dec (u : Nat) (hu : u ≤ 1000000000) : ∀ r, Lib.parseUint10 0 (Lib.decDigits u ++ r) = Lib.parseUint10 u r := by
  induction u using Nat.strongRecOn with
  | _ u ih =>
    intro r
    rw [Lib.decDigits]
    split
    · rename_i h
      have e : (UInt8.ofNat (48 + u)).toNat = 48 + u := by rw [UInt8.toNat_ofNat']; omega
      rw [List.singleton_append, Lib.parseUint10, e, if_pos (by omega), if_neg (by omega), if_neg (by omega)]
      congr 1; omega
    · have e : (UInt8.ofNat (48 + u % 10)).toNat = 48 + u % 10 := by rw [UInt8.toNat_ofNat']; omega
      rw [List.append_assoc, ih (u / 10) (by omega) (by omega), List.singleton_append, Lib.parseUint10, e, if_pos (by omega), if_neg (by omega), if_neg (by omega)]
      congr 1; omega
theorem parse_dec0 (u : Nat) (hu : u ≤ 1000000000) : Lib.parseUint10 0 (Lib.decDigits u) = .ok u := by
  have := parse_dec u hu []
  rw [List.append_nil] at this
  rw [this, Lib.parseUint10]
theorem atoi_dec (u : Nat) (hu : u ≤ 1000000000) : Lib.atoiAll (Lib.decDigits u) = .ok (u : Int) := by
  cases hd : Lib.decDigits u with
  | nil => exact absurd hd (dec_pos u)
  | cons c r =>
    have hc := dec_range u c (by rw [hd]; simp)
    have hp := parse_dec0 u hu
    rw [hd] at hp
    unfold Lib.atoiAll
    simp only []
    rw [if_neg (by omega)]
    unfold Lib.parseMag
    rw [if_neg (by simp), hp]
    simp only []
    rw [if_neg (by omega), if_neg (by omega), if_neg (by omega)]
theorem atoi_dec_neg (u : Nat) (hu : u ≤ 1000000000) : Lib.atoiAll (45 :: Lib.decDigits u) = .ok (-(u : Int)) := by
  unfold Lib.atoiAll
  have h45 : (45 : UInt8).toNat = 45 := rfl
  simp only []
  rw [if_pos (Or.inr h45)]
  unfold Lib.parseMag
  rw [if_neg (dec_pos u), parse_dec0 u hu]
  simp only []
  rw [if_neg (by omega), if_neg (by omega), if_pos h45]
theorem itoa_nat (u : Nat) : Lib.itoa (u : Int) = Lib.decDigits u := by
  unfold Lib.itoa
  rw [if_neg (by omega), Int.toNat_natCast]

-- block numV
theorem numV_dec (u : Nat) (hu : u ≤ 999999) : numV (Lib.decDigits u) = u := by
  unfold numV
  rw [atoi_dec u (by omega)]
  simp only []
  rw [if_neg (by omega), if_neg (by omega), itoa_nat, if_pos rfl]
theorem numV_pos {l : List UInt8} {v : Int} (h : numV l = v) (hv : 0 ≤ v) : l = Lib.itoa v := by
  unfold numV at h
  split at h
  · split at h
    · omega
    · split at h
      · omega
      · split at h
        · rename_i e; rw [← h]; exact e.symm
        · omega
  · omega
theorem num_eq (s : ByteArray) (h : s.size ≤ 281474976710656) : impl_num.f s = some (numV s.data.toList) := by
  unfold impl_num.f
  rw [if_pos h]

-- block l1In
theorem l1In_eq (a b c : Int) : spec_l1In.f a b c = some (decide (b ≤ a ∧ a ≤ c)) := by
  unfold spec_l1In.f
  by_cases h : a ≥ b
  · rw [if_pos h]; simp [show b ≤ a from h]
  · rw [if_neg h]; simp [show ¬ b ≤ a from h]

-- block l1Read
theorem bt_lst (s : ByteArray) (i : Nat) (h : i < s.data.toList.length) : bt s (i : Int) = (s.data.toList[i].toNat : Int) := by
  have := bt_at s (i : Int) (show (i : Int).toNat < s.size from h)
  rw [← this]
  rfl
def readV (l : List UInt8) : Int := if (1 ≤ l.length ∧ l.length ≤ 6) ∧ ¬ (l.head? = some 48 ∧ 1 < l.length) then (match Lib.parseUint10 0 l with | .ok u => (u : Int) | _ => -1) else -1
theorem read_l0 (s : ByteArray) (hs : s.size ≤ 6) (d : Nat) : ∀ (k i acc : Nat), i + d = s.size → d < k → acc < 10 ^ i →
    spec_l1Read.l0 k s acc i = some (match Lib.parseUint10 acc (s.data.toList.drop i) with | .ok u => (u : Int) | _ => -1) := by
  have hz : s.size = s.data.toList.length := rfl
  induction d with
  | zero =>
    intro k i acc hi hk ha
    obtain ⟨k, rfl⟩ : ∃ m, k = m + 1 := ⟨k - 1, by omega⟩
    rw [spec_l1Read.l0, if_neg (by omega), List.drop_eq_nil_of_le (by omega), Lib.parseUint10]
  | succ d ih =>
    intro k i acc hi hk ha
    obtain ⟨k, rfl⟩ : ∃ m, k = m + 1 := ⟨k - 1, by omega⟩
    have hacc : acc < 1000000 := Nat.lt_of_lt_of_le ha (Nat.pow_le_pow_right (by omega) (show i ≤ 6 by omega))
    have hil : i < s.data.toList.length := by omega
    have hb := UInt8.toNat_lt (s.data.toList[i])
    rw [spec_l1Read.l0, if_pos (by omega), if_pos (by omega), bt_lst s i hil, List.drop_eq_getElem_cons hil, Lib.parseUint10]
    generalize s.data.toList[i] = b at *
    by_cases h1 : (b.toNat : Int) < 48
    · rw [if_pos h1, if_neg (by omega)]
    · rw [if_neg h1]
      by_cases h2 : (b.toNat : Int) > 57
      · rw [if_pos h2, if_neg (by omega)]
      · rw [if_neg h2, if_pos (by omega), if_neg (by omega), if_neg (by omega), w64 (x := 10 * (acc : Int)) (by omega), w64 (x := 10 * (acc : Int) + ((b.toNat : Int) - 48) % 256) (by omega), w64 (x := (i : Int) + 1) (by omega)]
        rw [show (10 * (acc : Int) + ((b.toNat : Int) - 48) % 256) = ((acc * 10 + (b.toNat - 48) : Nat) : Int) from by omega, show ((i : Int) + 1) = ((i + 1 : Nat) : Int) from by omega]
        exact ih k (i + 1) _ (by omega) (by omega) (by rw [Nat.pow_succ]; omega)
theorem l1Read_eq {k : Nat} (s : ByteArray) (hs : s.size ≤ 9000000000000000000) (hk : 20 < k) : spec_l1Read.f k s = some (readV s.data.toList) := by
  have hz : s.size = s.data.toList.length := rfl
  obtain ⟨k, rfl⟩ : ∃ m, k = m + 1 := ⟨k - 1, by omega⟩
  unfold spec_l1Read.f readV
  rw [l1In_eq, Option.bind_some]
  by_cases h : 1 ≤ s.data.toList.length ∧ s.data.toList.length ≤ 6
  · rw [if_pos (by simp; omega), if_pos (by omega)]
    have hb : bt s 0 = (s.data.toList[0].toNat : Int) := bt_lst s 0 (by omega)
    have hh : s.data.toList.head? = some s.data.toList[0] := by rw [List.head?_eq_getElem?, List.getElem?_eq_getElem]
    have hr := read_l0 s (by omega) s.size k 0 0 (by omega) (by omega) (by simp)
    rw [List.drop_zero] at hr
    have hr' : spec_l1Read.l0 k s 0 0 = _ := hr
    rw [hb, hh]
    by_cases c : (s.data.toList[0].toNat : Int) = 48
    · rw [if_pos c]
      have c' : s.data.toList[0] = 48 := UInt8.toNat_inj.1 (by show _ = 48; omega)
      by_cases c2 : (s.size : Int) > 1
      · rw [decide_eq_true c2, spec_l1Read.j0, if_pos rfl, if_neg (fun z => z.2 ⟨by rw [c'], by omega⟩)]
      · rw [decide_eq_false c2, spec_l1Read.j0, if_neg (by decide), if_pos ⟨h, fun z => by omega⟩]
        exact hr'
    · rw [if_neg c, spec_l1Read.j0, if_neg (by decide), if_pos ⟨h, fun z => c (by rw [Option.some.inj z.1]; rfl)⟩]
      exact hr'
  · rw [if_neg (by simp; omega), spec_l1Read.j0, if_pos rfl, if_neg (fun z => h z.1)]
theorem readV_dec (u : Nat) (hu : u < 1000000) : readV (Lib.decDigits u) = u := by
  unfold readV
  have h1 := dec_length 5 u (by omega)
  have h2 : 0 < (Lib.decDigits u).length := List.length_pos_iff.2 (dec_pos u)
  have h3 : ¬ ((Lib.decDigits u).head? = some 48 ∧ 1 < (Lib.decDigits u).length) := by
    rintro ⟨z1, z2⟩
    rcases Nat.eq_zero_or_pos u with h | h
    · subst h; rw [dec_one 0 (by omega)] at z2; simp at z2
    · exact dec_head u h z1
  rw [if_pos ⟨⟨h2, h1⟩, h3⟩, parse_dec0 u (by omega)]

-- block l1Split
/- The reference's l1Split: the pieces of a text between the occurrences of a byte. -/
def splitA (c : UInt8) : List UInt8 → List UInt8 → List (List UInt8)
  | cur, [] => [cur]
  | cur, b :: r => if b = c then cur :: splitA c [] r else splitA c (cur ++ [b]) r
def BA (l : List UInt8) : ByteArray := ⟨l.toArray⟩
def piece (L : List UInt8) (st i : Nat) : List UInt8 := (L.drop st).take (i - st)
theorem piece_succ (L : List UInt8) (st i : Nat) (h1 : st ≤ i) (h2 : i < L.length) : piece L st (i + 1) = piece L st i ++ [L[i]] := by
  unfold piece
  rw [show i + 1 - st = (i - st) + 1 from by omega, List.take_succ_eq_append_getElem (by rw [List.length_drop]; omega)]
  congr 2
  rw [List.getElem_drop]
  congr 1; omega
theorem piece_self (L : List UInt8) (i : Nat) : piece L i i = [] := by simp [piece]
theorem split_l0 (s : ByteArray) (c : UInt8) (hs : s.size ≤ 1048576) (d : Nat) : ∀ (k i st : Nat) (acc : List ByteArray), i + d = s.size → d < k → st ≤ i → acc.length ≤ i →
    spec_l1Split.l0 k s (c.toNat : Int) acc st i = some (acc ++ (splitA c (piece s.data.toList st i) (s.data.toList.drop i)).map BA) := by
  have hz : s.size = s.data.toList.length := rfl
  induction d with
  | zero =>
    intro k i st acc hi hk h1 h2
    obtain ⟨k, rfl⟩ : ∃ m, k = m + 1 := ⟨k - 1, by omega⟩
    rw [spec_l1Split.l0, if_neg (by omega), if_pos (by omega), if_pos (by omega), if_pos (by omega), List.drop_eq_nil_of_le (show s.data.toList.length ≤ i by omega), splitA, Lib.extract_eq, Int.toNat_natCast]
    rw [show s.size = i from by omega]
    rfl
  | succ d ih =>
    intro k i st acc hi hk h1 h2
    obtain ⟨k, rfl⟩ : ∃ m, k = m + 1 := ⟨k - 1, by omega⟩
    have hil : i < s.data.toList.length := by omega
    rw [spec_l1Split.l0, if_pos (by omega), if_pos (by omega), bt_lst s i hil, List.drop_eq_getElem_cons hil, splitA]
    by_cases hb : s.data.toList[i] = c
    · rw [if_pos (by rw [hb]), if_pos hb, if_pos (by omega), if_pos (by omega), if_pos (by omega), if_pos (by omega), w64 (by omega), Lib.extract_eq, Int.toNat_natCast, Int.toNat_natCast]
      rw [show ((i : Int) + 1) = ((i + 1 : Nat) : Int) from by omega, ih k (i + 1) (i + 1) _ (by omega) (by omega) (by omega) (by simp; omega), piece_self, List.map_cons, List.append_assoc]
      rfl
    · rw [if_neg (fun z => hb (UInt8.toNat_inj.1 (by omega))), if_neg hb, w64 (by omega)]
      rw [show ((i : Int) + 1) = ((i + 1 : Nat) : Int) from by omega, ih k (i + 1) st _ (by omega) (by omega) (by omega) (by omega), piece_succ _ _ _ h1 hil]
theorem l1Split_eq {k : Nat} (s : ByteArray) (c : UInt8) (hs : s.size ≤ 1048576) (hk : 1048577 < k) : spec_l1Split.f k s (c.toNat : Int) = some ((splitA c [] s.data.toList).map BA) := by
  unfold spec_l1Split.f
  have := split_l0 s c hs s.size k 0 0 [] (by omega) (by omega) (by omega) (by simp)
  rw [piece_self, List.drop_zero, List.nil_append] at this
  exact this
theorem split_none (c : UInt8) (l : List UInt8) : ∀ cur, c ∉ l → splitA c cur l = [cur ++ l] := by
  induction l with
  | nil => intro cur _; simp [splitA]
  | cons b r ih =>
    intro cur h
    rw [splitA, if_neg (fun z => h (by simp [z])), ih _ (fun z => h (List.mem_cons_of_mem _ z))]
    simp
theorem split_some (c : UInt8) (a r : List UInt8) : ∀ cur, c ∉ a → splitA c cur (a ++ c :: r) = (cur ++ a) :: splitA c [] r := by
  induction a with
  | nil => intro cur _; simp [splitA]
  | cons b a ih =>
    intro cur h
    rw [List.cons_append, splitA, if_neg (fun z => h (by simp [z])), ih _ (fun z => h (List.mem_cons_of_mem _ z))]
    simp
theorem BA_list (l : List UInt8) : (BA l).data.toList = l := by simp [BA]
theorem BA_size (l : List UInt8) : (BA l).size = l.length := rfl
theorem split_length (c : UInt8) (l : List UInt8) : ∀ cur p, p ∈ splitA c cur l → p.length ≤ cur.length + l.length := by
  induction l with
  | nil => intro cur p hp; rw [splitA, List.mem_singleton] at hp; rw [hp]; simp
  | cons b r ih =>
    intro cur p hp
    rw [splitA] at hp
    split at hp
    · rcases List.mem_cons.1 hp with h | h
      · rw [h]; omega
      · have := ih [] p h; simp at this ⊢; omega
    · have := ih _ p hp; simp at this ⊢; omega

-- block cut
/- strings.Cut at one byte. -/
theorem cut_hit (c : UInt8) (a r : List UInt8) (h : c ∉ a) : Lib.cut (a ++ c :: r) [c] = (a, r, true) := by
  have hi : ∀ a : List UInt8, c ∉ a → Lib.indexByte (a ++ c :: r) c = (a.length : Int) := by
    intro a
    induction a with
    | nil => intro _; simp [Lib.indexByte]
    | cons b a ih =>
      intro h
      have h1 := ih (fun z => h (List.mem_cons_of_mem _ z))
      rw [List.cons_append, Lib.indexByte, h1, if_neg (by simp; exact fun z => h (by simp [z])), if_neg (by first | (simp; done) | (simp; omega))]
      simp
  unfold Lib.cut
  rw [Lib.index_one, hi a h, if_pos (by omega), Int.toNat_natCast]
  simp
theorem first_of_mem (c : UInt8) (l : List UInt8) (h : c ∈ l) : ∃ a r, l = a ++ c :: r ∧ c ∉ a := by
  induction l with
  | nil => cases h
  | cons b l ih =>
    by_cases e : b = c
    · exact ⟨[], l, by rw [e]; rfl, by simp⟩
    · obtain ⟨a, r, e1, e2⟩ := ih ((List.mem_cons.1 h).resolve_left (fun z => e z.symm))
      refine ⟨b :: a, r, by rw [e1]; rfl, fun z => ?_⟩
      rcases List.mem_cons.1 z with z | z
      · exact e z.symm
      · exact e2 z
theorem cut_inv (c : UInt8) (l : List UInt8) : (c ∉ l ∧ Lib.cut l [c] = (l, [], false)) ∨ ∃ a r, c ∉ a ∧ l = a ++ c :: r ∧ Lib.cut l [c] = (a, r, true) := by
  by_cases h : c ∈ l
  · right
    obtain ⟨a, r, e, h2⟩ := first_of_mem c l h
    exact ⟨a, r, h2, e, by rw [e]; exact cut_hit c a r h2⟩
  · left
    refine ⟨h, ?_⟩
    have hi : Lib.indexByte l c = -1 := by
      have hg := Lib.indexByte_ge l c
      by_cases e : Lib.indexByte l c = -1
      · exact e
      · obtain ⟨o, ho⟩ := Int.eq_ofNat_of_zero_le (show 0 ≤ Lib.indexByte l c by omega)
        have := (Lib.indexByte_some ho).1
        exact absurd (List.mem_of_getElem? this) h
    unfold Lib.cut
    rw [Lib.index_one, hi, if_neg (by omega)]

-- block within
theorem within_eq (a b c : Int) : impl_within.f a b c = some (decide (b ≤ a ∧ a ≤ c)) := by
  unfold impl_within.f
  by_cases h : b ≤ a
  · rw [if_pos h]; simp [h]
  · rw [if_neg h]; simp [h]

-- block tdiv
theorem tdiv_nat (a b : Nat) : Int.tdiv (a : Int) (b : Int) = ((a / b : Nat) : Int) := rfl
theorem tmod_nat (a b : Nat) : Int.tmod (a : Int) (b : Int) = ((a % b : Nat) : Int) := rfl
theorem tdiv_pos {a b : Int} (ha : 0 ≤ a) : Int.tdiv a b = a / b := Int.tdiv_eq_ediv_of_nonneg ha
theorem tmod_pos {a b : Int} (ha : 0 ≤ a) : Int.tmod a b = a % b := Int.tmod_eq_emod_of_nonneg ha

-- block spiral
def goodB (a b c : Int) : Bool := decide ((1 ≤ a ∧ a ≤ 400) ∧ (3 ≤ b ∧ b ≤ 60) ∧ (1 ≤ c ∧ c ≤ 300))
theorem spGood_eq (a b c : Int) : spec_spGood.f a b c = some (goodB a b c) := by
  unfold spec_spGood.f goodB
  rw [l1In_eq, l1In_eq, l1In_eq]
  simp only [Option.bind_some]
  by_cases h : 1 ≤ a ∧ a ≤ 400
  · by_cases g : 3 ≤ b ∧ b ≤ 60
    · rw [if_pos (decide_eq_true h), if_pos (decide_eq_true g)]; congr 1; rw [decide_eq_decide]; omega
    · rw [if_pos (decide_eq_true h), if_neg (by simpa using g)]; congr 1; rw [eq_comm, decide_eq_false_iff_not]; omega
  · rw [if_neg (by simpa using h)]; congr 1; rw [eq_comm, decide_eq_false_iff_not]; omega

-- block IsSpiral
theorem IsSpiral_eq (a b c : Int) : impl_IsSpiral.f a b c = some (goodB a b c) := by
  unfold impl_IsSpiral.f goodB
  rw [within_eq, within_eq, within_eq]
  simp only [Option.bind_some]
  by_cases h : 1 ≤ a ∧ a ≤ 400
  · by_cases g : 3 ≤ b ∧ b ≤ 60
    · rw [if_pos (decide_eq_true h), if_pos (decide_eq_true g)]; congr 1; rw [decide_eq_decide]; omega
    · rw [if_pos (decide_eq_true h), if_neg (by simpa using g)]; congr 1; rw [eq_comm, decide_eq_false_iff_not]; omega
  · rw [if_neg (by simpa using h)]; congr 1; rw [eq_comm, decide_eq_false_iff_not]; omega

-- block l1Num
theorem strOf_one (n : Nat) : strOfNums [((n : Nat) : Int)] = ⟨#[UInt8.ofNat n]⟩ := rfl
theorem l1Num_eq : ∀ (u k : Nat), u < k → u ≤ 1000000 → spec_l1Num.f k (u : Int) = some ⟨(Lib.decDigits u).toArray⟩ ∧ (Lib.decDigits u).length ≤ u + 1 := by
  intro u
  induction u using Nat.strongRecOn with
  | _ u ih =>
    intro k hk hu
    obtain ⟨k, rfl⟩ : ∃ m, k = m + 1 := ⟨k - 1, by omega⟩
    have hd := Lib.decDigits.eq_def u
    by_cases h : u < 10
    · rw [dif_pos h] at hd
      rw [hd]
      refine ⟨?_, by simp⟩
      rw [spec_l1Num.f, if_pos (by omega), w64 (by omega)]
      rw [show (48 + (u : Int)) % 256 = ((48 + u : Nat) : Int) from by omega]
      rw [strOf_one]
    · rw [dif_neg h] at hd
      obtain ⟨e1, e2⟩ := ih (u / 10) (by omega) k (by omega) (by omega)
      rw [hd]
      refine ⟨?_, by rw [List.length_append]; simp; omega⟩
      have q1 : Int.tdiv (u : Int) 10 = ((u / 10 : Nat) : Int) := by rw [Int.tdiv_eq_ediv_of_nonneg (by omega)]; omega
      have q2 : Int.tmod (u : Int) 10 = ((u % 10 : Nat) : Int) := by rw [Int.tmod_eq_emod_of_nonneg (by omega)]; omega
      rw [spec_l1Num.f, if_neg (by omega), q1, q2, w64 (by omega), w64 (by omega), e1, Option.bind_some, Option.bind_some]
      rw [show (48 + ((u % 10 : Nat) : Int)) % 256 = ((48 + u % 10 : Nat) : Int) from by omega]
      have hs : (ByteArray.mk (Lib.decDigits (u / 10)).toArray).size = (Lib.decDigits (u / 10)).length := rfl
      have h1 : ∀ x : UInt8, (ByteArray.mk #[x]).size = 1 := fun _ => rfl
      rw [strOf_one, if_pos (by rw [hs, h1]; omega)]
      congr 1

def textL (a b c : Int) : List UInt8 := Lib.itoa a ++ 64 :: (Lib.itoa b ++ 42 :: Lib.itoa c)
theorem dec_not (u : Nat) (x : UInt8) (h : x.toNat < 48 ∨ 57 < x.toNat) : x ∉ Lib.decDigits u := fun z => by
  have := dec_range u x z; omega
theorem len_two {α : Type} {l : List α} (h : l.length = 2) : ∃ a b, l = [a, b] := by
  match l, h with
  | [a, b], _ => exact ⟨a, b, rfl⟩
def okS (L : List UInt8) (r : Int × Int × Int × Bool) : Prop :=
  (∃ a b c, goodB a b c = true ∧ L = textL a b c ∧ r = (a, b, c, true)) ∨ ((∀ a b c, goodB a b c = true → L ≠ textL a b c) ∧ r = (0, 0, 0, false))
theorem itoa_inj {a b : Int} (ha : 0 ≤ a ∧ a ≤ 999999) (hb : 0 ≤ b ∧ b ≤ 999999) (h : Lib.itoa a = Lib.itoa b) : a = b := by
  obtain ⟨a, rfl⟩ := Int.eq_ofNat_of_zero_le ha.1
  obtain ⟨b, rfl⟩ := Int.eq_ofNat_of_zero_le hb.1
  rw [itoa_nat, itoa_nat] at h
  have h1 := numV_dec a (by omega)
  rw [h, numV_dec b (by omega)] at h1
  exact h1.symm
theorem good_nat {a b c : Int} (h : goodB a b c = true) : ∃ x y z : Nat, a = x ∧ b = y ∧ c = z ∧ x ≤ 400 ∧ y ≤ 60 ∧ z ≤ 300 ∧ 1 ≤ x ∧ 1 ≤ y ∧ 1 ≤ z := by
  have g : (1 ≤ a ∧ a ≤ 400) ∧ (3 ≤ b ∧ b ≤ 60) ∧ (1 ≤ c ∧ c ≤ 300) := of_decide_eq_true h
  exact ⟨a.toNat, b.toNat, c.toNat, by omega, by omega, by omega, by omega, by omega, by omega, by omega, by omega, by omega⟩
theorem text_parts {x y z : Nat} (L : List UInt8) (h : L = textL x y z) : L = Lib.decDigits x ++ 64 :: (Lib.decDigits y ++ 42 :: Lib.decDigits z) := by
  rw [h, textL, itoa_nat, itoa_nat, itoa_nat]
theorem impl_ok (s : ByteArray) (hs : s.size ≤ 1048576) : ∃ r, impl_ParseSpiral.f s = some r ∧ okS s.data.toList r := by
  unfold impl_ParseSpiral.f
  have ec : ∀ (t : ByteArray) (c : UInt8), t.size ≤ 1048576 → strings_Cut.f t ⟨#[c]⟩ = some (⟨(Lib.cut t.data.toList [c]).1.toArray⟩, ⟨(Lib.cut t.data.toList [c]).2.1.toArray⟩, (Lib.cut t.data.toList [c]).2.2) := by
    intro t c ht
    unfold strings_Cut.f
    rw [if_pos ⟨by omega, rfl⟩]
  have hz : s.size = s.data.toList.length := rfl
  generalize hL : s.data.toList = L at *
  rw [ec s 64 hs, hL, Option.bind_some]
  have hcut : (Lib.cut L [64]).1.length ≤ L.length ∧ (Lib.cut L [64]).2.1.length ≤ L.length := by
    rcases cut_inv 64 L with ⟨-, e⟩ | ⟨a, r, -, e1, e⟩
    · rw [e]; simp
    · rw [e, e1]; simp; omega
  generalize hA : (Lib.cut L [64]).1 = A at *
  generalize hR : (Lib.cut L [64]).2.1 = R at *
  rw [ec ⟨R.toArray⟩ 42 (by show R.length ≤ _; omega), Option.bind_some]
  have hlR : (⟨R.toArray⟩ : ByteArray).data.toList = R := by simp
  rw [hlR]
  have hcut2 : (Lib.cut R [42]).1.length ≤ R.length ∧ (Lib.cut R [42]).2.1.length ≤ R.length := by
    rcases cut_inv 42 R with ⟨-, e⟩ | ⟨a, r, -, e1, e⟩
    · rw [e]; simp
    · rw [e, e1]; simp; omega
  generalize hB : (Lib.cut R [42]).1 = B at *
  generalize hC : (Lib.cut R [42]).2.1 = C at *
  have en : ∀ l : List UInt8, l.length ≤ 1048576 → impl_num.f ⟨l.toArray⟩ = some (numV l) := by
    intro l hl
    rw [num_eq _ (by show l.length ≤ _; omega)]
  rw [en A (by omega), en B (by omega), en C (by omega)]
  simp only [Option.bind_some]
  rw [IsSpiral_eq, Option.bind_some]
  by_cases hg : goodB (numV A) (numV B) (numV C) = true
  · rw [if_pos hg]
    refine ⟨_, rfl, .inl ⟨_, _, _, hg, ?_, rfl⟩⟩
    have g : (1 ≤ numV A ∧ numV A ≤ 400) ∧ (3 ≤ numV B ∧ numV B ≤ 60) ∧ (1 ≤ numV C ∧ numV C ≤ 300) := of_decide_eq_true hg
    have eA := numV_pos (l := A) rfl (by omega)
    have eB := numV_pos (l := B) rfl (by omega)
    have eC := numV_pos (l := C) rfl (by omega)
    have hne : numV [] = -1 := rfl
    unfold textL
    rw [← eA, ← eB, ← eC]
    rcases cut_inv 64 L with ⟨-, e⟩ | ⟨a, r, -, e1, e⟩
    · rw [e] at hR
      subst hR
      rcases cut_inv 42 [] with ⟨-, e'⟩ | ⟨a', r', -, e1', -⟩
      · rw [e'] at hB; subst hB; rw [show numV [] = -1 from rfl] at g; omega
      · simp at e1'
    · rw [e] at hA hR
      subst hA; subst hR
      rcases cut_inv 42 r with ⟨-, e'⟩ | ⟨a', r', -, e1', e'⟩
      · rw [e'] at hC; subst hC; rw [show numV [] = -1 from rfl] at g; omega
      · rw [e'] at hB hC
        subst hB; subst hC
        rw [e1]
        simp only []
        rw [e1']
  · rw [if_neg hg]
    refine ⟨_, rfl, .inr ⟨fun a b c hg' hT => hg ?_, rfl⟩⟩
    obtain ⟨x, y, z, rfl, rfl, rfl, hx, hy, hz', -, -, -⟩ := good_nat hg'
    have hT := text_parts L hT
    rw [hT, cut_hit 64 _ _ (dec_not x 64 (by decide))] at hA hR
    subst hA; subst hR
    rw [cut_hit 42 _ _ (dec_not y 42 (by decide))] at hB hC
    subst hB; subst hC
    rw [numV_dec x (by omega), numV_dec y (by omega), numV_dec z (by omega)]
    exact hg'
theorem read_total {k : Nat} (hk : 20 < k) (l : List UInt8) (hl : l.length ≤ 1048576) : spec_l1Read.f k (BA l) = some (readV l) := by
  rw [l1Read_eq (BA l) (by rw [BA_size]; omega) hk, BA_list]
theorem spec_ok {k : Nat} (hk : 3000000 < k) (s : ByteArray) (hs : s.size ≤ 1048576) : ∃ r, spec_ParseSpiral.f k s = some r ∧ okS s.data.toList r := by
  obtain ⟨k, rfl⟩ : ∃ m, k = m + 1 := ⟨k - 1, by omega⟩
  unfold spec_ParseSpiral.f spec_spParse.f
  have hz : s.size = s.data.toList.length := rfl
  have e1 := l1Split_eq (k := k + 1) s 64 hs (by omega)
  replace e1 : spec_l1Split.f (k + 1) s 64 = _ := e1
  rw [e1, Option.bind_some]
  have hfl := split_length 64 s.data.toList []
  have hfull : ∀ x y z : Nat, x ≤ 400 → y ≤ 60 → z ≤ 300 → s.data.toList = textL x y z → splitA 64 [] s.data.toList = [Lib.decDigits x, Lib.decDigits y ++ 42 :: Lib.decDigits z] ∧ s.size ≤ 10 := by
    intro x y z hx hy hz' hT
    have hT' := text_parts _ hT
    refine ⟨?_, ?_⟩
    · rw [hT', split_some 64 _ _ [] (dec_not x 64 (by decide)), split_none 64 _ [] ?_, List.nil_append, List.nil_append]
      intro h
      rcases List.mem_append.1 h with h | h
      · exact dec_not y 64 (by decide) h
      · rcases List.mem_cons.1 h with h | h
        · cases h
        · exact dec_not z 64 (by decide) h
    · have a1 := dec_length 2 x (by omega)
      have a2 := dec_length 1 y (by omega)
      have a3 := dec_length 2 z (by omega)
      rw [hz, hT']
      simp only [List.length_append, List.length_cons]
      omega
  generalize hP : splitA 64 [] s.data.toList = P at *
  have bad : ∀ X : Prop, (∀ x y z : Nat, x ≤ 400 → y ≤ 60 → z ≤ 300 → s.data.toList ≠ textL x y z) → okS s.data.toList (0, 0, 0, false) := by
    intro _ h
    refine .inr ⟨fun a b c hg hT => ?_, rfl⟩
    obtain ⟨x, y, z, rfl, rfl, rfl, hx, hy, hz', -, -, -⟩ := good_nat hg
    exact h x y z hx hy hz' hT
  by_cases c1 : (s.size : Int) > 10
  · rw [if_pos c1, spec_spParse.j0, if_pos rfl]
    exact ⟨_, rfl, bad True (fun x y z hx hy hz' hT => by have := (hfull x y z hx hy hz' hT).2; omega)⟩
  · rw [if_neg c1, List.length_map]
    by_cases c2 : P.length = 2
    · have c2' : ((P.length : Int) != 2) = false := by simp; omega
      rw [c2', spec_spParse.j0, if_neg (by decide), List.length_map, if_pos (by omega)]
      obtain ⟨A, R, rfl⟩ : ∃ A R, P = [A, R] := len_two c2
      have hA : A.length ≤ 1048576 := by have := hfl A (by simp); simp at this; omega
      have hR : R.length ≤ 1048576 := by have := hfl R (by simp); simp at this; omega
      rw [show rdOf ByteArray.empty (List.map BA [A, R]) 1 = BA R from rfl, show rdOf ByteArray.empty (List.map BA [A, R]) 0 = BA A from rfl]
      have e2 := l1Split_eq (k := k) (BA R) 42 (by rw [BA_size]; exact hR) (by omega)
      replace e2 : spec_l1Split.f k (BA R) 42 = _ := e2
      rw [e2, Option.bind_some, BA_list, List.length_map]
      have hfl2 := split_length 42 R []
      have hfull2 : ∀ x y z : Nat, x ≤ 400 → y ≤ 60 → z ≤ 300 → s.data.toList = textL x y z → A = Lib.decDigits x ∧ splitA 42 [] R = [Lib.decDigits y, Lib.decDigits z] := by
        intro x y z hx hy hz' hT
        have e := (hfull x y z hx hy hz' hT).1
        injection e with ea e
        injection e with er e
        refine ⟨ea, ?_⟩
        rw [er, split_some 42 _ _ [] (dec_not y 42 (by decide)), split_none 42 _ [] (dec_not z 42 (by decide)), List.nil_append, List.nil_append]
      generalize hQ : splitA 42 [] R = Q at *
      by_cases c3 : Q.length = 2
      · rw [if_pos (by omega), if_pos (by omega), read_total (by omega) A hA, Option.bind_some, if_pos (by omega)]
        obtain ⟨B, C, rfl⟩ : ∃ B C, Q = [B, C] := len_two c3
        have hB : B.length ≤ 1048576 := by have := hfl2 B (by simp); simp at this; omega
        have hC : C.length ≤ 1048576 := by have := hfl2 C (by simp); simp at this; omega
        rw [show rdOf ByteArray.empty (List.map BA [B, C]) 1 = BA C from rfl, show rdOf ByteArray.empty (List.map BA [B, C]) 0 = BA B from rfl]
        rw [read_total (by omega) B hB, Option.bind_some, if_pos (by omega), read_total (by omega) C hC, Option.bind_some, spGood_eq, Option.bind_some]
        by_cases hg : goodB (readV A) (readV B) (readV C) = true
        · rw [if_pos hg]
          obtain ⟨x, y, z, ex, ey, ez, hx, hy, hz', -, -, -⟩ := good_nat hg
          rw [ex, ey, ez] at hg ⊢
          obtain ⟨ea, la⟩ := l1Num_eq x k (by omega) (by omega)
          obtain ⟨eb, lb⟩ := l1Num_eq y k (by omega) (by omega)
          obtain ⟨ec, lc⟩ := l1Num_eq z k (by omega) (by omega)
          have s1 : ∀ x : UInt8, (ByteArray.mk #[x]).size = 1 := fun _ => rfl
          have et : ∃ T, spec_spText.f k x y z = some T ∧ T.data.toList = textL x y z := by
            unfold spec_spText.f
            rw [ea, eb, ec]
            have sa : (ByteArray.mk (Lib.decDigits x).toArray).size = (Lib.decDigits x).length := rfl
            have sb : (ByteArray.mk (Lib.decDigits y).toArray).size = (Lib.decDigits y).length := rfl
            have sc : (ByteArray.mk (Lib.decDigits z).toArray).size = (Lib.decDigits z).length := rfl
            have da : (ByteArray.mk (Lib.decDigits x).toArray).data.toList = Lib.decDigits x := rfl
            have db : (ByteArray.mk (Lib.decDigits y).toArray).data.toList = Lib.decDigits y := rfl
            have dc : (ByteArray.mk (Lib.decDigits z).toArray).data.toList = Lib.decDigits z := rfl
            generalize ByteArray.mk (Lib.decDigits x).toArray = TA at *
            generalize ByteArray.mk (Lib.decDigits y).toArray = TB at *
            generalize ByteArray.mk (Lib.decDigits z).toArray = TC at *
            simp only [Option.bind_some]
            rw [if_pos (by omega), if_pos (by simp only [ByteArray.size_append, s1]; omega), if_pos (by simp only [ByteArray.size_append, s1]; omega), if_pos (by simp only [ByteArray.size_append, s1]; omega)]
            refine ⟨_, rfl, ?_⟩
            rw [textL, itoa_nat, itoa_nat, itoa_nat, ← da, ← db, ← dc]
            simp [ByteArray.data_append]
          obtain ⟨T, eT, hT⟩ := et
          rw [eT, Option.bind_some, Option.bind_some]
          simp only []
          by_cases h : s.data.toList = textL x y z
          · rw [if_pos (by rw [Lib.toList_data, Lib.toList_data, hT, h]; simp)]
            exact ⟨_, rfl, .inl ⟨x, y, z, hg, h, rfl⟩⟩
          · rw [if_neg (by rw [Lib.toList_data, Lib.toList_data, hT]; simpa using fun z => h z.symm)]
            refine ⟨_, rfl, bad True (fun x' y' z' hx' hy' hz'' hT' => h ?_)⟩
            obtain ⟨f1, f2⟩ := hfull2 x' y' z' hx' hy' hz'' hT'
            injection f2 with fb f2
            injection f2 with fc f2
            rw [f1, readV_dec x' (by omega)] at ex
            rw [fb, readV_dec y' (by omega)] at ey
            rw [fc, readV_dec z' (by omega)] at ez
            rw [hT', ex, ey, ez]
        · rw [if_neg hg, Option.bind_some, if_neg (by simp)]
          refine ⟨_, rfl, .inr ⟨fun a b c hg' hT' => hg ?_, rfl⟩⟩
          obtain ⟨x', y', z', rfl, rfl, rfl, hx', hy', hz'', -, -, -⟩ := good_nat hg'
          obtain ⟨f1, f2⟩ := hfull2 x' y' z' hx' hy' hz'' hT'
          injection f2 with fb f2
          injection f2 with fc f2
          rw [f1, fb, fc, readV_dec x' (by omega), readV_dec y' (by omega), readV_dec z' (by omega)]
          exact hg'
      · rw [if_neg (by omega), Option.bind_some, if_neg (by simp)]
        exact ⟨_, rfl, bad True (fun x y z hx hy hz' hT => c3 (by rw [(hfull2 x y z hx hy hz' hT).2]; rfl))⟩
    · have c2' : ((P.length : Int) != 2) = true := by simp; omega
      rw [c2', spec_spParse.j0, if_pos rfl, Option.bind_some, if_neg (by simp)]
      exact ⟨_, rfl, bad True (fun x y z hx hy hz' hT => c2 (by rw [(hfull x y z hx hy hz' hT).1]; rfl))⟩
theorem ok_unique {L : List UInt8} {r q : Int × Int × Int × Bool} (h : okS L r) (g : okS L q) : r = q := by
  rcases h with ⟨a, b, c, hg, hT, rfl⟩ | ⟨hn, rfl⟩
  · rcases g with ⟨a', b', c', hg', hT', rfl⟩ | ⟨hn', rfl⟩
    · obtain ⟨x, y, z, rfl, rfl, rfl, hx, hy, hz, -, -, -⟩ := good_nat hg
      obtain ⟨x', y', z', rfl, rfl, rfl, hx', hy', hz', -, -, -⟩ := good_nat hg'
      have e1 := text_parts _ hT
      have e2 := text_parts _ hT'
      have f1 := cut_hit 64 _ (Lib.decDigits y ++ 42 :: Lib.decDigits z) (dec_not x 64 (by decide))
      have f2 := cut_hit 64 _ (Lib.decDigits y' ++ 42 :: Lib.decDigits z') (dec_not x' 64 (by decide))
      rw [← e1, e2, f2] at f1
      injection f1 with f3 f4
      injection f4 with f4 f5
      have g1 := cut_hit 42 _ (Lib.decDigits z) (dec_not y 42 (by decide))
      have g2 := cut_hit 42 _ (Lib.decDigits z') (dec_not y' 42 (by decide))
      rw [← f4, g2] at g1
      injection g1 with g3 g4
      injection g4 with g4 g5
      have n1 := numV_dec x (by omega)
      have n2 := numV_dec y (by omega)
      have n3 := numV_dec z (by omega)
      rw [← f3, numV_dec x' (by omega)] at n1
      rw [← g3, numV_dec y' (by omega)] at n2
      rw [← g4, numV_dec z' (by omega)] at n3
      rw [n1, n2, n3]
    · exact absurd hT (hn' a b c hg)
  · rcases g with ⟨a', b', c', hg', hT', rfl⟩ | ⟨hn', rfl⟩
    · exact absurd hT' (hn a' b' c' hg')
    · rfl
theorem FnExactParseSpiral : laws_FnExactParseSpiral.Pure := by
  intro s _
  obtain ⟨k, hk⟩ : ∃ k, 3000000 < k := ⟨3000001, by omega⟩
  refine ⟨k, ?_⟩
  unfold laws_FnExactParseSpiral.f
  by_cases hs : (s.size : Int) > 1048576
  · rw [if_pos hs]
  · rw [if_neg hs]
    obtain ⟨r, h1, h2⟩ := spec_ok hk s (by omega)
    obtain ⟨q, h3, h4⟩ := impl_ok s (by omega)
    obtain rfl := ok_unique h2 h4
    rw [h1, Option.bind_some, h3, Option.bind_some]
    unfold laws_eqSpiral.f
    rw [if_pos rfl, if_pos rfl, if_pos rfl]
    simp

end Go.Proofs.YtalnjklklpnnhaaDoor.Pure
