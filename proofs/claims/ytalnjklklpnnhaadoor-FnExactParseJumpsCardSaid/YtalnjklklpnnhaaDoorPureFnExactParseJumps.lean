/- The program's ParseJumps returns what the reference's returns, for all arguments. No condition. -/
import Derived.Test.YtalnjklklpnnhaaDoorPFnExactParseJumpsx3
namespace Go.Proofs.YtalnjklklpnnhaaDoor.Pure
open Go.RowKit Go.Proofs.YtalnjklklpnnhaaDoor.PFnExactParseJumps Go.Proofs.YtalnjklklpnnhaaDoorW.PrintWords Go.Proofs.YtalnjklklpnnhaaDoorW.PrintLast Go.Proofs.YtalnjklklpnnhaaDoorW.PrintMore
set_option linter.unusedVariables false
set_option linter.unusedSimpArgs false

-- block w64
theorem w64 {x : Int} (h : -9223372036854775808 ≤ x ∧ x ≤ 9223372036854775807) : wrap64 x = x := by
  unfold wrap64; omega

-- block digits
/- Decimal digits: what Atoi's parse and the reference's l1Read make of them. -/
theorem dec_pos (u : Nat) : Lib.decDigits u ≠ [] := by
  rw [Lib.decDigits]
  split <;> simp
theorem dec_range (u : Nat) : ∀ b ∈ Lib.decDigits u, 48 ≤ b.toNat ∧ b.toNat ≤ 57 := by
  induction u using Nat.strongRecOn with
  | _ u ih =>
    intro b hb
    rw [Lib.decDigits] at hb
    split at hb
    · rw [List.mem_singleton.1 hb, UInt8.toNat_ofNat']; omega
    · rcases List.mem_append.1 hb with h | h
      · exact ih (u / 10) (by omega) b h
      · rw [List.mem_singleton.1 h, UInt8.toNat_ofNat']; omega
theorem dec_length (k : Nat) : ∀ u, u < 10 ^ (k + 1) → (Lib.decDigits u).length ≤ k + 1 := by
  induction k with
  | zero =>
    intro u hu
    rw [Lib.decDigits, dif_pos (by omega)]
    simp
  | succ k ih =>
    intro u hu
    rw [Lib.decDigits]
    split
    · simp
    · have := ih (u / 10) (by rw [Nat.pow_succ] at hu; omega)
      rw [List.length_append, List.length_singleton]; omega
theorem dec_one (u : Nat) (h : u < 10) : Lib.decDigits u = [UInt8.ofNat (48 + u)] := by rw [Lib.decDigits, dif_pos h]
theorem dec_head (u : Nat) (h : 0 < u) : (Lib.decDigits u).head? ≠ some 48 := by
  induction u using Nat.strongRecOn with
  | _ u ih =>
    rw [Lib.decDigits]
    split
    · rename_i hu
      intro e
      have e := congrArg UInt8.toNat (Option.some.inj e)
      rw [UInt8.toNat_ofNat'] at e
      have : (48 : UInt8).toNat = 48 := rfl
      omega
    · have h1 := ih (u / 10) (by omega) (by omega)
      have h2 := dec_pos (u / 10)
      cases hd : Lib.decDigits (u / 10) with
      | nil => exact absurd hd h2
      | cons a r => rw [hd] at h1; simpa using h1
theorem parse_dec (u : Nat) (hu : u ≤ 1000000000) : ∀ r, Lib.parseUint10 0 (Lib.decDigits u ++ r) = Lib.parseUint10 u r := by
  induction u using Nat.strongRecOn with
  | _ u ih =>
    intro r
    rw [Lib.decDigits]
    split
    · rename_i h
      have e : (UInt8.ofNat (48 + u)).toNat = 48 + u := by rw [UInt8.toNat_ofNat']; omega
      rw [List.singleton_append, Lib.parseUint10, e, if_pos (by omega), if_neg (by omega), if_neg (by omega)]
      congr 1; omega
    · have e : (UInt8.ofNat (48 + u % 10)).toNat = 48 + u % 10 := by rw [UInt8.toNat_ofNat']; omega
      rw [List.append_assoc, ih (u / 10) (by omega) (by omega), List.singleton_append, Lib.parseUint10, e, if_pos (by omega), if_neg (by omega), if_neg (by omega)]
      congr 1; omega
theorem parse_dec0 (u : Nat) (hu : u ≤ 1000000000) : Lib.parseUint10 0 (Lib.decDigits u) = .ok u := by
  have := parse_dec u hu []
  rw [List.append_nil] at this
  rw [this, Lib.parseUint10]
theorem atoi_dec (u : Nat) (hu : u ≤ 1000000000) : Lib.atoiAll (Lib.decDigits u) = .ok (u : Int) := by
  cases hd : Lib.decDigits u with
  | nil => exact absurd hd (dec_pos u)
  | cons c r =>
    have hc := dec_range u c (by rw [hd]; simp)
    have hp := parse_dec0 u hu
    rw [hd] at hp
    unfold Lib.atoiAll
    simp only []
    rw [if_neg (by omega)]
    unfold Lib.parseMag
    rw [if_neg (by simp), hp]
    simp only []
    rw [if_neg (by omega), if_neg (by omega), if_neg (by omega)]
theorem atoi_dec_neg (u : Nat) (hu : u ≤ 1000000000) : Lib.atoiAll (45 :: Lib.decDigits u) = .ok (-(u : Int)) := by
  unfold Lib.atoiAll
  have h45 : (45 : UInt8).toNat = 45 := rfl
  simp only []
  rw [if_pos (Or.inr h45)]
  unfold Lib.parseMag
  rw [if_neg (dec_pos u), parse_dec0 u hu]
  simp only []
  rw [if_neg (by omega), if_neg (by omega), if_pos h45]
theorem itoa_nat (u : Nat) : Lib.itoa (u : Int) = Lib.decDigits u := by
  unfold Lib.itoa
  rw [if_neg (by omega), Int.toNat_natCast]

-- block l1In
theorem l1In_eq (a b c : Int) : spec_l1In.f a b c = some (decide (b ≤ a ∧ a ≤ c)) := by
  unfold spec_l1In.f
  by_cases h : a ≥ b
  · rw [if_pos h]; simp [show b ≤ a from h]
  · rw [if_neg h]; simp [show ¬ b ≤ a from h]

-- block l1Read
theorem bt_lst (s : ByteArray) (i : Nat) (h : i < s.data.toList.length) : bt s (i : Int) = (s.data.toList[i].toNat : Int) := by
  have := bt_at s (i : Int) (show (i : Int).toNat < s.size from h)
  rw [← this]
  rfl
def readV (l : List UInt8) : Int := if (1 ≤ l.length ∧ l.length ≤ 6) ∧ ¬ (l.head? = some 48 ∧ 1 < l.length) then (match Lib.parseUint10 0 l with | .ok u => (u : Int) | _ => -1) else -1
theorem read_l0 (s : ByteArray) (hs : s.size ≤ 6) (d : Nat) : ∀ (k i acc : Nat), i + d = s.size → d < k → acc < 10 ^ i →
    spec_l1Read.l0 k s acc i = some (match Lib.parseUint10 acc (s.data.toList.drop i) with | .ok u => (u : Int) | _ => -1) := by
  have hz : s.size = s.data.toList.length := rfl
  induction d with
  | zero =>
    intro k i acc hi hk ha
    obtain ⟨k, rfl⟩ : ∃ m, k = m + 1 := ⟨k - 1, by omega⟩
    rw [spec_l1Read.l0, if_neg (by omega), List.drop_eq_nil_of_le (by omega), Lib.parseUint10]
  | succ d ih =>
    intro k i acc hi hk ha
    obtain ⟨k, rfl⟩ : ∃ m, k = m + 1 := ⟨k - 1, by omega⟩
    have hacc : acc < 1000000 := Nat.lt_of_lt_of_le ha (Nat.pow_le_pow_right (by omega) (show i ≤ 6 by omega))
    have hil : i < s.data.toList.length := by omega
    have hb := UInt8.toNat_lt (s.data.toList[i])
    rw [spec_l1Read.l0, if_pos (by omega), if_pos (by omega), bt_lst s i hil, List.drop_eq_getElem_cons hil, Lib.parseUint10]
    generalize s.data.toList[i] = b at *
    by_cases h1 : (b.toNat : Int) < 48
    · rw [if_pos h1, if_neg (by omega)]
    · rw [if_neg h1]
      by_cases h2 : (b.toNat : Int) > 57
      · rw [if_pos h2, if_neg (by omega)]
      · rw [if_neg h2, if_pos (by omega), if_neg (by omega), if_neg (by omega), w64 (x := 10 * (acc : Int)) (by omega), w64 (x := 10 * (acc : Int) + ((b.toNat : Int) - 48) % 256) (by omega), w64 (x := (i : Int) + 1) (by omega)]
        rw [show (10 * (acc : Int) + ((b.toNat : Int) - 48) % 256) = ((acc * 10 + (b.toNat - 48) : Nat) : Int) from by omega, show ((i : Int) + 1) = ((i + 1 : Nat) : Int) from by omega]
        exact ih k (i + 1) _ (by omega) (by omega) (by rw [Nat.pow_succ]; omega)
theorem l1Read_eq {k : Nat} (s : ByteArray) (hs : s.size ≤ 9000000000000000000) (hk : 20 < k) : spec_l1Read.f k s = some (readV s.data.toList) := by
  have hz : s.size = s.data.toList.length := rfl
  obtain ⟨k, rfl⟩ : ∃ m, k = m + 1 := ⟨k - 1, by omega⟩
  unfold spec_l1Read.f readV
  rw [l1In_eq, Option.bind_some]
  by_cases h : 1 ≤ s.data.toList.length ∧ s.data.toList.length ≤ 6
  · rw [if_pos (by simp; omega), if_pos (by omega)]
    have hb : bt s 0 = (s.data.toList[0].toNat : Int) := bt_lst s 0 (by omega)
    have hh : s.data.toList.head? = some s.data.toList[0] := by rw [List.head?_eq_getElem?, List.getElem?_eq_getElem]
    have hr := read_l0 s (by omega) s.size k 0 0 (by omega) (by omega) (by simp)
    rw [List.drop_zero] at hr
    have hr' : spec_l1Read.l0 k s 0 0 = _ := hr
    rw [hb, hh]
    by_cases c : (s.data.toList[0].toNat : Int) = 48
    · rw [if_pos c]
      have c' : s.data.toList[0] = 48 := UInt8.toNat_inj.1 (by show _ = 48; omega)
      by_cases c2 : (s.size : Int) > 1
      · rw [decide_eq_true c2, spec_l1Read.j0, if_pos rfl, if_neg (fun z => z.2 ⟨by rw [c'], by omega⟩)]
      · rw [decide_eq_false c2, spec_l1Read.j0, if_neg (by decide), if_pos ⟨h, fun z => by omega⟩]
        exact hr'
    · rw [if_neg c, spec_l1Read.j0, if_neg (by decide), if_pos ⟨h, fun z => c (by rw [Option.some.inj z.1]; rfl)⟩]
      exact hr'
  · rw [if_neg (by simp; omega), spec_l1Read.j0, if_pos rfl, if_neg (fun z => h z.1)]
theorem readV_dec (u : Nat) (hu : u < 1000000) : readV (Lib.decDigits u) = u := by
  unfold readV
  have h1 := dec_length 5 u (by omega)
  have h2 : 0 < (Lib.decDigits u).length := List.length_pos_iff.2 (dec_pos u)
  have h3 : ¬ ((Lib.decDigits u).head? = some 48 ∧ 1 < (Lib.decDigits u).length) := by
    rintro ⟨z1, z2⟩
    rcases Nat.eq_zero_or_pos u with h | h
    · subst h; rw [dec_one 0 (by omega)] at z2; simp at z2
    · exact dec_head u h z1
  rw [if_pos ⟨⟨h2, h1⟩, h3⟩, parse_dec0 u (by omega)]

-- block readS
/- What a piece of a jumps' text reads as: the reference's way and Atoi's way. -/
theorem parse_inv : ∀ (l : List UInt8) (acc u : Nat), 0 < acc → Lib.parseUint10 acc l = .ok u → Lib.decDigits u = Lib.decDigits acc ++ l := by
  intro l
  induction l with
  | nil =>
    intro acc u ha h
    rw [Lib.parseUint10] at h
    injection h with h
    rw [h, List.append_nil]
  | cons c r ih =>
    intro acc u ha h
    rw [Lib.parseUint10] at h
    split at h
    · rename_i hc
      split at h
      · cases h
      · split at h
        · cases h
        · have e := ih _ u (by omega) h
          rw [e]
          have hd := Lib.decDigits.eq_def (acc * 10 + (c.toNat - 48))
          rw [dif_neg (by omega)] at hd
          rw [hd, show (acc * 10 + (c.toNat - 48)) / 10 = acc from by omega, show (acc * 10 + (c.toNat - 48)) % 10 = c.toNat - 48 from by omega, show 48 + (c.toNat - 48) = c.toNat from by omega, UInt8.ofNat_toNat]
          simp
    · cases h
theorem readV_inv {l : List UInt8} {n : Int} (h : readV l = n) (hn : 0 ≤ n) : ∃ u : Nat, n = u ∧ u < 1000000 ∧ l = Lib.decDigits u := by
  unfold readV at h
  split at h
  · rename_i hc
    obtain ⟨⟨h1, h2⟩, h3⟩ := hc
    cases hp : Lib.parseUint10 0 l with
    | ok u =>
      rw [hp] at h
      have hl : l = Lib.decDigits u := by
        cases l with
        | nil => simp at h1
        | cons c r =>
          rw [Lib.parseUint10] at hp
          split at hp
          · rename_i hc
            rw [if_neg (by omega), if_neg (by omega)] at hp
            by_cases hz : c.toNat = 48
            · have c48 : c = 48 := UInt8.toNat_inj.1 (by rw [hz]; rfl)
              have hr : r = [] := by
                cases r with
                | nil => rfl
                | cons a b => exact absurd ⟨by rw [c48]; rfl, by simp⟩ h3
              subst hr
              rw [show 0 * 10 + (c.toNat - 48) = 0 from by omega, Lib.parseUint10] at hp
              injection hp with hp
              rw [← hp, dec_one 0 (by omega), c48]
              rfl
            · have e := parse_inv r _ u (by omega) hp
              rw [e, dec_one _ (by omega), show 48 + (0 * 10 + (c.toNat - 48)) = c.toNat from by omega, UInt8.ofNat_toNat]
              rfl
          · cases hp
      refine ⟨u, h.symm, ?_, hl⟩
      rcases Nat.lt_or_ge u 1000000 with g | g
      · exact g
      · exfalso
        have hlen : ∀ k v, 10 ^ k ≤ v → k + 1 ≤ (Lib.decDigits v).length := by
          intro k
          induction k with
          | zero => intro v _; exact List.length_pos_iff.2 (dec_pos v)
          | succ k ih =>
            intro v hv
            rw [Nat.pow_succ] at hv
            have hpk : 0 < 10 ^ k := Nat.pow_pos (by omega)
            rw [Lib.decDigits, dif_neg (by omega), List.length_append, List.length_singleton]
            have := ih (v / 10) (by omega)
            omega
        have := hlen 6 u (by omega)
        rw [← hl] at this
        omega
    | «syntax» => rw [hp] at h; replace h : (-1 : Int) = n := h; omega
    | range => rw [hp] at h; replace h : (-1 : Int) = n := h; omega
  · omega
def readS (l : List UInt8) : Option Int := if 1 < l.length ∧ l.head? = some 45 then (if readV (l.drop 1) ≤ 0 then none else some (-(readV (l.drop 1)))) else (if readV l < 0 then none else some (readV l))
def atoiV (l : List UInt8) : Option Int := match Lib.atoiAll l with
  | .ok v => if Lib.itoa v = l then some v else none
  | _ => none
theorem atoiV_inv {l : List UInt8} {v : Int} (h : atoiV l = some v) : l = Lib.itoa v := by
  unfold atoiV at h
  split at h
  · split at h
    · rename_i e; injection h with h; rw [← h]; exact e.symm
    · cases h
  · cases h
theorem atoiV_itoa (v : Int) (h : -30 ≤ v ∧ v ≤ 30) : atoiV (Lib.itoa v) = some v := by
  unfold atoiV
  have e : Lib.atoiAll (Lib.itoa v) = .ok v := by
    unfold Lib.itoa
    split
    · rw [atoi_dec_neg _ (by omega)]; congr 1; omega
    · rw [atoi_dec _ (by omega)]; congr 1; omega
  rw [e]
  simp
theorem readS_inv {l : List UInt8} {v : Int} (h : readS l = some v) : l = Lib.itoa v := by
  unfold readS at h
  split at h
  · rename_i hc
    split at h
    · cases h
    · injection h with h
      obtain ⟨u, e1, e2, e3⟩ := readV_inv (l := l.drop 1) rfl (by omega)
      have hv : v < 0 := by omega
      have hu : v.natAbs = u := by omega
      clear h e1
      cases l with
      | nil => simp at hc
      | cons c r =>
        have hc2 := hc.2
        rw [List.head?_cons] at hc2
        injection hc2 with hc2
        rw [List.drop_succ_cons, List.drop_zero] at e3
        unfold Lib.itoa
        rw [if_pos hv, hc2, e3, hu]
  · split at h
    · cases h
    · injection h with h
      obtain ⟨u, e1, e2, e3⟩ := readV_inv (l := l) rfl (by omega)
      unfold Lib.itoa
      rw [if_neg (by omega), show v.toNat = u from by omega]
      exact e3
theorem readS_itoa (v : Int) (h : -30 ≤ v ∧ v ≤ 30) : readS (Lib.itoa v) = some v := by
  unfold readS Lib.itoa
  by_cases hv : v < 0
  · rw [if_pos hv]
    have hp : 0 < (Lib.decDigits v.natAbs).length := List.length_pos_iff.2 (dec_pos _)
    rw [if_pos ⟨by rw [List.length_cons]; omega, rfl⟩, List.drop_succ_cons, List.drop_zero, readV_dec _ (by omega), if_neg (by omega)]
    congr 1; omega
  · rw [if_neg hv]
    have hh : ¬ (1 < (Lib.decDigits v.toNat).length ∧ (Lib.decDigits v.toNat).head? = some 45) := by
      rintro ⟨-, z⟩
      have := dec_range v.toNat 45 (List.mem_of_mem_head? (by rw [z]; simp))
      have h45 : (45 : UInt8).toNat = 45 := rfl
      omega
    rw [if_neg hh, readV_dec _ (by omega), if_neg (by omega)]
    congr 1; omega

-- block l1Split
/- The reference's l1Split: the pieces of a text between the occurrences of a byte. -/
def splitA (c : UInt8) : List UInt8 → List UInt8 → List (List UInt8)
  | cur, [] => [cur]
  | cur, b :: r => if b = c then cur :: splitA c [] r else splitA c (cur ++ [b]) r
def BA (l : List UInt8) : ByteArray := ⟨l.toArray⟩
def piece (L : List UInt8) (st i : Nat) : List UInt8 := (L.drop st).take (i - st)
theorem piece_succ (L : List UInt8) (st i : Nat) (h1 : st ≤ i) (h2 : i < L.length) : piece L st (i + 1) = piece L st i ++ [L[i]] := by
  unfold piece
  rw [show i + 1 - st = (i - st) + 1 from by omega, List.take_succ_eq_append_getElem (by rw [List.length_drop]; omega)]
  congr 2
  rw [List.getElem_drop]
  congr 1; omega
theorem piece_self (L : List UInt8) (i : Nat) : piece L i i = [] := by simp [piece]
theorem split_l0 (s : ByteArray) (c : UInt8) (hs : s.size ≤ 1048576) (d : Nat) : ∀ (k i st : Nat) (acc : List ByteArray), i + d = s.size → d < k → st ≤ i → acc.length ≤ i →
    spec_l1Split.l0 k s (c.toNat : Int) acc st i = some (acc ++ (splitA c (piece s.data.toList st i) (s.data.toList.drop i)).map BA) := by
  have hz : s.size = s.data.toList.length := rfl
  induction d with
  | zero =>
    intro k i st acc hi hk h1 h2
    obtain ⟨k, rfl⟩ : ∃ m, k = m + 1 := ⟨k - 1, by omega⟩
    rw [spec_l1Split.l0, if_neg (by omega), if_pos (by omega), if_pos (by omega), if_pos (by omega), List.drop_eq_nil_of_le (show s.data.toList.length ≤ i by omega), splitA, Lib.extract_eq, Int.toNat_natCast]
    rw [show s.size = i from by omega]
    rfl
  | succ d ih =>
    intro k i st acc hi hk h1 h2
    obtain ⟨k, rfl⟩ : ∃ m, k = m + 1 := ⟨k - 1, by omega⟩
    have hil : i < s.data.toList.length := by omega
    rw [spec_l1Split.l0, if_pos (by omega), if_pos (by omega), bt_lst s i hil, List.drop_eq_getElem_cons hil, splitA]
    by_cases hb : s.data.toList[i] = c
    · rw [if_pos (by rw [hb]), if_pos hb, if_pos (by omega), if_pos (by omega), if_pos (by omega), if_pos (by omega), w64 (by omega), Lib.extract_eq, Int.toNat_natCast, Int.toNat_natCast]
      rw [show ((i : Int) + 1) = ((i + 1 : Nat) : Int) from by omega, ih k (i + 1) (i + 1) _ (by omega) (by omega) (by omega) (by simp; omega), piece_self, List.map_cons, List.append_assoc]
      rfl
    · rw [if_neg (fun z => hb (UInt8.toNat_inj.1 (by omega))), if_neg hb, w64 (by omega)]
      rw [show ((i : Int) + 1) = ((i + 1 : Nat) : Int) from by omega, ih k (i + 1) st _ (by omega) (by omega) (by omega) (by omega), piece_succ _ _ _ h1 hil]
theorem l1Split_eq {k : Nat} (s : ByteArray) (c : UInt8) (hs : s.size ≤ 1048576) (hk : 1048577 < k) : spec_l1Split.f k s (c.toNat : Int) = some ((splitA c [] s.data.toList).map BA) := by
  unfold spec_l1Split.f
  have := split_l0 s c hs s.size k 0 0 [] (by omega) (by omega) (by omega) (by simp)
  rw [piece_self, List.drop_zero, List.nil_append] at this
  exact this
theorem split_none (c : UInt8) (l : List UInt8) : ∀ cur, c ∉ l → splitA c cur l = [cur ++ l] := by
  induction l with
  | nil => intro cur _; simp [splitA]
  | cons b r ih =>
    intro cur h
    rw [splitA, if_neg (fun z => h (by simp [z])), ih _ (fun z => h (List.mem_cons_of_mem _ z))]
    simp
theorem split_some (c : UInt8) (a r : List UInt8) : ∀ cur, c ∉ a → splitA c cur (a ++ c :: r) = (cur ++ a) :: splitA c [] r := by
  induction a with
  | nil => intro cur _; simp [splitA]
  | cons b a ih =>
    intro cur h
    rw [List.cons_append, splitA, if_neg (fun z => h (by simp [z])), ih _ (fun z => h (List.mem_cons_of_mem _ z))]
    simp
theorem BA_list (l : List UInt8) : (BA l).data.toList = l := by simp [BA]
theorem BA_size (l : List UInt8) : (BA l).size = l.length := rfl
theorem split_length (c : UInt8) (l : List UInt8) : ∀ cur p, p ∈ splitA c cur l → p.length ≤ cur.length + l.length := by
  induction l with
  | nil => intro cur p hp; rw [splitA, List.mem_singleton] at hp; rw [hp]; simp
  | cons b r ih =>
    intro cur p hp
    rw [splitA] at hp
    split at hp
    · rcases List.mem_cons.1 hp with h | h
      · rw [h]; omega
      · have := ih [] p h; simp at this ⊢; omega
    · have := ih _ p hp; simp at this ⊢; omega

-- block cut
/- strings.Cut at one byte. -/
theorem cut_hit (c : UInt8) (a r : List UInt8) (h : c ∉ a) : Lib.cut (a ++ c :: r) [c] = (a, r, true) := by
  have hi : ∀ a : List UInt8, c ∉ a → Lib.indexByte (a ++ c :: r) c = (a.length : Int) := by
    intro a
    induction a with
    | nil => intro _; simp [Lib.indexByte]
    | cons b a ih =>
      intro h
      have h1 := ih (fun z => h (List.mem_cons_of_mem _ z))
      rw [List.cons_append, Lib.indexByte, h1, if_neg (by simp; exact fun z => h (by simp [z])), if_neg (by first | (simp; done) | (simp; omega))]
      simp
  unfold Lib.cut
  rw [Lib.index_one, hi a h, if_pos (by omega), Int.toNat_natCast]
  simp
theorem first_of_mem (c : UInt8) (l : List UInt8) (h : c ∈ l) : ∃ a r, l = a ++ c :: r ∧ c ∉ a := by
  induction l with
  | nil => cases h
  | cons b l ih =>
    by_cases e : b = c
    · exact ⟨[], l, by rw [e]; rfl, by simp⟩
    · obtain ⟨a, r, e1, e2⟩ := ih ((List.mem_cons.1 h).resolve_left (fun z => e z.symm))
      refine ⟨b :: a, r, by rw [e1]; rfl, fun z => ?_⟩
      rcases List.mem_cons.1 z with z | z
      · exact e z.symm
      · exact e2 z
theorem cut_inv (c : UInt8) (l : List UInt8) : (c ∉ l ∧ Lib.cut l [c] = (l, [], false)) ∨ ∃ a r, c ∉ a ∧ l = a ++ c :: r ∧ Lib.cut l [c] = (a, r, true) := by
  by_cases h : c ∈ l
  · right
    obtain ⟨a, r, e, h2⟩ := first_of_mem c l h
    exact ⟨a, r, h2, e, by rw [e]; exact cut_hit c a r h2⟩
  · left
    refine ⟨h, ?_⟩
    have hi : Lib.indexByte l c = -1 := by
      have hg := Lib.indexByte_ge l c
      by_cases e : Lib.indexByte l c = -1
      · exact e
      · obtain ⟨o, ho⟩ := Int.eq_ofNat_of_zero_le (show 0 ≤ Lib.indexByte l c by omega)
        have := (Lib.indexByte_some ho).1
        exact absurd (List.mem_of_getElem? this) h
    unfold Lib.cut
    rw [Lib.index_one, hi, if_neg (by omega)]

-- block splitB
/- strings.Split at one byte gives the reference's pieces. -/
theorem index_inv (c : UInt8) (l : List UInt8) : (c ∉ l ∧ Lib.index l [c] = -1) ∨ ∃ a r, c ∉ a ∧ l = a ++ c :: r ∧ Lib.index l [c] = (a.length : Int) := by
  have hi : ∀ a r : List UInt8, c ∉ a → Lib.indexByte (a ++ c :: r) c = (a.length : Int) := by
    intro a r
    induction a with
    | nil => intro _; simp [Lib.indexByte]
    | cons b a ih =>
      intro h
      have h1 := ih (fun z => h (List.mem_cons_of_mem _ z))
      rw [List.cons_append, Lib.indexByte, h1, if_neg (by simp; exact fun z => h (by simp [z])), if_neg (by first | (simp; done) | (simp; omega))]
      simp
  by_cases h : c ∈ l
  · right
    obtain ⟨a, r, e, h2⟩ := first_of_mem c l h
    exact ⟨a, r, h2, e, by rw [e, Lib.index_one]; exact hi a r h2⟩
  · left
    refine ⟨h, ?_⟩
    rw [Lib.index_one]
    have hg := Lib.indexByte_ge l c
    by_cases e : Lib.indexByte l c = -1
    · exact e
    · obtain ⟨o, ho⟩ := Int.eq_ofNat_of_zero_le (show 0 ≤ Lib.indexByte l c by omega)
      exact absurd (List.mem_of_getElem? (Lib.indexByte_some ho).1) h
theorem splitB_eq (c : UInt8) : ∀ (n : Nat) (s : ByteArray), s.size ≤ n → Lib.splitB ⟨#[c]⟩ 0 (Lib.countB s ⟨#[c]⟩) s = (splitA c [] s.data.toList).map BA := by
  intro n
  induction n with
  | zero =>
    intro s hs
    have hl : s.data.toList = [] := List.eq_nil_of_length_eq_zero (by show s.size = 0; omega)
    rcases index_inv c s.data.toList with ⟨h, e⟩ | ⟨a, r, -, e1, -⟩
    · rw [Lib.splitB_miss _ _ _ _ e, split_none c _ [] h, List.nil_append]
      simp [BA]
    · rw [hl] at e1; simp at e1
  | succ n ih =>
    intro s hs
    rcases index_inv c s.data.toList with ⟨h, e⟩ | ⟨a, r, ha, e1, e⟩
    · rw [Lib.splitB_miss _ _ _ _ e, split_none c _ [] h, List.nil_append]
      simp [BA]
    · have hc := Lib.countB_hit s ⟨#[c]⟩ a.length (Nat.le_refl _) e
      have hz : s.size = s.data.toList.length := rfl
      have h1 : (ByteArray.mk #[c]).size = 1 := rfl
      rw [hc, Nat.add_comm, Lib.splitB_hit _ _ _ _ _ e, h1]
      have hd : (s.extract (a.length + 1) s.size).data.toList = r := by
        rw [Lib.extract_to_end, e1]; simp
      have hsz : (s.extract (a.length + 1) s.size).size ≤ n := by
        show (s.extract (a.length + 1) s.size).data.toList.length ≤ n
        rw [hd]
        have := congrArg List.length e1
        simp at this
        omega
      rw [ih _ hsz, hd, Lib.extract_eq, e1, split_some c a r [] ha, List.nil_append, List.map_cons]
      simp [BA]

-- block l1All
theorem l1All_l0 (lo hi : Int) (l : List Int) (hl : l.length ≤ 1000000000) (d : Nat) : ∀ (k i : Nat), i + d = l.length → d < k → spec_l1All.l0 k lo hi l l.length i = some ((l.drop i).all fun n => decide (lo ≤ n ∧ n ≤ hi)) := by
  induction d with
  | zero =>
    intro k i hd hk
    obtain ⟨k, rfl⟩ : ∃ m, k = m + 1 := ⟨k - 1, by omega⟩
    simp only [spec_l1All.l0]; rw [if_neg (by omega), List.drop_eq_nil_of_le (by omega)]; rfl
  | succ d ih =>
    intro k i hd hk
    obtain ⟨k, rfl⟩ : ∃ m, k = m + 1 := ⟨k - 1, by omega⟩
    simp only [spec_l1All.l0]
    have h : i < l.length := by omega
    have e : rd l i = l[i] := by simp [rd, List.getD_eq_getElem?_getD, List.getElem?_eq_getElem h]
    rw [if_pos (by omega), if_pos (by omega), if_pos (by omega), l1In_eq, Option.bind_some, List.drop_eq_getElem_cons h, e, List.all_cons]
    by_cases g : lo ≤ l[i] ∧ l[i] ≤ hi
    · rw [if_pos (decide_eq_true g), w64 (by omega), decide_eq_true g, Bool.true_and]
      exact ih k (i + 1) (by omega) (by omega)
    · rw [if_neg (by simpa using g), decide_eq_false g, Bool.false_and]
theorem l1All_eq {k : Nat} {l : List Int} (lo hi : Int) (hl : l.length ≤ 1000000000) (hk : l.length < k) : spec_l1All.f k l lo hi = some (l.all fun n => decide (lo ≤ n ∧ n ≤ hi)) := by
  unfold spec_l1All.f
  exact l1All_l0 lo hi l hl l.length k 0 (by omega) (by omega)

-- block within
theorem within_eq (a b c : Int) : impl_within.f a b c = some (decide (b ≤ a ∧ a ≤ c)) := by
  unfold impl_within.f
  by_cases h : b ≤ a
  · rw [if_pos h]; simp [h]
  · rw [if_neg h]; simp [h]

-- block hofAny
theorem hofAny_eq (q : Int → Option Bool) (p : Int → Bool) (h : ∀ n, q n = some (p n)) (l : List Int) : hofAny q l = some (l.any p) := by
  induction l with
  | nil => rfl
  | cons x xs ih =>
    unfold hofAny
    rw [h x, Option.bind_some, ih]
    cases hp : p x
    · rw [if_neg (by decide)]; simp [hp]
    · rw [if_pos rfl]; simp [hp]

-- block jumps
def jumpsB (l : List Int) : Bool := decide (1 ≤ l.length ∧ l.length ≤ 30) && l.all fun n => decide (-30 ≤ n ∧ n ≤ 30)
theorem AreJumps_eq (l : List Int) : impl_AreJumps.f l = some (jumpsB l) := by
  unfold impl_AreJumps.f jumpsB
  have hc : ∀ n, impl_AreJumps_1.f n = some (!decide (-30 ≤ n ∧ n ≤ 30)) := fun n => by unfold impl_AreJumps_1.f; rw [within_eq]; rfl
  have hh := hofAny_eq _ _ hc l
  rw [within_eq, Option.bind_some]
  by_cases h : 1 ≤ l.length ∧ l.length ≤ 30
  · rw [if_pos (by simp; omega), decide_eq_true h, Bool.true_and]
    simp only [slices_ContainsFunc_int_int.f, Array.size_empty, and_self, if_true]
    simp [hh, List.not_any_eq_all_not]
  · rw [if_neg (by simp; omega), decide_eq_false h, Bool.false_and]
theorem baGood_eq {k : Nat} {l : List Int} (hk : 30 < k) : spec_baGood.f k l = some (jumpsB l) := by
  unfold spec_baGood.f jumpsB
  rw [l1In_eq, Option.bind_some]
  by_cases h : 1 ≤ l.length ∧ l.length ≤ 30
  · rw [if_pos (by simp; omega), l1All_eq _ _ (by omega) (by omega), decide_eq_true h, Bool.true_and, Option.bind_some]
  · rw [if_neg (by simp; omega), decide_eq_false h, Bool.false_and]
theorem jumpsB_true {l : List Int} (h : jumpsB l = true) : (1 ≤ l.length ∧ l.length ≤ 30) ∧ ∀ x ∈ l, -30 ≤ x ∧ x ≤ 30 := by
  unfold jumpsB at h
  rw [Bool.and_eq_true, decide_eq_true_eq, List.all_eq_true] at h
  exact ⟨h.1, fun x hx => by simpa using h.2 x hx⟩

-- block eqIntS
theorem eqIntS_l0 (l : List Int) (hl : l.length ≤ 1000000000) (d : Nat) : ∀ (k i : Nat), i + d = l.length → d < k → laws_eqIntS.l0 k l l i = some true := by
  induction d with
  | zero =>
    intro k i hd hk
    obtain ⟨k, rfl⟩ : ∃ m, k = m + 1 := ⟨k - 1, by omega⟩
    simp only [laws_eqIntS.l0]; rw [if_neg (by omega)]
  | succ d ih =>
    intro k i hd hk
    obtain ⟨k, rfl⟩ : ∃ m, k = m + 1 := ⟨k - 1, by omega⟩
    simp only [laws_eqIntS.l0]
    rw [if_pos (by omega), if_pos (by omega), if_pos (by omega), if_pos trivial, w64 (by omega)]
    exact ih k (i + 1) (by omega) (by omega)
theorem eqIntS_self {k : Nat} {l : List Int} (hl : l.length ≤ 1000000000) (hk : l.length < k) : laws_eqIntS.f k l l = some true := by
  unfold laws_eqIntS.f
  rw [if_pos rfl, show (0 : Int) = ((0 : Nat) : Int) from rfl, eqIntS_l0 l hl l.length k 0 (by omega) hk]

-- block marks
def ups (a : Int) (n : Nat) : List Int := (List.range n).map fun i : Nat => a + (i : Int)
theorem ups_length (a : Int) (n : Nat) : (ups a n).length = n := by simp [ups]
theorem ups_succ (a : Int) (n : Nat) : ups a (n + 1) = ups a n ++ [a + n] := by simp [ups, List.range_succ]
theorem rd_ups (a : Int) (n i : Nat) (h : i < n) : rd (ups a n) i = a + i := by
  unfold rd ups
  rw [List.getD_eq_getElem?_getD, Int.toNat_natCast, List.getElem?_map, List.getElem?_range h]; rfl
theorem markIntS_l0 (a : Int) (ha : 0 ≤ a) (d : Nat) : ∀ (k i : Nat) (post : List Int), post.length = d → a + i + d ≤ 4000000000000 → d < k →
    laws_markIntS.l0 k (ups a i ++ post) (a + i) i = some (a + i + d, ups a (i + d)) := by
  induction d with
  | zero =>
    intro k i post hp hb hk
    obtain ⟨k, rfl⟩ : ∃ m, k = m + 1 := ⟨k - 1, by omega⟩
    obtain rfl := List.eq_nil_of_length_eq_zero hp
    simp only [laws_markIntS.l0]
    rw [if_neg (by simp [ups_length])]
    simp
  | succ d ih =>
    intro k i post hp hb hk
    obtain ⟨k, rfl⟩ : ∃ m, k = m + 1 := ⟨k - 1, by omega⟩
    obtain ⟨x, post, rfl⟩ : ∃ x p, post = x :: p := by
      cases post with
      | nil => simp at hp
      | cons x p => exact ⟨x, p, rfl⟩
    simp only [laws_markIntS.l0]
    rw [if_pos (by simp [ups_length]; omega), if_pos (by omega), w64 (by omega), w64 (by omega)]
    have e : (ups a i ++ x :: post).set (i : Int).toNat (a + i) = ups a (i + 1) ++ post := by
      rw [Int.toNat_natCast, List.set_append_right _ _ (by simp [ups_length]), ups_length, Nat.sub_self, List.set_cons_zero, ups_succ, List.append_assoc]; rfl
    rw [e, show a + (i : Int) + 1 = a + ((i + 1 : Nat) : Int) from by omega, show (i : Int) + 1 = ((i + 1 : Nat) : Int) from rfl]
    rw [ih k (i + 1) post (by simpa using hp) (by omega) (by omega)]
    rw [show i + 1 + d = i + (d + 1) from by omega]
    congr 2; omega
theorem markIntS_eq {k : Nat} {l : List Int} {a : Int} (ha : 0 ≤ a) (hb : a + l.length ≤ 4000000000000) (hk : l.length < k) : laws_markIntS.f k l a = some (a + l.length, ups a l.length) := by
  unfold laws_markIntS.f
  have := markIntS_l0 a ha l.length k 0 l rfl (by omega) hk
  simpa [ups] using this
theorem heldIntS_l0 (a : Int) (ha : 0 ≤ a) (n : Nat) (hb : a + n ≤ 4000000000000) (d : Nat) : ∀ (k i : Nat), i + d = n → d < k → laws_heldIntS.l0 k (ups a n) (a + i) i = some (a + n) := by
  induction d with
  | zero =>
    intro k i hd hk
    obtain ⟨k, rfl⟩ : ∃ m, k = m + 1 := ⟨k - 1, by omega⟩
    simp only [laws_heldIntS.l0]
    rw [if_neg (by rw [ups_length]; omega)]
    congr 1; omega
  | succ d ih =>
    intro k i hd hk
    obtain ⟨k, rfl⟩ : ∃ m, k = m + 1 := ⟨k - 1, by omega⟩
    simp only [laws_heldIntS.l0]
    rw [if_pos (by rw [ups_length]; omega), if_pos (by omega), rd_ups _ _ _ (by omega), if_pos rfl, w64 (by omega), w64 (by omega)]
    rw [show a + (i : Int) + 1 = a + ((i + 1 : Nat) : Int) from by omega, show (i : Int) + 1 = ((i + 1 : Nat) : Int) from rfl]
    exact ih k (i + 1) (by omega) (by omega)
theorem heldIntS_eq {k n : Nat} {a : Int} (ha : 0 ≤ a) (hb : a + n ≤ 4000000000000) (hk : n < k) : laws_heldIntS.f k (ups a n) a = some (a + n) := by
  unfold laws_heldIntS.f
  have := heldIntS_l0 a ha n hb n k 0 (by omega) hk
  simpa using this

theorem atoi_range {l : List UInt8} {v : Int} (h : Lib.atoiAll l = .ok v) : -9223372036854775808 ≤ v ∧ v ≤ 9223372036854775807 := by
  unfold Lib.atoiAll at h
  split at h
  · cases h
  · simp only [] at h
    split at h
    · cases h
    · cases h
    · split at h
      · cases h
      · split at h
        · cases h
        · injection h with h
          split at h <;> omega
def allM {α β : Type} (f : α → Option β) : List α → Option (List β)
  | [] => some []
  | x :: r => (f x).bind fun v => (allM f r).map (v :: ·)
def fin (acc : List Int) : Option (List Int) → List Int × Bool
  | some js => if jumpsB (acc ++ js) = true then (acc ++ js, true) else ([], false)
  | none => ([], false)
theorem fin_cons (acc : List Int) (v : Int) (o : Option (List Int)) : fin (acc ++ [v]) o = fin acc (o.map (v :: ·)) := by
  cases o with
  | none => rfl
  | some js => simp [fin]
theorem rd_BA (P : List (List UInt8)) (i : Nat) (h : i < P.length) : rdOf ByteArray.empty (P.map BA) (i : Int) = BA P[i] := by
  simp [rdOf, List.getD_eq_getElem?_getD, h]
theorem impl_l0 (P : List (List UInt8)) (hP : P.length ≤ 1048577) (hp : ∀ p ∈ P, p.length ≤ 1048576) (d : Nat) : ∀ (k i : Nat) (acc : List Int), i + d = P.length → d < k → acc.length ≤ i →
    impl_ParseJumps.l0 k acc (P.map BA) P.length i = some (fin acc (allM atoiV (P.drop i))) := by
  induction d with
  | zero =>
    intro k i acc hi hk ha
    obtain ⟨k, rfl⟩ : ∃ m, k = m + 1 := ⟨k - 1, by omega⟩
    rw [impl_ParseJumps.l0, if_neg (by omega), AreJumps_eq, Option.bind_some, List.drop_eq_nil_of_le (by omega), allM, fin, List.append_nil]
    by_cases h : jumpsB acc = true
    · rw [if_pos h, if_pos h]
    · rw [if_neg h, if_neg h]
  | succ d ih =>
    intro k i acc hi hk ha
    obtain ⟨k, rfl⟩ : ∃ m, k = m + 1 := ⟨k - 1, by omega⟩
    have hil : i < P.length := by omega
    have hpl := hp P[i] (List.getElem_mem _)
    rw [impl_ParseJumps.l0, if_pos (by omega), if_pos (by omega), if_pos (by rw [List.length_map]; omega), rd_BA P i hil, List.drop_eq_getElem_cons hil, allM]
    generalize P[i] = p at *
    unfold strconv_Atoi.f
    rw [if_pos (by rw [BA_size]; omega), BA_list, Option.bind_some]
    unfold atoiV
    cases ha' : Lib.atoiAll p with
    | ok v =>
      have hv := atoi_range ha'
      simp only [Option.isNone_none, if_true]
      unfold strconv_Itoa.f
      rw [if_pos hv, Option.bind_some, Lib.toList_data, Lib.toList_data, BA_list]
      by_cases h : Lib.itoa v = p
      · rw [if_pos h, if_pos h, if_pos (by omega), w64 (by omega), show ((i : Int) + 1) = ((i + 1 : Nat) : Int) from by omega, ih k (i + 1) _ (by omega) (by omega) (by simp; omega), fin_cons]
        rfl
      · rw [if_neg h, if_neg h]; rfl
    | «syntax» => rfl
    | range => rfl
theorem readV_lt (l : List UInt8) : readV l < 1000000 := by
  by_cases h : 0 ≤ readV l
  · obtain ⟨u, e, hu, -⟩ := readV_inv (l := l) rfl h
    omega
  · omega
theorem spec_l0 (P : List (List UInt8)) (hP : P.length ≤ 1048577) (hp : ∀ p ∈ P, p.length ≤ 1048576) (d : Nat) : ∀ (k i : Nat) (acc : List Int), i + d = P.length → 2 * d + 100 < k → acc.length ≤ i →
    spec_baParse.l0 k acc (P.map BA) P.length i = some (fin acc (allM readS (P.drop i))) := by
  induction d with
  | zero =>
    intro k i acc hi hk ha
    obtain ⟨k, rfl⟩ : ∃ m, k = m + 1 := ⟨k - 1, by omega⟩
    rw [spec_baParse.l0, if_neg (by omega), baGood_eq (by omega), Option.bind_some, List.drop_eq_nil_of_le (by omega), allM, fin, List.append_nil]
    by_cases h : jumpsB acc = true
    · rw [if_pos h, if_pos h]
    · rw [if_neg h, if_neg h]
  | succ d ih =>
    intro k i acc hi hk ha
    obtain ⟨k, rfl⟩ : ∃ m, k = m + 1 + 1 := ⟨k - 2, by omega⟩
    have hil : i < P.length := by omega
    have hpl := hp P[i] (List.getElem_mem _)
    rw [spec_baParse.l0, if_pos (by omega), if_pos (by omega), if_pos (by rw [List.length_map]; omega), rd_BA P i hil, List.drop_eq_getElem_cons hil, allM]
    generalize P[i] = p at *
    have next : ∀ v, spec_baParse.l0 k (acc ++ [v]) (P.map BA) P.length ((i + 1 : Nat) : Int) = some (fin acc ((allM readS (P.drop (i + 1))).map (v :: ·))) := by
      intro v
      rw [ih k (i + 1) _ (by omega) (by omega) (by simp; omega), fin_cons]
    have plain : ∀ q : Bool, q = false → ¬ (1 < p.length ∧ p.head? = some 45) → spec_baParse.j1 (k + 1) acc (BA p) 1 (P.map BA) P.length i q = some (fin acc ((readS p).bind fun v => (allM readS (P.drop (i + 1))).map (v :: ·))) := by
      intro q hq hn
      have h5 := readV_lt p
      rw [hq, spec_baParse.j1, if_neg (by decide), l1Read_eq _ (by rw [BA_size]; omega) (by omega), BA_list, Option.bind_some]
      have hS : readS p = if readV p < 0 then none else some (readV p) := by
        unfold readS
        rw [if_neg hn]
      rw [hS]
      by_cases c : readV p < 0
      · rw [if_pos c, if_pos c]; rfl
      · rw [if_neg c, if_neg c, if_neg (by omega), if_pos (by omega), Int.one_mul, w64 (x := readV p) (by omega), w64 (x := (i : Int) + 1) (by omega), show ((i : Int) + 1) = ((i + 1 : Nat) : Int) from by omega, next]
        rfl
    by_cases c1 : 1 < p.length
    · rw [if_pos (by rw [BA_size]; omega), if_pos (by rw [BA_size]; omega)]
      have hb : bt (BA p) 0 = (p[0].toNat : Int) := by
        have := bt_lst (BA p) 0 (by rw [BA_list]; omega)
        simp only [BA_list] at this
        exact this
      have hh : p.head? = some p[0] := by rw [List.head?_eq_getElem?, List.getElem?_eq_getElem]
      by_cases c2 : p[0] = 45
      · rw [hb, c2, show (((45 : UInt8).toNat : Int) == 45) = true from by decide, spec_baParse.j1, if_pos rfl, if_pos (by rw [BA_size]; omega)]
        have he : ((BA p).extract 1 (BA p).size).data.toList = p.drop 1 := by rw [Lib.extract_to_end, BA_list]
        have hes : ((BA p).extract 1 (BA p).size).size ≤ 9000000000000000000 := by
          show ((BA p).extract 1 (BA p).size).data.toList.length ≤ _
          rw [he, List.length_drop]; omega
        have h5 := readV_lt (p.drop 1)
        rw [l1Read_eq _ hes (by omega), he, Option.bind_some]
        have hS : readS p = if readV (p.drop 1) ≤ 0 then none else some (-(readV (p.drop 1))) := by
          unfold readS
          rw [if_pos (show 1 < p.length ∧ p.head? = some 45 from ⟨c1, by rw [hh, c2]⟩)]
        rw [hS]
        by_cases c3 : readV (p.drop 1) < 0
        · rw [if_pos c3, if_pos (by omega)]; rfl
        · rw [if_neg c3, if_pos (by omega)]
          by_cases c4 : readV (p.drop 1) = 0
          · rw [if_pos c4, if_pos (by omega)]; rfl
          · rw [if_neg c4, if_pos (show acc.length < 17592186044416 by omega), if_neg (show ¬ readV (p.drop 1) ≤ 0 by omega), w64 (x := -readV (p.drop 1)) (by omega), w64 (x := (i : Int) + 1) (by omega), show ((i : Int) + 1) = ((i + 1 : Nat) : Int) from by omega, next]
            rfl
      · refine plain _ ?_ (fun z => c2 (by have := z.2; rw [hh] at this; exact Option.some.inj this))
        rw [hb, beq_eq_false_iff_ne]
        exact fun z => c2 (UInt8.toNat_inj.1 (by show _ = 45; omega))
    · rw [if_neg (by rw [BA_size]; omega)]
      exact plain false rfl (fun z => c1 z.1)
theorem allM_map {f : List UInt8 → Option Int} (h1 : ∀ l v, f l = some v → l = Lib.itoa v) : ∀ (P : List (List UInt8)) (js : List Int), allM f P = some js → P = js.map Lib.itoa
  | [], js, h => by rw [allM] at h; injection h with h; rw [← h]; rfl
  | p :: r, js, h => by
    rw [allM] at h
    obtain ⟨v, hv, h⟩ := Option.bind_eq_some_iff.mp h
    obtain ⟨js', h', e⟩ := Option.map_eq_some_iff.mp h
    rw [← e, List.map_cons, ← h1 p v hv, ← allM_map h1 r js' h']
theorem allM_itoa {f : List UInt8 → Option Int} (h2 : ∀ v, -30 ≤ v ∧ v ≤ 30 → f (Lib.itoa v) = some v) : ∀ (js : List Int), (∀ v ∈ js, -30 ≤ v ∧ v ≤ 30) → allM f (js.map Lib.itoa) = some js
  | [], _ => rfl
  | v :: r, h => by
    rw [List.map_cons, allM, h2 v (h v (by simp)), Option.bind_some, allM_itoa h2 r (fun x hx => h x (List.mem_cons_of_mem _ hx))]
    rfl
/-- What both say of the pieces. -/
theorem fin_both (P : List (List UInt8)) : fin [] (allM readS P) = fin [] (allM atoiV P) := by
  have key : ∀ (f g : List UInt8 → Option Int), (∀ l v, f l = some v → l = Lib.itoa v) → (∀ v, -30 ≤ v ∧ v ≤ 30 → g (Lib.itoa v) = some v) →
      ∀ js, allM f P = some js → jumpsB js = true → allM g P = some js := by
    intro f g hf hg js h hj
    rw [allM_map hf P js h]
    exact allM_itoa hg js (jumpsB_true hj).2
  cases h1 : allM readS P with
  | some js =>
    by_cases hj : jumpsB js = true
    · rw [key readS atoiV (fun l v => readS_inv) (fun v => atoiV_itoa v) js h1 hj]
    · cases h2 : allM atoiV P with
      | none => simp [fin, hj]
      | some js' =>
        by_cases hj' : jumpsB js' = true
        · have := key atoiV readS (fun l v => atoiV_inv) (fun v => readS_itoa v) js' h2 hj'
          rw [h1] at this
          injection this with this
          rw [this] at hj
          exact absurd hj' hj
        · simp [fin, hj, hj']
  | none =>
    cases h2 : allM atoiV P with
    | none => rfl
    | some js' =>
      by_cases hj' : jumpsB js' = true
      · have := key atoiV readS (fun l v => atoiV_inv) (fun v => readS_itoa v) js' h2 hj'
        rw [h1] at this
        cases this
      · simp [fin, hj']
theorem split_total (c : UInt8) (l : List UInt8) : ∀ cur, cur.length + l.length + 1 = ((splitA c cur l).map (fun p => p.length + 1)).sum := by
  induction l with
  | nil => intro cur; simp [splitA]
  | cons b r ih =>
    intro cur
    rw [splitA]
    split
    · have := ih []
      simp only [List.map_cons, List.sum_cons, List.length_cons, List.length_nil] at this ⊢
      omega
    · have := ih (cur ++ [b])
      simp only [List.length_append, List.length_cons, List.length_nil] at this ⊢
      omega
theorem sum_le (js : List Int) (h : ∀ v ∈ js, -30 ≤ v ∧ v ≤ 30) : (((js.map Lib.itoa)).map (fun p => p.length + 1)).sum ≤ 4 * js.length := by
  induction js with
  | nil => simp
  | cons v r ih =>
    have h1 := ih (fun x hx => h x (List.mem_cons_of_mem _ hx))
    have hv := h v (by simp)
    have h2 : (Lib.itoa v).length ≤ 3 := by
      unfold Lib.itoa
      split
      · rw [List.length_cons]; have := dec_length 1 v.natAbs (by omega); omega
      · have := dec_length 1 v.toNat (by omega); omega
    simp only [List.map_cons, List.sum_cons, List.length_cons] at h1 ⊢
    omega
theorem long (L : List UInt8) (h : 120 < L.length) : fin [] (allM atoiV (splitA 44 [] L)) = ([], false) := by
  cases h1 : allM atoiV (splitA 44 [] L) with
  | none => rfl
  | some js =>
    by_cases hj : jumpsB js = true
    · exfalso
      have g := jumpsB_true hj
      have e := allM_map (fun l v => atoiV_inv) _ js h1
      have s1 := split_total 44 L []
      have s2 := sum_le js g.2
      rw [e] at s1
      simp only [List.length_nil] at s1
      omega
    · simp [fin, hj]
theorem fin_length (o : Option (List Int)) : (fin [] o).1.length ≤ 30 := by
  cases o with
  | none => simp [fin]
  | some js =>
    by_cases h : jumpsB js = true
    · simp [fin, h]; exact (jumpsB_true h).1.2
    · simp [fin, h]
theorem split_count (c : UInt8) (l : List UInt8) : ∀ cur, (splitA c cur l).length ≤ l.length + 1 := by
  induction l with
  | nil => intro cur; simp [splitA]
  | cons b r ih =>
    intro cur
    rw [splitA]
    split
    · have := ih []; simp at this ⊢; omega
    · have := ih (cur ++ [b]); simp at this ⊢; omega
theorem ParseJumps_eq {k : Nat} (hk : 3000000 < k) (s : ByteArray) (hs : s.size ≤ 1048576) : ∃ r, spec_ParseJumps.f k s = some r ∧ impl_ParseJumps.f k s = some r ∧ r.1.length ≤ 100 := by
  have hz : s.size = s.data.toList.length := rfl
  have hc := split_count 44 s.data.toList []
  have hp : ∀ p ∈ splitA 44 [] s.data.toList, p.length ≤ 1048576 := fun p h => by have := split_length 44 s.data.toList [] p h; simp at this; omega
  refine ⟨fin [] (allM atoiV (splitA 44 [] s.data.toList)), ?_, ?_, by have := fin_length (allM atoiV (splitA 44 [] s.data.toList)); omega⟩
  · unfold spec_ParseJumps.f spec_baParse.f
    by_cases h : (s.size : Int) > 120
    · rw [if_pos h, long _ (by omega), Option.bind_some]
    · have e1 := l1Split_eq (k := k) s 44 hs (by omega)
      replace e1 : spec_l1Split.f k s 44 = _ := e1
      have e2 := spec_l0 (splitA 44 [] s.data.toList) (by omega) hp _ k 0 [] (Nat.zero_add _) (by omega) (by simp)
      rw [List.drop_zero, fin_both] at e2
      rw [if_neg h, e1, Option.bind_some, List.length_map]
      replace e2 : spec_baParse.l0 k [] ((splitA 44 [] s.data.toList).map BA) (splitA 44 [] s.data.toList).length 0 = _ := e2
      rw [e2, Option.bind_some]
  · unfold impl_ParseJumps.f strings_Split.f
    have e1 := splitB_eq 44 _ s (Nat.le_refl _)
    rw [if_pos ⟨by omega, Nat.le_refl _⟩, e1, Option.bind_some, List.length_map]
    have e2 := impl_l0 (splitA 44 [] s.data.toList) (by omega) hp _ k 0 [] (Nat.zero_add _) (by omega) (by simp)
    rw [List.drop_zero] at e2
    exact e2
theorem FnExactParseJumps : laws_FnExactParseJumps.Pure := by
  intro s _
  obtain ⟨k, hk⟩ : ∃ k, 3000000 < k := ⟨3000001, by omega⟩
  refine ⟨k + 3, ?_⟩
  unfold laws_FnExactParseJumps.f
  by_cases hs : (s.size : Int) > 1048576
  · rw [if_pos hs]
  · obtain ⟨r, h1, h2, hl⟩ := ParseJumps_eq (k := k + 3) (by omega) s (by omega)
    obtain ⟨r', h1', h2', -⟩ := ParseJumps_eq (k := k + 2) (by omega) s (by omega)
    have e : r' = r := by
      have m := impl_ParseJumps.mono s (k + 2) _ h2'
      rw [h2] at m; exact (Option.some.inj m).symm
    subst e
    rw [if_neg hs, h1, Option.bind_some, h2, Option.bind_some, eqIntS_self (by omega) (by omega), Option.bind_some, if_pos rfl, laws_FnExactParseJumps.j0, if_neg (by simp), markIntS_eq (by omega) (by omega) (by omega), Option.bind_some]
    rw [heldIntS_eq (by omega) (by omega) (by omega), Option.bind_some, if_neg (by omega), if_pos rfl, h2', Option.bind_some, eqIntS_self (by omega) (by omega), Option.bind_some, if_pos rfl, laws_FnExactParseJumps.j1, if_neg (by simp), heldIntS_eq (by omega) (by omega) (by omega), Option.bind_some, if_neg (by omega), if_pos rfl]

end Go.Proofs.YtalnjklklpnnhaaDoor.Pure
