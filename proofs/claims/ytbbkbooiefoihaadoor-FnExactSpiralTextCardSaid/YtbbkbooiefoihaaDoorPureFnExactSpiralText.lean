/- The program's SpiralText returns what the reference's returns, for all arguments. No condition. -/
import Derived.Test.YtbbkbooiefoihaaDoorPFnExactSpiralTextx2
namespace Go.Proofs.YtbbkbooiefoihaaDoor.Pure
open Go.RowKit Go.Proofs.YtbbkbooiefoihaaDoor.PFnExactSpiralText Go.Proofs.YtbbkbooiefoihaaDoorW.PrintWords Go.Proofs.YtbbkbooiefoihaaDoorW.PrintLast Go.Proofs.YtbbkbooiefoihaaDoorW.PrintMore
set_option linter.unusedVariables false
set_option linter.unusedSimpArgs false

-- block within
theorem within_eq (a b c : Int) : impl_within.f a b c = some (decide (b ≤ a ∧ a ≤ c)) := by
  unfold impl_within.f
  by_cases h : b ≤ a
  · rw [if_pos h]; simp [h]
  · rw [if_neg h]; simp [h]

-- block l1In
theorem l1In_eq (a b c : Int) : spec_l1In.f a b c = some (decide (b ≤ a ∧ a ≤ c)) := by
  unfold spec_l1In.f
  by_cases h : a ≥ b
  · rw [if_pos h]; simp [show b ≤ a from h]
  · rw [if_neg h]; simp [show ¬ b ≤ a from h]

-- block w64
theorem w64 {x : Int} (h : -9223372036854775808 ≤ x ∧ x ≤ 9223372036854775807) : wrap64 x = x := by
  unfold wrap64; omega

-- block tdiv
theorem tdiv_nat (a b : Nat) : Int.tdiv (a : Int) (b : Int) = ((a / b : Nat) : Int) := rfl
theorem tmod_nat (a b : Nat) : Int.tmod (a : Int) (b : Int) = ((a % b : Nat) : Int) := rfl
theorem tdiv_pos {a b : Int} (ha : 0 ≤ a) : Int.tdiv a b = a / b := Int.tdiv_eq_ediv_of_nonneg ha
theorem tmod_pos {a b : Int} (ha : 0 ≤ a) : Int.tmod a b = a % b := Int.tmod_eq_emod_of_nonneg ha

-- block spiral
def goodB (a b c : Int) : Bool := decide ((1 ≤ a ∧ a ≤ 400) ∧ (3 ≤ b ∧ b ≤ 60) ∧ (1 ≤ c ∧ c ≤ 300))
theorem spGood_eq (a b c : Int) : spec_spGood.f a b c = some (goodB a b c) := by
  unfold spec_spGood.f goodB
  rw [l1In_eq, l1In_eq, l1In_eq]
  simp only [Option.bind_some]
  by_cases h : 1 ≤ a ∧ a ≤ 400
  · by_cases g : 3 ≤ b ∧ b ≤ 60
    · rw [if_pos (decide_eq_true h), if_pos (decide_eq_true g)]; congr 1; rw [decide_eq_decide]; omega
    · rw [if_pos (decide_eq_true h), if_neg (by simpa using g)]; congr 1; rw [eq_comm, decide_eq_false_iff_not]; omega
  · rw [if_neg (by simpa using h)]; congr 1; rw [eq_comm, decide_eq_false_iff_not]; omega

-- block IsSpiral
theorem IsSpiral_eq (a b c : Int) : impl_IsSpiral.f a b c = some (goodB a b c) := by
  unfold impl_IsSpiral.f goodB
  rw [within_eq, within_eq, within_eq]
  simp only [Option.bind_some]
  by_cases h : 1 ≤ a ∧ a ≤ 400
  · by_cases g : 3 ≤ b ∧ b ≤ 60
    · rw [if_pos (decide_eq_true h), if_pos (decide_eq_true g)]; congr 1; rw [decide_eq_decide]; omega
    · rw [if_pos (decide_eq_true h), if_neg (by simpa using g)]; congr 1; rw [eq_comm, decide_eq_false_iff_not]; omega
  · rw [if_neg (by simpa using h)]; congr 1; rw [eq_comm, decide_eq_false_iff_not]; omega

-- block l1Num
theorem strOf_one (n : Nat) : strOfNums [((n : Nat) : Int)] = ⟨#[UInt8.ofNat n]⟩ := rfl
theorem l1Num_eq : ∀ (u k : Nat), u < k → u ≤ 1000000 → spec_l1Num.f k (u : Int) = some ⟨(Lib.decDigits u).toArray⟩ ∧ (Lib.decDigits u).length ≤ u + 1 := by
  intro u
  induction u using Nat.strongRecOn with
  | _ u ih =>
    intro k hk hu
    obtain ⟨k, rfl⟩ : ∃ m, k = m + 1 := ⟨k - 1, by omega⟩
    have hd := Lib.decDigits.eq_def u
    by_cases h : u < 10
    · rw [dif_pos h] at hd
      rw [hd]
      refine ⟨?_, by simp⟩
      rw [spec_l1Num.f, if_pos (by omega), w64 (by omega)]
      rw [show (48 + (u : Int)) % 256 = ((48 + u : Nat) : Int) from by omega]
      rw [strOf_one]
    · rw [dif_neg h] at hd
      obtain ⟨e1, e2⟩ := ih (u / 10) (by omega) k (by omega) (by omega)
      rw [hd]
      refine ⟨?_, by rw [List.length_append]; simp; omega⟩
      have q1 : Int.tdiv (u : Int) 10 = ((u / 10 : Nat) : Int) := by rw [Int.tdiv_eq_ediv_of_nonneg (by omega)]; omega
      have q2 : Int.tmod (u : Int) 10 = ((u % 10 : Nat) : Int) := by rw [Int.tmod_eq_emod_of_nonneg (by omega)]; omega
      rw [spec_l1Num.f, if_neg (by omega), q1, q2, w64 (by omega), w64 (by omega), e1, Option.bind_some, Option.bind_some]
      rw [show (48 + ((u % 10 : Nat) : Int)) % 256 = ((48 + u % 10 : Nat) : Int) from by omega]
      have hs : (ByteArray.mk (Lib.decDigits (u / 10)).toArray).size = (Lib.decDigits (u / 10)).length := rfl
      have h1 : ∀ x : UInt8, (ByteArray.mk #[x]).size = 1 := fun _ => rfl
      rw [strOf_one, if_pos (by rw [hs, h1]; omega)]
      congr 1

theorem Itoa_eq (u : Nat) (h : u ≤ 1000000) : strconv_Itoa.f (u : Int) = some ⟨(Lib.decDigits u).toArray⟩ := by
  unfold strconv_Itoa.f Lib.itoa
  rw [if_pos (by omega), if_neg (by omega), Int.toNat_natCast]
theorem FnExactSpiralText : laws_FnExactSpiralText.Pure := by
  intro a b c _ _ _
  refine ⟨500, ?_⟩
  unfold laws_FnExactSpiralText.f laws_toSpiral.f
  simp only [Option.bind_some]
  have e : spec_SpiralText.f 500 a b c = impl_SpiralText.f a b c ∧ ∃ r, impl_SpiralText.f a b c = some r := by
    unfold spec_SpiralText.f impl_SpiralText.f
    rw [spGood_eq, IsSpiral_eq, Option.bind_some, Option.bind_some]
    by_cases h : goodB a b c = true
    · rw [if_pos h, if_pos h]
      have g : (1 ≤ a ∧ a ≤ 400) ∧ (3 ≤ b ∧ b ≤ 60) ∧ (1 ≤ c ∧ c ≤ 300) := of_decide_eq_true h
      obtain ⟨a, rfl⟩ := Int.eq_ofNat_of_zero_le (show 0 ≤ a by omega)
      obtain ⟨b, rfl⟩ := Int.eq_ofNat_of_zero_le (show 0 ≤ b by omega)
      obtain ⟨c, rfl⟩ := Int.eq_ofNat_of_zero_le (show 0 ≤ c by omega)
      obtain ⟨ea, la⟩ := l1Num_eq a 500 (by omega) (by omega)
      obtain ⟨eb, lb⟩ := l1Num_eq b 500 (by omega) (by omega)
      obtain ⟨ec, lc⟩ := l1Num_eq c 500 (by omega) (by omega)
      unfold spec_spText.f
      rw [ea, eb, ec, Itoa_eq a (by omega), Itoa_eq b (by omega), Itoa_eq c (by omega)]
      have sa : (ByteArray.mk (Lib.decDigits a).toArray).size = (Lib.decDigits a).length := rfl
      have sb : (ByteArray.mk (Lib.decDigits b).toArray).size = (Lib.decDigits b).length := rfl
      have sc : (ByteArray.mk (Lib.decDigits c).toArray).size = (Lib.decDigits c).length := rfl
      have s1 : ∀ x : UInt8, (ByteArray.mk #[x]).size = 1 := fun _ => rfl
      generalize ByteArray.mk (Lib.decDigits a).toArray = A at *
      generalize ByteArray.mk (Lib.decDigits b).toArray = B at *
      generalize ByteArray.mk (Lib.decDigits c).toArray = C at *
      simp only [Option.bind_some]
      rw [if_pos (by omega), if_pos (by simp only [ByteArray.size_append, s1]; omega), if_pos (by simp only [ByteArray.size_append, s1]; omega), if_pos (by simp only [ByteArray.size_append, s1]; omega)]
      rw [if_pos (by omega), if_pos (by simp only [ByteArray.size_append, s1]; omega), if_pos (by simp only [ByteArray.size_append, s1]; omega), if_pos (by simp only [ByteArray.size_append, s1]; omega)]
      exact ⟨rfl, _, rfl⟩
    · rw [if_neg h, if_neg h]
      exact ⟨rfl, _, rfl⟩
  obtain ⟨e1, r, e2⟩ := e
  rw [e1, e2]
  simp

end Go.Proofs.YtbbkbooiefoihaaDoor.Pure
