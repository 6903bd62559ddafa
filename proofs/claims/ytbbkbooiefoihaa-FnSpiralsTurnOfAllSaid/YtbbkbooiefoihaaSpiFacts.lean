/- What the walk of the law FnSpiralsTurnOfAll asks of the pure part. No condition. -/
import Derived.Test.YtbbkbooiefoihaaSpiHead
namespace Go.Proofs.Ytbbkbooiefoihaa.PFnSpiralsTurnOfAll
open Go.RowKit Go.Proofs.YtbbkbooiefoihaaW.PrintWords Go.Proofs.YtbbkbooiefoihaaW.PrintLast Go.Proofs.YtbbkbooiefoihaaW.PrintMore
attribute [local go_sem] max2_int min2_int max_two min_two
set_option linter.unusedVariables false
set_option linter.unusedSimpArgs false
/-- What the walk asks of the first half: a spiral, its angles, its sides. -/
structure Spi (k : Nat) (a0_0 a0_1 a0_2 a1 : Int) (num den : Int) (ok : Bool) (ab : List Int) (hd_ : Int) (ot : List Int) (si : ByteArray) (hi : Int) (co : List Int) (th : Bool) (x y : Int) (LL : Int → List Int) (hh : Int → Int) (isn : Int → Bool) (pp qq : Int → Int) : Prop where
  wis1 : th = true → laws_wIs.f k x y (wrap64 (a0_0 - 1)) a0_1 = some true
  colen : th = true → co.length = 4
  wsum : th = true → laws_wSum.f k co = some a0_0
  side : th = true → ∀ i : Int, 0 ≤ i → i < 4 → impl_StepsAtSide.f k a0_0 a0_1 a0_2 ((⟨#[110, 101, 115, 119]⟩ : ByteArray).extract i.toNat (wrap64 (i + 1)).toNat) = some (LL i, true)
  sidelen : th = true → ∀ i : Int, 0 ≤ i → i < 4 → ((LL i).length : Int) = rd co i
  siderise : th = true → ∀ i : Int, 0 ≤ i → i < 4 → laws_wRises.f k (LL i) = some true
  sidehas : ok = true → ∀ i : Int, 0 ≤ i → i < 4 → laws_wHas.f k (LL i) a1 = some (si.toList == ((⟨#[110, 101, 115, 119]⟩ : ByteArray).extract i.toNat (wrap64 (i + 1)).toNat).toList)
  rpos : ok = true → 0 < a0_1
  wis2 : ok = true → laws_wIs.f k num den (Int.tmod (wrap64 (a1 - 1)) a0_1) a0_1 = some true
  low : ok = true → num < den ∨ num ≤ 0
  height : ok = true → hi = wrap64 (a1 * a0_2)
  orise : ok = true → laws_wRises.f k ot = some true
  odd : ok = true → Int.tmod a0_1 2 = 1 → ot.length = 0
  abs : ab.length ≤ 1000000
  ang : ok = true → ∀ i : Int, 0 ≤ i → i < ab.length → impl_AngleOf.f k a0_0 a0_1 a0_2 (rd ab i) = some (num, den, true)
  hei : ok = true → ∀ i : Int, 0 ≤ i → i < ab.length → impl_HeightSpiral.f k a0_0 a0_1 a0_2 (rd ab i) = some (hh i, true)
  abn : ok = true → ∀ i : Int, 0 ≤ i → i < ab.length → rd ab i = wrap64 (a1 + wrap64 (wrap64 (i + 1) * a0_1)) ∧ rd ab i ≤ a0_0 ∧ wrap64 (hh i - hi) = wrap64 (wrap64 (i + 1) * hd_)
  opp : ok = true → ∀ n : Int, 1 ≤ n → n ≤ a0_0 → n ≤ 40 → impl_AreOpposite.f k a0_0 a0_1 a0_2 a1 n = some (isn n, true) ∧ impl_ApartAround.f k a0_0 a0_1 a0_2 a1 n = some (pp n, qq n, true) ∧ laws_wHas.f k ot n = some (isn n) ∧ (isn n = true ↔ (pp n = 1 ∧ qq n = 2)) ∧ wrap64 (2 * pp n) ≤ qq n
/-- What the walk asks of the second half. -/
structure Spi2 (a7 a8 : Int) (ro : Int) (fl : Bool) : Prop where
  least : fl = true → 3 ≤ ro ∧ a8 ≤ wrap64 (ro * a7) ∧ (3 < ro → wrap64 (wrap64 (ro - 1) * a7) < a8)

end Go.Proofs.Ytbbkbooiefoihaa.PFnSpiralsTurnOfAll
