/- What the walk of the law FnBallsGoOfAll asks of the pure part, and the statements of its body. No condition. -/
import Derived.Test.YtbbkbooiefoihaaPFnBallsGoOfAllx1
import Derived.Test.YtbbkbooiefoihaaPFnBallsGoOfAllx2
import Derived.Test.YtbbkbooiefoihaaPFnBallsGoOfAllx3
import Derived.Test.YtbbkbooiefoihaaPFnBallsGoOfAllx4
import Derived.Test.YtbbkbooiefoihaaPFnBallsGoOfAllx5
import Derived.Test.YtbbkbooiefoihaaPFnBallsGoOfAllx6
import Derived.Test.YtbbkbooiefoihaaPFnBallsGoOfAllx7
namespace Go.Proofs.Ytbbkbooiefoihaa.PFnBallsGoOfAll
open Go.RowKit Go.Proofs.YtbbkbooiefoihaaW.PrintWords Go.Proofs.YtbbkbooiefoihaaW.PrintLast Go.Proofs.YtbbkbooiefoihaaW.PrintMore
attribute [local go_sem] max2_int min2_int max_two min_two max_three min_three max_four min_four
set_option linter.unusedVariables false
set_option linter.unusedSimpArgs false

/-- What the walk asks of the first half: a path, its end, its loop. -/
structure Ball (k : Nat) (l : List Int) (s tm : Int) (pl : Int) (ok : Bool) (P : List Int) (one : Bool) (en : ByteArray) (Lp : List Int) (five : Bool) (un nx : Int) : Prop where
  short : l.length ≤ 10000
  five_eq : five = (one && (en.toList == [108]))
  okone : ok = true → one = true
  kind : one = true → (en.toList = [97] ∨ en.toList = [98] ∨ en.toList = [108])
  plen : one = true → 1 ≤ P.length ∧ P.length ≤ l.length
  p0 : one = true → rd P 0 = s
  prng : one = true → ∀ i : Int, 0 ≤ i → i < P.length → 0 ≤ rd P i ∧ rd P i < l.length
  pnext : one = true → ∀ i : Int, 0 < i → i < P.length → rd P i = wrap64 (rd P (wrap64 (i - 1)) + rd l (rd P (wrap64 (i - 1))))
  pnew : one = true → ∀ i : Int, 0 ≤ i → i < P.length → laws_lHas.f k (P.take i.toNat) (rd P i) = some false
  endA : one = true → (en.toList == [97]) = decide (wrap64 (rd P (wrap64 ((P.length : Int) - 1)) + rd l (rd P (wrap64 ((P.length : Int) - 1)))) < 0)
  endB : one = true → (en.toList == [98]) = decide (wrap64 (rd P (wrap64 ((P.length : Int) - 1)) + rd l (rd P (wrap64 ((P.length : Int) - 1)))) ≥ (l.length : Int))
  p1 : one = true → 1 < P.length → rd P 1 = nx
  p11 : one = true → P.length = 1 → en.toList = [108] → nx = s
  lpos : five = true → 1 ≤ Lp.length ∧ Lp.length ≤ P.length ∧ 0 ≤ un ∧ un < P.length ∧ wrap64 (un + (Lp.length : Int)) = P.length
  lbeh : five = true → wrap64 (rd P (wrap64 ((P.length : Int) - 1)) + rd l (rd P (wrap64 ((P.length : Int) - 1)))) = rd P un
  lhas : five = true → laws_lHas.f k Lp (rd P un) = some true
  lrng : five = true → ∀ i : Int, 0 ≤ i → i < Lp.length → 0 ≤ rd Lp i ∧ rd Lp i < l.length
  lleast : five = true → ∀ i : Int, 0 ≤ i → i < Lp.length → rd Lp 0 ≤ rd Lp i
  lnext : five = true → ∀ i : Int, 0 ≤ i → i < Lp.length → 0 ≤ Int.tmod (wrap64 (i + 1)) (Lp.length : Int) ∧ Int.tmod (wrap64 (i + 1)) (Lp.length : Int) < Lp.length ∧ rd Lp (Int.tmod (wrap64 (i + 1)) (Lp.length : Int)) = wrap64 (rd Lp i + rd l (rd Lp i))
  lin : five = true → ∀ i : Int, 0 ≤ i → i < Lp.length → laws_lHas.f k P (rd Lp i) = some true
  tm0 : ok = true → 0 ≤ tm
  early : ok = true → tm < P.length → pl = rd P tm
  lateA : ok = true → (P.length : Int) ≤ tm → en.toList = [97] → pl = -1
  lateB : ok = true → (P.length : Int) ≤ tm → en.toList = [98] → pl = l.length
  lateL : ok = true → (P.length : Int) ≤ tm → en.toList = [108] → laws_lHas.f k Lp pl = some true
  again : ok = true → en.toList = [108] → un ≤ tm → wrap64 (tm + (Lp.length : Int)) ≤ 1000000000000 → impl_PlaceAfter.f k l s (wrap64 (tm + (Lp.length : Int))) = some (pl, true)
/-- What the walk asks of the second half: two balls. -/
structure Two (k : Nat) (l : List Int) (a b : Int) (wn wh : Int) (me : Bool) (sm : Int) (th : Bool) (Pa Pb : List Int) (u v : Int) : Prop where
  short : l.length ≤ 10000
  meth : me = true → th = true
  wn1 : me = true → 1 ≤ wn
  x1 : me = true → impl_PlaceAfter.f k l a wn = some (wh, true)
  y1 : me = true → impl_PlaceAfter.f k l b wn = some (wh, true)
  u1 : me = true → impl_PlaceAfter.f k l a (wrap64 (wn - 1)) = some (u, true)
  v1 : me = true → impl_PlaceAfter.f k l b (wrap64 (wn - 1)) = some (v, true)
  uv : me = true → u ≠ v
  back : me = true → impl_BallsMeet.f k l b a = some (wn, wh, true)
  pa : th = true → impl_PathOfBall.f k l a = some (Pa, true)
  pb : th = true → impl_PathOfBall.f k l b = some (Pb, true)
  sin : th = true → laws_lHas.f k Pb sm = some true
  pas : Pa.length ≤ 1000
  first : th = true → ∃ n : Nat, n < Pa.length ∧ rd Pa (n : Int) = sm ∧ ∀ m : Nat, m < n → rd Pa (m : Int) ≠ sm ∧ laws_lHas.f k Pb (rd Pa (m : Int)) = some false

/-- The statements of a body, one behind the other. -/
def nth : Nat → Code → Code
  | 0, .seq a _ => a
  | n + 1, .seq _ b => nth n b
  | _, c => c
def rest : Nat → Code → Code
  | 0, c => c
  | n + 1, .seq _ b => rest n b
  | _, c => c
noncomputable def bodyC : Code := (Try.f4.body).getD .skip
def hd : Code → Code
  | .seq a _ => a
  | c => c
def tl : Code → Code
  | .seq _ b => b
  | c => c
def thenC : Code → Code
  | .cond _ a _ => a
  | c => c

end Go.Proofs.Ytbbkbooiefoihaa.PFnBallsGoOfAll
