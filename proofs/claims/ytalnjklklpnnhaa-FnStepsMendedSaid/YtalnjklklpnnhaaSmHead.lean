/- What the walk of the law FnStepsMended asks of the pure part, and the statements of its body. No condition. -/
import Derived.Test.YtalnjklklpnnhaaPFnStepsMendedx
import Derived.Test.YtalnjklklpnnhaaSmDraws
namespace Go.Proofs.Ytalnjklklpnnhaa.PFnStepsMended
open Go.RowKit Go.Proofs.YtalnjklklpnnhaaW.PrintWords Go.Proofs.YtalnjklklpnnhaaW.PrintLast Go.Proofs.YtalnjklklpnnhaaW.PrintMore
attribute [local go_sem] max2_int min2_int max_two min_two
set_option linter.unusedVariables false
set_option linter.unusedSimpArgs false

def nth : Nat → Code → Code
  | 0, .seq a _ => a
  | n + 1, .seq _ b => nth n b
  | _, c => c
noncomputable def bodyC : Code := (Try.f4.body).getD .skip
def hd : Code → Code
  | .seq a _ => a
  | c => c
def tl : Code → Code
  | .seq _ b => b
  | c => c
/-- What the walk asks of mended bears: B, R, C bears, reach, climbs; M the mended ones, S their sum, mo the most climbs, pr the sums up to a step, ws the parts' sums, ls the sum for one climb less. -/
structure Men1 (k : Nat) (B : List Int) (R C : Int) (M : List Int) (ok : Bool) (S mo ls : Int) (pr ws : Int → Int) : Prop where
  most : ok = true → impl_MostWears.f k B R = some (mo, true)
  mlen : ok = true → M.length = B.length
  rng : ok = true → 1 ≤ R ∧ R ≤ M.length ∧ M.length ≤ 20 ∧ 0 ≤ C ∧ C ≤ 1000
  none : ok = true → (S = 0 ↔ C ≤ mo)
  low : ok = true → wrap64 (C - mo) ≤ S
  ge : ok = true → ∀ i : Int, 0 ≤ i → i < M.length → rd B i ≤ rd M i
  pre : ok = true → pr 0 = 0 ∧ pr M.length = S ∧ ∀ i : Int, 0 ≤ i → i < M.length → wrap64 (pr i + wrap64 (rd M i - rd B i)) = pr (i + 1)
  win : ok = true → ∀ i : Int, 0 ≤ i → i + R ≤ M.length → laws_wSum.f k ((M.take (i + R).toNat).drop i.toNat) = some (ws i) ∧ C ≤ ws i
  less : ok = true → 0 < C → impl_MendSum.f k B R (wrap64 (C - 1)) = some (ls, true) ∧ ls ≤ S
/-- What the walk asks of bears U and a reach r: I the idle ones, wo and le the worst step to lose and what is left, fi the first climb, few the fewest steps, cnt the number of climbs, mo the most climbs, lo what is left without a step. -/
structure Men2 (k : Nat) (U : List Int) (r : Int) (I : List Int) (t3 : Bool) (wo le : Int) (fi : List Int) (t7 : Bool) (few cnt : Int) (te : Bool) (mo : Int) (lo : Int → Int) : Prop where
  count : te = true → t7 = decide (0 < cnt)
  ulen : t3 = true → U.length ≤ 20
  most : t3 = true → impl_MostWears.f k U r = some (mo, true)
  rise : t3 = true → laws_wRises.f k I = some true
  least : t3 = true → le ≤ mo
  first : t3 = true → t7 = decide (0 < mo)
  lost : t3 = true → ∀ i : Int, 0 ≤ i → i < U.length → impl_MostWears.f k (U.set i.toNat 0) r = some (lo i, true) ∧ le ≤ lo i ∧ (lo i = le → wo ≤ i + 1) ∧ (i + 1 = wo → lo i = le) ∧ laws_wHas.f k I (i + 1) = some (lo i == mo)
  climb : t7 = true → impl_IsWearClimb.f k U r fi = some (true, true) ∧ few ≤ fi.length ∧ 0 ≤ few ∧ U.length ≤ 20 ∧ few ≤ 20 ∧ 1 ≤ r ∧ r ≤ 20 ∧ (U.length : Int) + 1 ≤ (few + 1) * r
/-- What the walk asks of the least reach. -/
structure Men3 (k : Nat) (V : List Int) (n far : Int) (tt : Bool) (m1 m2 : Int) : Prop where
  rng : tt = true → 1 ≤ far ∧ far ≤ (V.length : Int) + 1 ∧ V.length ≤ 20
  up : tt = true → far ≤ V.length → impl_MostWears.f k V far = some (m1, true) ∧ n ≤ m1
  down : tt = true → 1 < far → impl_MostWears.f k V (wrap64 (far - 1)) = some (m2, true) ∧ m2 < n

/-- The contract of MostWears for a list whose length is spelled otherwise. -/
theorem mostWears_callsL (k : Nat) (A0 : Option Addr) (c0 : Nat) (l0 : List Int) (m : Nat) (a1 r1 : Int) (r2 : Bool) (w : World) (hl : m = l0.length) (hr0 : Kd.C (Kd.int .i64) w A0 l0.length l0) (hc0 : l0.length ≤ c0) (h : impl_MostWears.f k l0 a1 = some (r1, r2)) :
    Calls Try.prog 18 #[.slice A0 m c0, .int .i64 a1] w fun e w' => e = .returned (.tuple #[.int .i64 r1, .bool r2]) ∧ Below w.heap.size w w' := by
  subst hl; exact impl_MostWears.calls k A0 c0 l0 a1 r1 r2 w hr0 hc0 h
end Go.Proofs.Ytalnjklklpnnhaa.PFnStepsMended
