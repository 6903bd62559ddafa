/- Mended steps bear as many climbs as told and no sum is lesser, idle steps change nothing, the first climb is among all, and reaches are the least: the law FnStepsMended is true, whatever is given. No condition. -/
import Derived.Test.YtalnjklklpnnhaaSmpi
import Derived.Test.YtalnjklklpnnhaaSmmain
namespace Go.Proofs.Ytalnjklklpnnhaa.Pure
open Go.RowKit Go.Proofs.Ytalnjklklpnnhaa.PFnStepsMended Go.Proofs.YtalnjklklpnnhaaW.PrintWords Go.Proofs.YtalnjklklpnnhaaW.PrintLast Go.Proofs.YtalnjklklpnnhaaW.PrintMore
set_option linter.unusedVariables false
set_option linter.unusedSimpArgs false

theorem bytes_of {l : List Int} (h : ∀ n ∈ l, (Lit.int .u8 n).wf = true) : ∀ x ∈ l, 0 ≤ x ∧ x ≤ 255 := fun x hx => by
  have : IntKind.min .u8 ≤ x ∧ x ≤ IntKind.max .u8 := by simpa [Lit.wf] using h x hx
  have a : IntKind.min .u8 = 0 := by decide
  have b : IntKind.max .u8 = 255 := by decide
  rw [a, b] at this; exact this
theorem FnStepsMended (a0 : Option Addr) (len0 cap0 : Nat) (z0 : List Int) (a1 : Option Addr) (len1 cap1 : Nat) (z1 : List Int) (w : World) (w0 : (a0 = none ∧ len0 = 0 ∧ cap0 = 0 ∧ z0 = []) ∨ ∃ x, a0 = some x ∧ len0 ≤ cap0 ∧ cap0 ≤ maxLen ∧ z0.length = cap0 ∧ (∀ i, i < z0.length → w.cell? (x.add i) = some (.int .u8 (z0.getD i 0))) ∧ ∀ n ∈ z0, (Lit.int .u8 n).wf = true) (w1 : (a1 = none ∧ len1 = 0 ∧ cap1 = 0 ∧ z1 = []) ∨ ∃ x, a1 = some x ∧ len1 ≤ cap1 ∧ cap1 ≤ maxLen ∧ z1.length = cap1 ∧ (∀ i, i < z1.length → w.cell? (x.add i) = some (.int .u8 (z1.getD i 0))) ∧ ∀ n ∈ z1, (Lit.int .u8 n).wf = true) :
    Calls Try.prog 4 #[.slice a0 len0 cap0, .slice a1 len1 cap1] w fun e w' => e = .returned (.bool true) ∧ Below w.heap.size w w' := by
  obtain ⟨l0, rfl, hr0, hm0, hw0, hc0⟩ := ReadsInt.ofRowC w0
  obtain ⟨l1, rfl, hr1, hm1, hw1, hc1⟩ := ReadsInt.ofRowC w1
  have h0 := Kd.C_of_reads (d := (0 : Int)) (h1 := fun _ => rfl) hr0
  have h1 := Kd.C_of_reads (d := (0 : Int)) (h1 := fun _ => rfl) hr1
  by_cases hs : (l0.length : Int) > 1048576
  · exact men_big _ _ l0 _ _ l1 w h0 hc0 h1 hc1 (by unfold laws_big.f; rw [if_pos hs])
  · by_cases hs2 : (l1.length : Int) > 1048576 - (l0.length : Int)
    · exact men_big _ _ l0 _ _ l1 w h0 hc0 h1 hc1 (by unfold laws_big.f; rw [if_neg hs, w64 (by omega), decide_eq_true hs2])
    · have e0 : laws_big.f l0 l1 = some false := by unfold laws_big.f; rw [if_neg hs, w64 (by omega), decide_eq_false hs2]
      obtain ⟨B, R, C, d1, -⟩ := drawMend_ex (k := 3000) (by omega) (show l0.length ≤ 1048576 by omega) (bytes_of hw0)
      obtain ⟨U, r, d2, -⟩ := drawMost_ex (k := 3000) (by omega) (show l1.length ≤ 1048576 by omega) (bytes_of hw1)
      obtain ⟨V, n, d3, -⟩ := drawReach_ex (k := 3000) (by omega) (show l1.length ≤ 1048576 by omega) (bytes_of hw1)
      obtain ⟨M, ok, S, mo, ls, pr, ws, G1, e1, e2, e3, e4, e5⟩ := mend_ex (k := 3000) (by omega) B R C
      obtain ⟨I, t3, wo, le, fi, t7, few, cnt, te, mo2, lo_, G2, f1, f2, f3, f4, f5, f6, f7, f8, f9, f10, f11, f12⟩ := men2_ex (k := 3000) (by omega) U r
      obtain ⟨far, tt, m1, m2, G3, g1, g2⟩ := reach_ex (k := 3000) (by omega) V n
      exact men_walk 3000 _ _ l0 _ _ l1 w B R C M ok S mo ls pr ws U r I t3 wo le fi t7 few cnt te mo2 lo_ V n far tt m1 m2 h0 hc0 h1 hc1 e0 ⟨G1⟩ ⟨G2⟩ ⟨G3⟩ ⟨d1⟩ ⟨e1⟩ ⟨e2⟩ ⟨e3⟩ ⟨e4⟩ ⟨wSame_self (by omega) (by omega)⟩ ⟨d2⟩ ⟨f1⟩ ⟨f2⟩ ⟨f3⟩ ⟨f4⟩ ⟨f5⟩ ⟨f6⟩ ⟨f7⟩ ⟨f8⟩ ⟨f9⟩ ⟨f10⟩ ⟨d3⟩ ⟨g1⟩ ⟨g2⟩ ⟨wSame_self (by omega) (by omega)⟩ ⟨wSame_self (by omega) (by omega)⟩

end Go.Proofs.Ytalnjklklpnnhaa.Pure
