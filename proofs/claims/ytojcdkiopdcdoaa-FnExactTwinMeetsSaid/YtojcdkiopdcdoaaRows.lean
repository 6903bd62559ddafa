/-
  No cell of these rows narrows 'for every input' (looked for: loops, veiled, ifaces, maps, wideKeys, modest, calm, conditions, laid).
  DERIVED. THE GIVEN ROWS OF THIS SEAT. 10 by the template 'for every input the law returns true; each argument reads behind the call as it read before'; 0 by the template 'total and deterministic' (their statements: YtojcdkiopdcdoaaTotals.lean).
  GIVEN WITH THE SEED: the statements are not yours to turn. If you find one false, say at which input.
  Laid BY PROGRAM, IN A SANDBOX (cutbox-rows.mjs): the forced cells as the released guide's own fill.sh prints them over the translation 48bc6b6699de7201… (all of the seat's roots in one cut). By AI agents, Wed Nov 11 2026. No macro, syntax, notation, axiom, sorry.
-/
import Derived.Test.YtojcdkiopdcdoaaChecked
import GoSem.Claim
import GoSem.ClaimJoined
import GoSem.ClaimMapViews
import Derived.JoinedTies
import Derived.KernelRfl
namespace Go.Proofs.Ytojcdkiopdcdoaa
/- THE CELL 'sum', in the pinned program and in every row, IS THE sha256 OF THE DUMP (.gsa) THAT YtojcdkiopdcdoaaProg.lean LOADS. Nothing in Lean hashes anything: it is a label: what it is worth is what the hold of that sum in a sandbox is worth. -/
noncomputable def Try.pinned : Pinned := { name := "ytojcdkiopdcdoaa", sum := "48bc6b6699de72014340794b2d573b2771c6711b9ea54a7d2431d7f70a2959c2", checked := Try.checked }
namespace Rows
def none {H : Type} : Left H := { results := [], args := [] }

/-- 'laws.FnExactLampsAndWindows': WHATEVER THE INPUT: true; the input reads as it did. -/
def fnExactLampsAndWindowsSpec : ChangeSpec := { name := "fnExactLampsAndWindows", fn := fun _ => fun
  | [d1, d2, d3] => { results := [.lit (.bool true)], args := [d1, d2, d3] }
  | _ => none }
def fnExactLampsAndWindowsRow : OpenClaim := { program := "ytojcdkiopdcdoaa", sum := "48bc6b6699de72014340794b2d573b2771c6711b9ea54a7d2431d7f70a2959c2", func := "loop.example/g01374/laws.FnExactLampsAndWindows", spec := "fnExactLampsAndWindows", unfollowed := true, recurses := true, apart := false }
def FnExactLampsAndWindowsSaid : Prop := fnExactLampsAndWindowsRow.holds Try.pinned (OpenSpec.ofChange fnExactLampsAndWindowsSpec)

/-- ITS FALSE NEIGHBOUR: 'it returns false'. Refute it at one input. -/
def fnExactLampsAndWindowsWrong : ChangeSpec := { name := "fnExactLampsAndWindows", fn := fun _ => fun
  | [d1, d2, d3] => { results := [.lit (.bool false)], args := [d1, d2, d3] }
  | _ => none }
def FnExactLampsAndWindowsWrongFalsely : Prop := fnExactLampsAndWindowsRow.holds Try.pinned (OpenSpec.ofChange fnExactLampsAndWindowsWrong)

/-- 'laws.FnExactApartAround': WHATEVER THE INPUT: true; the input reads as it did. -/
def fnExactApartAroundSpec : ChangeSpec := { name := "fnExactApartAround", fn := fun _ => fun
  | [d1, d2, d3] => { results := [.lit (.bool true)], args := [d1, d2, d3] }
  | _ => none }
def fnExactApartAroundRow : OpenClaim := { program := "ytojcdkiopdcdoaa", sum := "48bc6b6699de72014340794b2d573b2771c6711b9ea54a7d2431d7f70a2959c2", func := "loop.example/g01374/laws.FnExactApartAround", spec := "fnExactApartAround", apart := false }
def FnExactApartAroundSaid : Prop := fnExactApartAroundRow.holds Try.pinned (OpenSpec.ofChange fnExactApartAroundSpec)

/-- ITS FALSE NEIGHBOUR: 'it returns false'. Refute it at one input. -/
def fnExactApartAroundWrong : ChangeSpec := { name := "fnExactApartAround", fn := fun _ => fun
  | [d1, d2, d3] => { results := [.lit (.bool false)], args := [d1, d2, d3] }
  | _ => none }
def FnExactApartAroundWrongFalsely : Prop := fnExactApartAroundRow.holds Try.pinned (OpenSpec.ofChange fnExactApartAroundWrong)

/-- 'laws.FnExactStepsOfRolls': WHATEVER THE INPUT: true; the input reads as it did. -/
def fnExactStepsOfRollsSpec : ChangeSpec := { name := "fnExactStepsOfRolls", fn := fun _ => fun
  | [d1, d2] => { results := [.lit (.bool true)], args := [d1, d2] }
  | _ => none }
def fnExactStepsOfRollsRow : OpenClaim := { program := "ytojcdkiopdcdoaa", sum := "48bc6b6699de72014340794b2d573b2771c6711b9ea54a7d2431d7f70a2959c2", func := "loop.example/g01374/laws.FnExactStepsOfRolls", spec := "fnExactStepsOfRolls", unfollowed := true, recurses := true, apart := false }
def FnExactStepsOfRollsSaid : Prop := fnExactStepsOfRollsRow.holds Try.pinned (OpenSpec.ofChange fnExactStepsOfRollsSpec)

/-- ITS FALSE NEIGHBOUR: 'it returns false'. Refute it at one input. -/
def fnExactStepsOfRollsWrong : ChangeSpec := { name := "fnExactStepsOfRolls", fn := fun _ => fun
  | [d1, d2] => { results := [.lit (.bool false)], args := [d1, d2] }
  | _ => none }
def FnExactStepsOfRollsWrongFalsely : Prop := fnExactStepsOfRollsRow.holds Try.pinned (OpenSpec.ofChange fnExactStepsOfRollsWrong)

/-- 'laws.FnExactWholeStarts': WHATEVER THE INPUT: true; the input reads as it did. -/
def fnExactWholeStartsSpec : ChangeSpec := { name := "fnExactWholeStarts", fn := fun _ => fun
  | [d1, d2, d3] => { results := [.lit (.bool true)], args := [d1, d2, d3] }
  | _ => none }
def fnExactWholeStartsRow : OpenClaim := { program := "ytojcdkiopdcdoaa", sum := "48bc6b6699de72014340794b2d573b2771c6711b9ea54a7d2431d7f70a2959c2", func := "loop.example/g01374/laws.FnExactWholeStarts", spec := "fnExactWholeStarts", apart := false }
def FnExactWholeStartsSaid : Prop := fnExactWholeStartsRow.holds Try.pinned (OpenSpec.ofChange fnExactWholeStartsSpec)

/-- ITS FALSE NEIGHBOUR: 'it returns false'. Refute it at one input. -/
def fnExactWholeStartsWrong : ChangeSpec := { name := "fnExactWholeStarts", fn := fun _ => fun
  | [d1, d2, d3] => { results := [.lit (.bool false)], args := [d1, d2, d3] }
  | _ => none }
def FnExactWholeStartsWrongFalsely : Prop := fnExactWholeStartsRow.holds Try.pinned (OpenSpec.ofChange fnExactWholeStartsWrong)

/-- 'laws.FnExactStepsAbove': WHATEVER THE INPUT: true; the input reads as it did. -/
def fnExactStepsAboveSpec : ChangeSpec := { name := "fnExactStepsAbove", fn := fun _ => fun
  | [d1, d2] => { results := [.lit (.bool true)], args := [d1, d2] }
  | _ => none }
def fnExactStepsAboveRow : OpenClaim := { program := "ytojcdkiopdcdoaa", sum := "48bc6b6699de72014340794b2d573b2771c6711b9ea54a7d2431d7f70a2959c2", func := "loop.example/g01374/laws.FnExactStepsAbove", spec := "fnExactStepsAbove", unfollowed := true, recurses := true, apart := false }
def FnExactStepsAboveSaid : Prop := fnExactStepsAboveRow.holds Try.pinned (OpenSpec.ofChange fnExactStepsAboveSpec)

/-- ITS FALSE NEIGHBOUR: 'it returns false'. Refute it at one input. -/
def fnExactStepsAboveWrong : ChangeSpec := { name := "fnExactStepsAbove", fn := fun _ => fun
  | [d1, d2] => { results := [.lit (.bool false)], args := [d1, d2] }
  | _ => none }
def FnExactStepsAboveWrongFalsely : Prop := fnExactStepsAboveRow.holds Try.pinned (OpenSpec.ofChange fnExactStepsAboveWrong)

/-- 'laws.FnExactRestOfRolls': WHATEVER THE INPUT: true; the input reads as it did. -/
def fnExactRestOfRollsSpec : ChangeSpec := { name := "fnExactRestOfRolls", fn := fun _ => fun
  | [d1, d2] => { results := [.lit (.bool true)], args := [d1, d2] }
  | _ => none }
def fnExactRestOfRollsRow : OpenClaim := { program := "ytojcdkiopdcdoaa", sum := "48bc6b6699de72014340794b2d573b2771c6711b9ea54a7d2431d7f70a2959c2", func := "loop.example/g01374/laws.FnExactRestOfRolls", spec := "fnExactRestOfRolls", unfollowed := true, recurses := true, apart := false }
def FnExactRestOfRollsSaid : Prop := fnExactRestOfRollsRow.holds Try.pinned (OpenSpec.ofChange fnExactRestOfRollsSpec)

/-- ITS FALSE NEIGHBOUR: 'it returns false'. Refute it at one input. -/
def fnExactRestOfRollsWrong : ChangeSpec := { name := "fnExactRestOfRolls", fn := fun _ => fun
  | [d1, d2] => { results := [.lit (.bool false)], args := [d1, d2] }
  | _ => none }
def FnExactRestOfRollsWrongFalsely : Prop := fnExactRestOfRollsRow.holds Try.pinned (OpenSpec.ofChange fnExactRestOfRollsWrong)

/-- 'laws.FnExactJoinsOfPlan': WHATEVER THE INPUT: true; the input reads as it did. -/
def fnExactJoinsOfPlanSpec : ChangeSpec := { name := "fnExactJoinsOfPlan", fn := fun _ => fun
  | [d] => { results := [.lit (.bool true)], args := [d] }
  | _ => none }
def fnExactJoinsOfPlanRow : OpenClaim := { program := "ytojcdkiopdcdoaa", sum := "48bc6b6699de72014340794b2d573b2771c6711b9ea54a7d2431d7f70a2959c2", func := "loop.example/g01374/laws.FnExactJoinsOfPlan", spec := "fnExactJoinsOfPlan", unfollowed := true, recurses := true, apart := false }
def FnExactJoinsOfPlanSaid : Prop := fnExactJoinsOfPlanRow.holds Try.pinned (OpenSpec.ofChange fnExactJoinsOfPlanSpec)

/-- ITS FALSE NEIGHBOUR: 'it returns false'. Refute it at one input. -/
def fnExactJoinsOfPlanWrong : ChangeSpec := { name := "fnExactJoinsOfPlan", fn := fun _ => fun
  | [d] => { results := [.lit (.bool false)], args := [d] }
  | _ => none }
def FnExactJoinsOfPlanWrongFalsely : Prop := fnExactJoinsOfPlanRow.holds Try.pinned (OpenSpec.ofChange fnExactJoinsOfPlanWrong)

/-- 'laws.FnExactCountSides': WHATEVER THE INPUT: true; the input reads as it did. -/
def fnExactCountSidesSpec : ChangeSpec := { name := "fnExactCountSides", fn := fun _ => fun
  | [d] => { results := [.lit (.bool true)], args := [d] }
  | _ => none }
def fnExactCountSidesRow : OpenClaim := { program := "ytojcdkiopdcdoaa", sum := "48bc6b6699de72014340794b2d573b2771c6711b9ea54a7d2431d7f70a2959c2", func := "loop.example/g01374/laws.FnExactCountSides", spec := "fnExactCountSides", apart := false }
def FnExactCountSidesSaid : Prop := fnExactCountSidesRow.holds Try.pinned (OpenSpec.ofChange fnExactCountSidesSpec)

/-- ITS FALSE NEIGHBOUR: 'it returns false'. Refute it at one input. -/
def fnExactCountSidesWrong : ChangeSpec := { name := "fnExactCountSides", fn := fun _ => fun
  | [d] => { results := [.lit (.bool false)], args := [d] }
  | _ => none }
def FnExactCountSidesWrongFalsely : Prop := fnExactCountSidesRow.holds Try.pinned (OpenSpec.ofChange fnExactCountSidesWrong)

/-- 'laws.FnExactTwinMeets': WHATEVER THE INPUT: true; the input reads as it did. -/
def fnExactTwinMeetsSpec : ChangeSpec := { name := "fnExactTwinMeets", fn := fun _ => fun
  | [d1, d2] => { results := [.lit (.bool true)], args := [d1, d2] }
  | _ => none }
def fnExactTwinMeetsRow : OpenClaim := { program := "ytojcdkiopdcdoaa", sum := "48bc6b6699de72014340794b2d573b2771c6711b9ea54a7d2431d7f70a2959c2", func := "loop.example/g01374/laws.FnExactTwinMeets", spec := "fnExactTwinMeets", unfollowed := true, recurses := true, apart := false }
def FnExactTwinMeetsSaid : Prop := fnExactTwinMeetsRow.holds Try.pinned (OpenSpec.ofChange fnExactTwinMeetsSpec)

/-- ITS FALSE NEIGHBOUR: 'it returns false'. Refute it at one input. -/
def fnExactTwinMeetsWrong : ChangeSpec := { name := "fnExactTwinMeets", fn := fun _ => fun
  | [d1, d2] => { results := [.lit (.bool false)], args := [d1, d2] }
  | _ => none }
def FnExactTwinMeetsWrongFalsely : Prop := fnExactTwinMeetsRow.holds Try.pinned (OpenSpec.ofChange fnExactTwinMeetsWrong)

/-- 'laws.FnExactNextPlace': WHATEVER THE INPUT: true; the input reads as it did. -/
def fnExactNextPlaceSpec : ChangeSpec := { name := "fnExactNextPlace", fn := fun _ => fun
  | [d1, d2] => { results := [.lit (.bool true)], args := [d1, d2] }
  | _ => none }
def fnExactNextPlaceRow : OpenClaim := { program := "ytojcdkiopdcdoaa", sum := "48bc6b6699de72014340794b2d573b2771c6711b9ea54a7d2431d7f70a2959c2", func := "loop.example/g01374/laws.FnExactNextPlace", spec := "fnExactNextPlace", unfollowed := true, recurses := true, apart := false }
def FnExactNextPlaceSaid : Prop := fnExactNextPlaceRow.holds Try.pinned (OpenSpec.ofChange fnExactNextPlaceSpec)

/-- ITS FALSE NEIGHBOUR: 'it returns false'. Refute it at one input. -/
def fnExactNextPlaceWrong : ChangeSpec := { name := "fnExactNextPlace", fn := fun _ => fun
  | [d1, d2] => { results := [.lit (.bool false)], args := [d1, d2] }
  | _ => none }
def FnExactNextPlaceWrongFalsely : Prop := fnExactNextPlaceRow.holds Try.pinned (OpenSpec.ofChange fnExactNextPlaceWrong)

/- THE SECOND FORM. 'bulk': how many values and letters a reading holds, each counted each time it is reached (what is shared counts as often as it is met; a slice's spare places count too). A statement '..UptoSaid' is the law's where the arguments, and the package variables that the reading takes, are together of bulk at most 1048576: NARROWER than '..Said'. Prove '..Said' where nothing that the law and all that it calls make is longer than what came in: it says more and counts as full. Else prove '..UptoSaid'. A law counts once. -/
mutual
def uptoBulk {H : Type} : DataW H → Nat
  | .lit (.string bytes) => bytes.length + 1
  | .lit _ => 1
  | .nil => 1
  | .ptr d => uptoBulk d + 1
  | .slice elems spare => uptoBulkAll elems + uptoBulkAll spare + 1
  | .agg parts => uptoBulkAll parts + 1
  | .iface _ d => uptoBulk d + 1
  | .map entries => uptoBulkEntries entries + 1
  | .held _ => 1
def uptoBulkAll {H : Type} : List (DataW H) → Nat
  | [] => 0
  | d :: r => uptoBulk d + uptoBulkAll r
def uptoBulkEntries {H : Type} : List (Lit × DataW H) → Nat
  | [] => 0
  | x :: r => uptoBulkEntry x + uptoBulkEntries r
def uptoBulkEntry {H : Type} : Lit × DataW H → Nat
  | (.string bytes, d) => bytes.length + uptoBulk d + 1
  | (_, d) => uptoBulk d + 1
 end
def uptoSmall : (H : Type) → List (DataW H) → Bool := fun _ ds => decide (uptoBulkAll ds ≤ 1048576)
def OpenSpec.upto (s : _root_.Go.ChangeSpec) : _root_.Go.OpenSpec := { _root_.Go.OpenSpec.ofChange s with cond := some uptoSmall }

/-- 'laws.FnExactLampsAndWindows', WHERE WHAT IT READS IS OF BULK AT MOST 1048576: true; the input reads as it did. -/
def fnExactLampsAndWindowsUptoRow : OpenClaim := { program := "ytojcdkiopdcdoaa", sum := "48bc6b6699de72014340794b2d573b2771c6711b9ea54a7d2431d7f70a2959c2", func := "loop.example/g01374/laws.FnExactLampsAndWindows", spec := "fnExactLampsAndWindows", unfollowed := true, recurses := true, apart := false, narrowed := true }
def FnExactLampsAndWindowsUptoSaid : Prop := fnExactLampsAndWindowsUptoRow.holds Try.pinned (OpenSpec.upto fnExactLampsAndWindowsSpec)

/-- 'laws.FnExactApartAround', WHERE WHAT IT READS IS OF BULK AT MOST 1048576: true; the input reads as it did. -/
def fnExactApartAroundUptoRow : OpenClaim := { program := "ytojcdkiopdcdoaa", sum := "48bc6b6699de72014340794b2d573b2771c6711b9ea54a7d2431d7f70a2959c2", func := "loop.example/g01374/laws.FnExactApartAround", spec := "fnExactApartAround", apart := false, narrowed := true }
def FnExactApartAroundUptoSaid : Prop := fnExactApartAroundUptoRow.holds Try.pinned (OpenSpec.upto fnExactApartAroundSpec)

/-- 'laws.FnExactStepsOfRolls', WHERE WHAT IT READS IS OF BULK AT MOST 1048576: true; the input reads as it did. -/
def fnExactStepsOfRollsUptoRow : OpenClaim := { program := "ytojcdkiopdcdoaa", sum := "48bc6b6699de72014340794b2d573b2771c6711b9ea54a7d2431d7f70a2959c2", func := "loop.example/g01374/laws.FnExactStepsOfRolls", spec := "fnExactStepsOfRolls", unfollowed := true, recurses := true, apart := false, narrowed := true }
def FnExactStepsOfRollsUptoSaid : Prop := fnExactStepsOfRollsUptoRow.holds Try.pinned (OpenSpec.upto fnExactStepsOfRollsSpec)

/-- 'laws.FnExactWholeStarts', WHERE WHAT IT READS IS OF BULK AT MOST 1048576: true; the input reads as it did. -/
def fnExactWholeStartsUptoRow : OpenClaim := { program := "ytojcdkiopdcdoaa", sum := "48bc6b6699de72014340794b2d573b2771c6711b9ea54a7d2431d7f70a2959c2", func := "loop.example/g01374/laws.FnExactWholeStarts", spec := "fnExactWholeStarts", apart := false, narrowed := true }
def FnExactWholeStartsUptoSaid : Prop := fnExactWholeStartsUptoRow.holds Try.pinned (OpenSpec.upto fnExactWholeStartsSpec)

/-- 'laws.FnExactStepsAbove', WHERE WHAT IT READS IS OF BULK AT MOST 1048576: true; the input reads as it did. -/
def fnExactStepsAboveUptoRow : OpenClaim := { program := "ytojcdkiopdcdoaa", sum := "48bc6b6699de72014340794b2d573b2771c6711b9ea54a7d2431d7f70a2959c2", func := "loop.example/g01374/laws.FnExactStepsAbove", spec := "fnExactStepsAbove", unfollowed := true, recurses := true, apart := false, narrowed := true }
def FnExactStepsAboveUptoSaid : Prop := fnExactStepsAboveUptoRow.holds Try.pinned (OpenSpec.upto fnExactStepsAboveSpec)

/-- 'laws.FnExactRestOfRolls', WHERE WHAT IT READS IS OF BULK AT MOST 1048576: true; the input reads as it did. -/
def fnExactRestOfRollsUptoRow : OpenClaim := { program := "ytojcdkiopdcdoaa", sum := "48bc6b6699de72014340794b2d573b2771c6711b9ea54a7d2431d7f70a2959c2", func := "loop.example/g01374/laws.FnExactRestOfRolls", spec := "fnExactRestOfRolls", unfollowed := true, recurses := true, apart := false, narrowed := true }
def FnExactRestOfRollsUptoSaid : Prop := fnExactRestOfRollsUptoRow.holds Try.pinned (OpenSpec.upto fnExactRestOfRollsSpec)

/-- 'laws.FnExactJoinsOfPlan', WHERE WHAT IT READS IS OF BULK AT MOST 1048576: true; the input reads as it did. -/
def fnExactJoinsOfPlanUptoRow : OpenClaim := { program := "ytojcdkiopdcdoaa", sum := "48bc6b6699de72014340794b2d573b2771c6711b9ea54a7d2431d7f70a2959c2", func := "loop.example/g01374/laws.FnExactJoinsOfPlan", spec := "fnExactJoinsOfPlan", unfollowed := true, recurses := true, apart := false, narrowed := true }
def FnExactJoinsOfPlanUptoSaid : Prop := fnExactJoinsOfPlanUptoRow.holds Try.pinned (OpenSpec.upto fnExactJoinsOfPlanSpec)

/-- 'laws.FnExactCountSides', WHERE WHAT IT READS IS OF BULK AT MOST 1048576: true; the input reads as it did. -/
def fnExactCountSidesUptoRow : OpenClaim := { program := "ytojcdkiopdcdoaa", sum := "48bc6b6699de72014340794b2d573b2771c6711b9ea54a7d2431d7f70a2959c2", func := "loop.example/g01374/laws.FnExactCountSides", spec := "fnExactCountSides", apart := false, narrowed := true }
def FnExactCountSidesUptoSaid : Prop := fnExactCountSidesUptoRow.holds Try.pinned (OpenSpec.upto fnExactCountSidesSpec)

/-- 'laws.FnExactTwinMeets', WHERE WHAT IT READS IS OF BULK AT MOST 1048576: true; the input reads as it did. -/
def fnExactTwinMeetsUptoRow : OpenClaim := { program := "ytojcdkiopdcdoaa", sum := "48bc6b6699de72014340794b2d573b2771c6711b9ea54a7d2431d7f70a2959c2", func := "loop.example/g01374/laws.FnExactTwinMeets", spec := "fnExactTwinMeets", unfollowed := true, recurses := true, apart := false, narrowed := true }
def FnExactTwinMeetsUptoSaid : Prop := fnExactTwinMeetsUptoRow.holds Try.pinned (OpenSpec.upto fnExactTwinMeetsSpec)

/-- 'laws.FnExactNextPlace', WHERE WHAT IT READS IS OF BULK AT MOST 1048576: true; the input reads as it did. -/
def fnExactNextPlaceUptoRow : OpenClaim := { program := "ytojcdkiopdcdoaa", sum := "48bc6b6699de72014340794b2d573b2771c6711b9ea54a7d2431d7f70a2959c2", func := "loop.example/g01374/laws.FnExactNextPlace", spec := "fnExactNextPlace", unfollowed := true, recurses := true, apart := false, narrowed := true }
def FnExactNextPlaceUptoSaid : Prop := fnExactNextPlaceUptoRow.holds Try.pinned (OpenSpec.upto fnExactNextPlaceSpec)

end Rows
end Go.Proofs.Ytojcdkiopdcdoaa
