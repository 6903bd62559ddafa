/-
  No cell of these rows narrows 'for every input' (looked for: loops, veiled, ifaces, maps, wideKeys, modest, calm, conditions, laid).
  DERIVED. THE GIVEN ROWS OF THIS SEAT. 11 by the template 'for every input the law returns true; each argument reads behind the call as it read before'; 0 by the template 'total and deterministic' (their statements: YtkpkgpigndlakaaTotals.lean).
  GIVEN WITH THE SEED: the statements are not yours to turn. If you find one false, say at which input.
  Laid BY PROGRAM, IN A SANDBOX (cutbox-rows.mjs): the forced cells as the released guide's own fill.sh prints them over the translation d4fb4f2c0b50a426… (all of the seat's roots in one cut). By AI agents, Wed Nov 11 2026. No macro, syntax, notation, axiom, sorry.
-/
import Derived.Test.YtkpkgpigndlakaaChecked
import GoSem.Claim
import GoSem.ClaimJoined
import GoSem.ClaimMapViews
import Derived.JoinedTies
import Derived.KernelRfl
namespace Go.Proofs.Ytkpkgpigndlakaa
/- THE CELL 'sum', in the pinned program and in every row, IS THE sha256 OF THE DUMP (.gsa) THAT YtkpkgpigndlakaaProg.lean LOADS. Nothing in Lean hashes anything: it is a label: what it is worth is what the hold of that sum in a sandbox is worth. -/
noncomputable def Try.pinned : Pinned := { name := "ytkpkgpigndlakaa", sum := "d4fb4f2c0b50a4266d82828c8d386f6b02de88d54d30de901f94769a75f2533a", checked := Try.checked }
namespace Rows
def none {H : Type} : Left H := { results := [], args := [] }

/-- 'laws.FnExactStepsOfRoll': WHATEVER THE INPUT: true; the input reads as it did. -/
def fnExactStepsOfRollSpec : ChangeSpec := { name := "fnExactStepsOfRoll", fn := fun _ => fun
  | [d1, d2] => { results := [.lit (.bool true)], args := [d1, d2] }
  | _ => none }
def fnExactStepsOfRollRow : OpenClaim := { program := "ytkpkgpigndlakaa", sum := "d4fb4f2c0b50a4266d82828c8d386f6b02de88d54d30de901f94769a75f2533a", func := "loop.example/g01374/laws.FnExactStepsOfRoll", spec := "fnExactStepsOfRoll", apart := false }
def FnExactStepsOfRollSaid : Prop := fnExactStepsOfRollRow.holds Try.pinned (OpenSpec.ofChange fnExactStepsOfRollSpec)

/-- ITS FALSE NEIGHBOUR: 'it returns false'. Refute it at one input. -/
def fnExactStepsOfRollWrong : ChangeSpec := { name := "fnExactStepsOfRoll", fn := fun _ => fun
  | [d1, d2] => { results := [.lit (.bool false)], args := [d1, d2] }
  | _ => none }
def FnExactStepsOfRollWrongFalsely : Prop := fnExactStepsOfRollRow.holds Try.pinned (OpenSpec.ofChange fnExactStepsOfRollWrong)

/-- 'laws.FnExactWithPattern': WHATEVER THE INPUT: true; the input reads as it did. -/
def fnExactWithPatternSpec : ChangeSpec := { name := "fnExactWithPattern", fn := fun _ => fun
  | [d1, d2] => { results := [.lit (.bool true)], args := [d1, d2] }
  | _ => none }
def fnExactWithPatternRow : OpenClaim := { program := "ytkpkgpigndlakaa", sum := "d4fb4f2c0b50a4266d82828c8d386f6b02de88d54d30de901f94769a75f2533a", func := "loop.example/g01374/laws.FnExactWithPattern", spec := "fnExactWithPattern", apart := false }
def FnExactWithPatternSaid : Prop := fnExactWithPatternRow.holds Try.pinned (OpenSpec.ofChange fnExactWithPatternSpec)

/-- ITS FALSE NEIGHBOUR: 'it returns false'. Refute it at one input. -/
def fnExactWithPatternWrong : ChangeSpec := { name := "fnExactWithPattern", fn := fun _ => fun
  | [d1, d2] => { results := [.lit (.bool false)], args := [d1, d2] }
  | _ => none }
def FnExactWithPatternWrongFalsely : Prop := fnExactWithPatternRow.holds Try.pinned (OpenSpec.ofChange fnExactWithPatternWrong)

/-- 'laws.FnExactIsStriped': WHATEVER THE INPUT: true; the input reads as it did. -/
def fnExactIsStripedSpec : ChangeSpec := { name := "fnExactIsStriped", fn := fun _ => fun
  | [d] => { results := [.lit (.bool true)], args := [d] }
  | _ => none }
def fnExactIsStripedRow : OpenClaim := { program := "ytkpkgpigndlakaa", sum := "d4fb4f2c0b50a4266d82828c8d386f6b02de88d54d30de901f94769a75f2533a", func := "loop.example/g01374/laws.FnExactIsStriped", spec := "fnExactIsStriped", apart := false }
def FnExactIsStripedSaid : Prop := fnExactIsStripedRow.holds Try.pinned (OpenSpec.ofChange fnExactIsStripedSpec)

/-- ITS FALSE NEIGHBOUR: 'it returns false'. Refute it at one input. -/
def fnExactIsStripedWrong : ChangeSpec := { name := "fnExactIsStriped", fn := fun _ => fun
  | [d] => { results := [.lit (.bool false)], args := [d] }
  | _ => none }
def FnExactIsStripedWrongFalsely : Prop := fnExactIsStripedRow.holds Try.pinned (OpenSpec.ofChange fnExactIsStripedWrong)

/-- 'laws.FnExactPatternPeriod': WHATEVER THE INPUT: true; the input reads as it did. -/
def fnExactPatternPeriodSpec : ChangeSpec := { name := "fnExactPatternPeriod", fn := fun _ => fun
  | [d1, d2] => { results := [.lit (.bool true)], args := [d1, d2] }
  | _ => none }
def fnExactPatternPeriodRow : OpenClaim := { program := "ytkpkgpigndlakaa", sum := "d4fb4f2c0b50a4266d82828c8d386f6b02de88d54d30de901f94769a75f2533a", func := "loop.example/g01374/laws.FnExactPatternPeriod", spec := "fnExactPatternPeriod", apart := false }
def FnExactPatternPeriodSaid : Prop := fnExactPatternPeriodRow.holds Try.pinned (OpenSpec.ofChange fnExactPatternPeriodSpec)

/-- ITS FALSE NEIGHBOUR: 'it returns false'. Refute it at one input. -/
def fnExactPatternPeriodWrong : ChangeSpec := { name := "fnExactPatternPeriod", fn := fun _ => fun
  | [d1, d2] => { results := [.lit (.bool false)], args := [d1, d2] }
  | _ => none }
def FnExactPatternPeriodWrongFalsely : Prop := fnExactPatternPeriodRow.holds Try.pinned (OpenSpec.ofChange fnExactPatternPeriodWrong)

/-- 'laws.FnExactColourAt': WHATEVER THE INPUT: true; the input reads as it did. -/
def fnExactColourAtSpec : ChangeSpec := { name := "fnExactColourAt", fn := fun _ => fun
  | [d1, d2, d3] => { results := [.lit (.bool true)], args := [d1, d2, d3] }
  | _ => none }
def fnExactColourAtRow : OpenClaim := { program := "ytkpkgpigndlakaa", sum := "d4fb4f2c0b50a4266d82828c8d386f6b02de88d54d30de901f94769a75f2533a", func := "loop.example/g01374/laws.FnExactColourAt", spec := "fnExactColourAt", apart := false }
def FnExactColourAtSaid : Prop := fnExactColourAtRow.holds Try.pinned (OpenSpec.ofChange fnExactColourAtSpec)

/-- ITS FALSE NEIGHBOUR: 'it returns false'. Refute it at one input. -/
def fnExactColourAtWrong : ChangeSpec := { name := "fnExactColourAt", fn := fun _ => fun
  | [d1, d2, d3] => { results := [.lit (.bool false)], args := [d1, d2, d3] }
  | _ => none }
def FnExactColourAtWrongFalsely : Prop := fnExactColourAtRow.holds Try.pinned (OpenSpec.ofChange fnExactColourAtWrong)

/-- 'laws.FnExactAreJumps': WHATEVER THE INPUT: true; the input reads as it did. -/
def fnExactAreJumpsSpec : ChangeSpec := { name := "fnExactAreJumps", fn := fun _ => fun
  | [d] => { results := [.lit (.bool true)], args := [d] }
  | _ => none }
def fnExactAreJumpsRow : OpenClaim := { program := "ytkpkgpigndlakaa", sum := "d4fb4f2c0b50a4266d82828c8d386f6b02de88d54d30de901f94769a75f2533a", func := "loop.example/g01374/laws.FnExactAreJumps", spec := "fnExactAreJumps", unfollowed := true, recurses := true, apart := false }
def FnExactAreJumpsSaid : Prop := fnExactAreJumpsRow.holds Try.pinned (OpenSpec.ofChange fnExactAreJumpsSpec)

/-- ITS FALSE NEIGHBOUR: 'it returns false'. Refute it at one input. -/
def fnExactAreJumpsWrong : ChangeSpec := { name := "fnExactAreJumps", fn := fun _ => fun
  | [d] => { results := [.lit (.bool false)], args := [d] }
  | _ => none }
def FnExactAreJumpsWrongFalsely : Prop := fnExactAreJumpsRow.holds Try.pinned (OpenSpec.ofChange fnExactAreJumpsWrong)

/-- 'laws.FnExactAreRolls': WHATEVER THE INPUT: true; the input reads as it did. -/
def fnExactAreRollsSpec : ChangeSpec := { name := "fnExactAreRolls", fn := fun _ => fun
  | [d] => { results := [.lit (.bool true)], args := [d] }
  | _ => none }
def fnExactAreRollsRow : OpenClaim := { program := "ytkpkgpigndlakaa", sum := "d4fb4f2c0b50a4266d82828c8d386f6b02de88d54d30de901f94769a75f2533a", func := "loop.example/g01374/laws.FnExactAreRolls", spec := "fnExactAreRolls", unfollowed := true, recurses := true, apart := false }
def FnExactAreRollsSaid : Prop := fnExactAreRollsRow.holds Try.pinned (OpenSpec.ofChange fnExactAreRollsSpec)

/-- ITS FALSE NEIGHBOUR: 'it returns false'. Refute it at one input. -/
def fnExactAreRollsWrong : ChangeSpec := { name := "fnExactAreRolls", fn := fun _ => fun
  | [d] => { results := [.lit (.bool false)], args := [d] }
  | _ => none }
def FnExactAreRollsWrongFalsely : Prop := fnExactAreRollsRow.holds Try.pinned (OpenSpec.ofChange fnExactAreRollsWrong)

/-- 'laws.FnExactColoursOfStep': WHATEVER THE INPUT: true; the input reads as it did. -/
def fnExactColoursOfStepSpec : ChangeSpec := { name := "fnExactColoursOfStep", fn := fun _ => fun
  | [d1, d2, d3, d4] => { results := [.lit (.bool true)], args := [d1, d2, d3, d4] }
  | _ => none }
def fnExactColoursOfStepRow : OpenClaim := { program := "ytkpkgpigndlakaa", sum := "d4fb4f2c0b50a4266d82828c8d386f6b02de88d54d30de901f94769a75f2533a", func := "loop.example/g01374/laws.FnExactColoursOfStep", spec := "fnExactColoursOfStep", apart := false }
def FnExactColoursOfStepSaid : Prop := fnExactColoursOfStepRow.holds Try.pinned (OpenSpec.ofChange fnExactColoursOfStepSpec)

/-- ITS FALSE NEIGHBOUR: 'it returns false'. Refute it at one input. -/
def fnExactColoursOfStepWrong : ChangeSpec := { name := "fnExactColoursOfStep", fn := fun _ => fun
  | [d1, d2, d3, d4] => { results := [.lit (.bool false)], args := [d1, d2, d3, d4] }
  | _ => none }
def FnExactColoursOfStepWrongFalsely : Prop := fnExactColoursOfStepRow.holds Try.pinned (OpenSpec.ofChange fnExactColoursOfStepWrong)

/-- 'laws.FnExactPatternStarts': WHATEVER THE INPUT: true; the input reads as it did. -/
def fnExactPatternStartsSpec : ChangeSpec := { name := "fnExactPatternStarts", fn := fun _ => fun
  | [d1, d2, d3] => { results := [.lit (.bool true)], args := [d1, d2, d3] }
  | _ => none }
def fnExactPatternStartsRow : OpenClaim := { program := "ytkpkgpigndlakaa", sum := "d4fb4f2c0b50a4266d82828c8d386f6b02de88d54d30de901f94769a75f2533a", func := "loop.example/g01374/laws.FnExactPatternStarts", spec := "fnExactPatternStarts", apart := false }
def FnExactPatternStartsSaid : Prop := fnExactPatternStartsRow.holds Try.pinned (OpenSpec.ofChange fnExactPatternStartsSpec)

/-- ITS FALSE NEIGHBOUR: 'it returns false'. Refute it at one input. -/
def fnExactPatternStartsWrong : ChangeSpec := { name := "fnExactPatternStarts", fn := fun _ => fun
  | [d1, d2, d3] => { results := [.lit (.bool false)], args := [d1, d2, d3] }
  | _ => none }
def FnExactPatternStartsWrongFalsely : Prop := fnExactPatternStartsRow.holds Try.pinned (OpenSpec.ofChange fnExactPatternStartsWrong)

/-- 'laws.FnExactSideOf': WHATEVER THE INPUT: true; the input reads as it did. -/
def fnExactSideOfSpec : ChangeSpec := { name := "fnExactSideOf", fn := fun _ => fun
  | [d1, d2] => { results := [.lit (.bool true)], args := [d1, d2] }
  | _ => none }
def fnExactSideOfRow : OpenClaim := { program := "ytkpkgpigndlakaa", sum := "d4fb4f2c0b50a4266d82828c8d386f6b02de88d54d30de901f94769a75f2533a", func := "loop.example/g01374/laws.FnExactSideOf", spec := "fnExactSideOf", apart := false }
def FnExactSideOfSaid : Prop := fnExactSideOfRow.holds Try.pinned (OpenSpec.ofChange fnExactSideOfSpec)

/-- ITS FALSE NEIGHBOUR: 'it returns false'. Refute it at one input. -/
def fnExactSideOfWrong : ChangeSpec := { name := "fnExactSideOf", fn := fun _ => fun
  | [d1, d2] => { results := [.lit (.bool false)], args := [d1, d2] }
  | _ => none }
def FnExactSideOfWrongFalsely : Prop := fnExactSideOfRow.holds Try.pinned (OpenSpec.ofChange fnExactSideOfWrong)

/-- 'laws.FnExactAngleOf': WHATEVER THE INPUT: true; the input reads as it did. -/
def fnExactAngleOfSpec : ChangeSpec := { name := "fnExactAngleOf", fn := fun _ => fun
  | [d1, d2] => { results := [.lit (.bool true)], args := [d1, d2] }
  | _ => none }
def fnExactAngleOfRow : OpenClaim := { program := "ytkpkgpigndlakaa", sum := "d4fb4f2c0b50a4266d82828c8d386f6b02de88d54d30de901f94769a75f2533a", func := "loop.example/g01374/laws.FnExactAngleOf", spec := "fnExactAngleOf", apart := false }
def FnExactAngleOfSaid : Prop := fnExactAngleOfRow.holds Try.pinned (OpenSpec.ofChange fnExactAngleOfSpec)

/-- ITS FALSE NEIGHBOUR: 'it returns false'. Refute it at one input. -/
def fnExactAngleOfWrong : ChangeSpec := { name := "fnExactAngleOf", fn := fun _ => fun
  | [d1, d2] => { results := [.lit (.bool false)], args := [d1, d2] }
  | _ => none }
def FnExactAngleOfWrongFalsely : Prop := fnExactAngleOfRow.holds Try.pinned (OpenSpec.ofChange fnExactAngleOfWrong)

/- THE SECOND FORM. 'bulk': how many values and letters a reading holds, each counted each time it is reached (what is shared counts as often as it is met; a slice's spare places count too). A statement '..UptoSaid' is the law's where the arguments, and the package variables that the reading takes, are together of bulk at most 1048576: NARROWER than '..Said'. Prove '..Said' where nothing that the law and all that it calls make is longer than what came in: it says more and counts as full. Else prove '..UptoSaid'. A law counts once. -/
mutual
def uptoBulk {H : Type} : DataW H → Nat
  | .lit (.string bytes) => bytes.length + 1
  | .lit _ => 1
  | .nil => 1
  | .ptr d => uptoBulk d + 1
  | .slice elems spare => uptoBulkAll elems + uptoBulkAll spare + 1
  | .agg parts => uptoBulkAll parts + 1
  | .iface _ d => uptoBulk d + 1
  | .map entries => uptoBulkEntries entries + 1
  | .held _ => 1
def uptoBulkAll {H : Type} : List (DataW H) → Nat
  | [] => 0
  | d :: r => uptoBulk d + uptoBulkAll r
def uptoBulkEntries {H : Type} : List (Lit × DataW H) → Nat
  | [] => 0
  | x :: r => uptoBulkEntry x + uptoBulkEntries r
def uptoBulkEntry {H : Type} : Lit × DataW H → Nat
  | (.string bytes, d) => bytes.length + uptoBulk d + 1
  | (_, d) => uptoBulk d + 1
 end
def uptoSmall : (H : Type) → List (DataW H) → Bool := fun _ ds => decide (uptoBulkAll ds ≤ 1048576)
def OpenSpec.upto (s : _root_.Go.ChangeSpec) : _root_.Go.OpenSpec := { _root_.Go.OpenSpec.ofChange s with cond := some uptoSmall }

/-- 'laws.FnExactStepsOfRoll', WHERE WHAT IT READS IS OF BULK AT MOST 1048576: true; the input reads as it did. -/
def fnExactStepsOfRollUptoRow : OpenClaim := { program := "ytkpkgpigndlakaa", sum := "d4fb4f2c0b50a4266d82828c8d386f6b02de88d54d30de901f94769a75f2533a", func := "loop.example/g01374/laws.FnExactStepsOfRoll", spec := "fnExactStepsOfRoll", apart := false, narrowed := true }
def FnExactStepsOfRollUptoSaid : Prop := fnExactStepsOfRollUptoRow.holds Try.pinned (OpenSpec.upto fnExactStepsOfRollSpec)

/-- 'laws.FnExactWithPattern', WHERE WHAT IT READS IS OF BULK AT MOST 1048576: true; the input reads as it did. -/
def fnExactWithPatternUptoRow : OpenClaim := { program := "ytkpkgpigndlakaa", sum := "d4fb4f2c0b50a4266d82828c8d386f6b02de88d54d30de901f94769a75f2533a", func := "loop.example/g01374/laws.FnExactWithPattern", spec := "fnExactWithPattern", apart := false, narrowed := true }
def FnExactWithPatternUptoSaid : Prop := fnExactWithPatternUptoRow.holds Try.pinned (OpenSpec.upto fnExactWithPatternSpec)

/-- 'laws.FnExactIsStriped', WHERE WHAT IT READS IS OF BULK AT MOST 1048576: true; the input reads as it did. -/
def fnExactIsStripedUptoRow : OpenClaim := { program := "ytkpkgpigndlakaa", sum := "d4fb4f2c0b50a4266d82828c8d386f6b02de88d54d30de901f94769a75f2533a", func := "loop.example/g01374/laws.FnExactIsStriped", spec := "fnExactIsStriped", apart := false, narrowed := true }
def FnExactIsStripedUptoSaid : Prop := fnExactIsStripedUptoRow.holds Try.pinned (OpenSpec.upto fnExactIsStripedSpec)

/-- 'laws.FnExactPatternPeriod', WHERE WHAT IT READS IS OF BULK AT MOST 1048576: true; the input reads as it did. -/
def fnExactPatternPeriodUptoRow : OpenClaim := { program := "ytkpkgpigndlakaa", sum := "d4fb4f2c0b50a4266d82828c8d386f6b02de88d54d30de901f94769a75f2533a", func := "loop.example/g01374/laws.FnExactPatternPeriod", spec := "fnExactPatternPeriod", apart := false, narrowed := true }
def FnExactPatternPeriodUptoSaid : Prop := fnExactPatternPeriodUptoRow.holds Try.pinned (OpenSpec.upto fnExactPatternPeriodSpec)

/-- 'laws.FnExactColourAt', WHERE WHAT IT READS IS OF BULK AT MOST 1048576: true; the input reads as it did. -/
def fnExactColourAtUptoRow : OpenClaim := { program := "ytkpkgpigndlakaa", sum := "d4fb4f2c0b50a4266d82828c8d386f6b02de88d54d30de901f94769a75f2533a", func := "loop.example/g01374/laws.FnExactColourAt", spec := "fnExactColourAt", apart := false, narrowed := true }
def FnExactColourAtUptoSaid : Prop := fnExactColourAtUptoRow.holds Try.pinned (OpenSpec.upto fnExactColourAtSpec)

/-- 'laws.FnExactAreJumps', WHERE WHAT IT READS IS OF BULK AT MOST 1048576: true; the input reads as it did. -/
def fnExactAreJumpsUptoRow : OpenClaim := { program := "ytkpkgpigndlakaa", sum := "d4fb4f2c0b50a4266d82828c8d386f6b02de88d54d30de901f94769a75f2533a", func := "loop.example/g01374/laws.FnExactAreJumps", spec := "fnExactAreJumps", unfollowed := true, recurses := true, apart := false, narrowed := true }
def FnExactAreJumpsUptoSaid : Prop := fnExactAreJumpsUptoRow.holds Try.pinned (OpenSpec.upto fnExactAreJumpsSpec)

/-- 'laws.FnExactAreRolls', WHERE WHAT IT READS IS OF BULK AT MOST 1048576: true; the input reads as it did. -/
def fnExactAreRollsUptoRow : OpenClaim := { program := "ytkpkgpigndlakaa", sum := "d4fb4f2c0b50a4266d82828c8d386f6b02de88d54d30de901f94769a75f2533a", func := "loop.example/g01374/laws.FnExactAreRolls", spec := "fnExactAreRolls", unfollowed := true, recurses := true, apart := false, narrowed := true }
def FnExactAreRollsUptoSaid : Prop := fnExactAreRollsUptoRow.holds Try.pinned (OpenSpec.upto fnExactAreRollsSpec)

/-- 'laws.FnExactColoursOfStep', WHERE WHAT IT READS IS OF BULK AT MOST 1048576: true; the input reads as it did. -/
def fnExactColoursOfStepUptoRow : OpenClaim := { program := "ytkpkgpigndlakaa", sum := "d4fb4f2c0b50a4266d82828c8d386f6b02de88d54d30de901f94769a75f2533a", func := "loop.example/g01374/laws.FnExactColoursOfStep", spec := "fnExactColoursOfStep", apart := false, narrowed := true }
def FnExactColoursOfStepUptoSaid : Prop := fnExactColoursOfStepUptoRow.holds Try.pinned (OpenSpec.upto fnExactColoursOfStepSpec)

/-- 'laws.FnExactPatternStarts', WHERE WHAT IT READS IS OF BULK AT MOST 1048576: true; the input reads as it did. -/
def fnExactPatternStartsUptoRow : OpenClaim := { program := "ytkpkgpigndlakaa", sum := "d4fb4f2c0b50a4266d82828c8d386f6b02de88d54d30de901f94769a75f2533a", func := "loop.example/g01374/laws.FnExactPatternStarts", spec := "fnExactPatternStarts", apart := false, narrowed := true }
def FnExactPatternStartsUptoSaid : Prop := fnExactPatternStartsUptoRow.holds Try.pinned (OpenSpec.upto fnExactPatternStartsSpec)

/-- 'laws.FnExactSideOf', WHERE WHAT IT READS IS OF BULK AT MOST 1048576: true; the input reads as it did. -/
def fnExactSideOfUptoRow : OpenClaim := { program := "ytkpkgpigndlakaa", sum := "d4fb4f2c0b50a4266d82828c8d386f6b02de88d54d30de901f94769a75f2533a", func := "loop.example/g01374/laws.FnExactSideOf", spec := "fnExactSideOf", apart := false, narrowed := true }
def FnExactSideOfUptoSaid : Prop := fnExactSideOfUptoRow.holds Try.pinned (OpenSpec.upto fnExactSideOfSpec)

/-- 'laws.FnExactAngleOf', WHERE WHAT IT READS IS OF BULK AT MOST 1048576: true; the input reads as it did. -/
def fnExactAngleOfUptoRow : OpenClaim := { program := "ytkpkgpigndlakaa", sum := "d4fb4f2c0b50a4266d82828c8d386f6b02de88d54d30de901f94769a75f2533a", func := "loop.example/g01374/laws.FnExactAngleOf", spec := "fnExactAngleOf", apart := false, narrowed := true }
def FnExactAngleOfUptoSaid : Prop := fnExactAngleOfUptoRow.holds Try.pinned (OpenSpec.upto fnExactAngleOfSpec)

end Rows
end Go.Proofs.Ytkpkgpigndlakaa
