/-
  No cell of these rows narrows 'for every input' (looked for: loops, veiled, ifaces, maps, wideKeys, modest, calm, conditions, laid).
  DERIVED. THE GIVEN ROWS OF THIS SEAT. 12 by the template 'for every input the law returns true; each argument reads behind the call as it read before'; 0 by the template 'total and deterministic' (their statements: YtlajnkdokmbpeaaTotals.lean).
  GIVEN WITH THE SEED: the statements are not yours to turn. If you find one false, say at which input.
  Laid BY PROGRAM, IN A SANDBOX (cutbox-rows.mjs): the forced cells as the released guide's own fill.sh prints them over the translation 1a1a2312bf021eeb… (all of the seat's roots in one cut). By AI agents, Wed Nov 11 2026. No macro, syntax, notation, axiom, sorry.
-/
import Derived.Test.YtlajnkdokmbpeaaChecked
import GoSem.Claim
import GoSem.ClaimJoined
import GoSem.ClaimMapViews
import Derived.JoinedTies
import Derived.KernelRfl
namespace Go.Proofs.Ytlajnkdokmbpeaa
/- THE CELL 'sum', in the pinned program and in every row, IS THE sha256 OF THE DUMP (.gsa) THAT YtlajnkdokmbpeaaProg.lean LOADS. Nothing in Lean hashes anything: it is a label: what it is worth is what the hold of that sum in a sandbox is worth. -/
noncomputable def Try.pinned : Pinned := { name := "ytlajnkdokmbpeaa", sum := "1a1a2312bf021eeb7f694f94c78287ca43f897646ea91bf35503bacb8da39c2a", checked := Try.checked }
namespace Rows
def none {H : Type} : Left H := { results := [], args := [] }

/-- 'laws.FnExactLongestToEnd': WHATEVER THE INPUT: true; the input reads as it did. -/
def fnExactLongestToEndSpec : ChangeSpec := { name := "fnExactLongestToEnd", fn := fun _ => fun
  | [d] => { results := [.lit (.bool true)], args := [d] }
  | _ => none }
def fnExactLongestToEndRow : OpenClaim := { program := "ytlajnkdokmbpeaa", sum := "1a1a2312bf021eeb7f694f94c78287ca43f897646ea91bf35503bacb8da39c2a", func := "loop.example/g01374/laws.FnExactLongestToEnd", spec := "fnExactLongestToEnd", unfollowed := true, recurses := true, apart := false }
def FnExactLongestToEndSaid : Prop := fnExactLongestToEndRow.holds Try.pinned (OpenSpec.ofChange fnExactLongestToEndSpec)

/-- ITS FALSE NEIGHBOUR: 'it returns false'. Refute it at one input. -/
def fnExactLongestToEndWrong : ChangeSpec := { name := "fnExactLongestToEnd", fn := fun _ => fun
  | [d] => { results := [.lit (.bool false)], args := [d] }
  | _ => none }
def FnExactLongestToEndWrongFalsely : Prop := fnExactLongestToEndRow.holds Try.pinned (OpenSpec.ofChange fnExactLongestToEndWrong)

/-- 'laws.FnExactEndOfBall': WHATEVER THE INPUT: true; the input reads as it did. -/
def fnExactEndOfBallSpec : ChangeSpec := { name := "fnExactEndOfBall", fn := fun _ => fun
  | [d1, d2] => { results := [.lit (.bool true)], args := [d1, d2] }
  | _ => none }
def fnExactEndOfBallRow : OpenClaim := { program := "ytlajnkdokmbpeaa", sum := "1a1a2312bf021eeb7f694f94c78287ca43f897646ea91bf35503bacb8da39c2a", func := "loop.example/g01374/laws.FnExactEndOfBall", spec := "fnExactEndOfBall", unfollowed := true, recurses := true, apart := false }
def FnExactEndOfBallSaid : Prop := fnExactEndOfBallRow.holds Try.pinned (OpenSpec.ofChange fnExactEndOfBallSpec)

/-- ITS FALSE NEIGHBOUR: 'it returns false'. Refute it at one input. -/
def fnExactEndOfBallWrong : ChangeSpec := { name := "fnExactEndOfBall", fn := fun _ => fun
  | [d1, d2] => { results := [.lit (.bool false)], args := [d1, d2] }
  | _ => none }
def FnExactEndOfBallWrongFalsely : Prop := fnExactEndOfBallRow.holds Try.pinned (OpenSpec.ofChange fnExactEndOfBallWrong)

/-- 'laws.FnExactPlaceAfter': WHATEVER THE INPUT: true; the input reads as it did. -/
def fnExactPlaceAfterSpec : ChangeSpec := { name := "fnExactPlaceAfter", fn := fun _ => fun
  | [d1, d2, d3] => { results := [.lit (.bool true)], args := [d1, d2, d3] }
  | _ => none }
def fnExactPlaceAfterRow : OpenClaim := { program := "ytlajnkdokmbpeaa", sum := "1a1a2312bf021eeb7f694f94c78287ca43f897646ea91bf35503bacb8da39c2a", func := "loop.example/g01374/laws.FnExactPlaceAfter", spec := "fnExactPlaceAfter", unfollowed := true, recurses := true, apart := false }
def FnExactPlaceAfterSaid : Prop := fnExactPlaceAfterRow.holds Try.pinned (OpenSpec.ofChange fnExactPlaceAfterSpec)

/-- ITS FALSE NEIGHBOUR: 'it returns false'. Refute it at one input. -/
def fnExactPlaceAfterWrong : ChangeSpec := { name := "fnExactPlaceAfter", fn := fun _ => fun
  | [d1, d2, d3] => { results := [.lit (.bool false)], args := [d1, d2, d3] }
  | _ => none }
def FnExactPlaceAfterWrongFalsely : Prop := fnExactPlaceAfterRow.holds Try.pinned (OpenSpec.ofChange fnExactPlaceAfterWrong)

/-- 'laws.FnExactCountByEnd': WHATEVER THE INPUT: true; the input reads as it did. -/
def fnExactCountByEndSpec : ChangeSpec := { name := "fnExactCountByEnd", fn := fun _ => fun
  | [d] => { results := [.lit (.bool true)], args := [d] }
  | _ => none }
def fnExactCountByEndRow : OpenClaim := { program := "ytlajnkdokmbpeaa", sum := "1a1a2312bf021eeb7f694f94c78287ca43f897646ea91bf35503bacb8da39c2a", func := "loop.example/g01374/laws.FnExactCountByEnd", spec := "fnExactCountByEnd", unfollowed := true, recurses := true, apart := false }
def FnExactCountByEndSaid : Prop := fnExactCountByEndRow.holds Try.pinned (OpenSpec.ofChange fnExactCountByEndSpec)

/-- ITS FALSE NEIGHBOUR: 'it returns false'. Refute it at one input. -/
def fnExactCountByEndWrong : ChangeSpec := { name := "fnExactCountByEnd", fn := fun _ => fun
  | [d] => { results := [.lit (.bool false)], args := [d] }
  | _ => none }
def FnExactCountByEndWrongFalsely : Prop := fnExactCountByEndRow.holds Try.pinned (OpenSpec.ofChange fnExactCountByEndWrong)

/-- 'laws.FnExactTimeToLoop': WHATEVER THE INPUT: true; the input reads as it did. -/
def fnExactTimeToLoopSpec : ChangeSpec := { name := "fnExactTimeToLoop", fn := fun _ => fun
  | [d1, d2] => { results := [.lit (.bool true)], args := [d1, d2] }
  | _ => none }
def fnExactTimeToLoopRow : OpenClaim := { program := "ytlajnkdokmbpeaa", sum := "1a1a2312bf021eeb7f694f94c78287ca43f897646ea91bf35503bacb8da39c2a", func := "loop.example/g01374/laws.FnExactTimeToLoop", spec := "fnExactTimeToLoop", unfollowed := true, recurses := true, apart := false }
def FnExactTimeToLoopSaid : Prop := fnExactTimeToLoopRow.holds Try.pinned (OpenSpec.ofChange fnExactTimeToLoopSpec)

/-- ITS FALSE NEIGHBOUR: 'it returns false'. Refute it at one input. -/
def fnExactTimeToLoopWrong : ChangeSpec := { name := "fnExactTimeToLoop", fn := fun _ => fun
  | [d1, d2] => { results := [.lit (.bool false)], args := [d1, d2] }
  | _ => none }
def FnExactTimeToLoopWrongFalsely : Prop := fnExactTimeToLoopRow.holds Try.pinned (OpenSpec.ofChange fnExactTimeToLoopWrong)

/-- 'laws.FnExactStepsByEnd': WHATEVER THE INPUT: true; the input reads as it did. -/
def fnExactStepsByEndSpec : ChangeSpec := { name := "fnExactStepsByEnd", fn := fun _ => fun
  | [d1, d2] => { results := [.lit (.bool true)], args := [d1, d2] }
  | _ => none }
def fnExactStepsByEndRow : OpenClaim := { program := "ytlajnkdokmbpeaa", sum := "1a1a2312bf021eeb7f694f94c78287ca43f897646ea91bf35503bacb8da39c2a", func := "loop.example/g01374/laws.FnExactStepsByEnd", spec := "fnExactStepsByEnd", unfollowed := true, recurses := true, apart := false }
def FnExactStepsByEndSaid : Prop := fnExactStepsByEndRow.holds Try.pinned (OpenSpec.ofChange fnExactStepsByEndSpec)

/-- ITS FALSE NEIGHBOUR: 'it returns false'. Refute it at one input. -/
def fnExactStepsByEndWrong : ChangeSpec := { name := "fnExactStepsByEnd", fn := fun _ => fun
  | [d1, d2] => { results := [.lit (.bool false)], args := [d1, d2] }
  | _ => none }
def FnExactStepsByEndWrongFalsely : Prop := fnExactStepsByEndRow.holds Try.pinned (OpenSpec.ofChange fnExactStepsByEndWrong)

/-- 'laws.FnExactFewestChanges': WHATEVER THE INPUT: true; the input reads as it did. -/
def fnExactFewestChangesSpec : ChangeSpec := { name := "fnExactFewestChanges", fn := fun _ => fun
  | [d1, d2] => { results := [.lit (.bool true)], args := [d1, d2] }
  | _ => none }
def fnExactFewestChangesRow : OpenClaim := { program := "ytlajnkdokmbpeaa", sum := "1a1a2312bf021eeb7f694f94c78287ca43f897646ea91bf35503bacb8da39c2a", func := "loop.example/g01374/laws.FnExactFewestChanges", spec := "fnExactFewestChanges", unfollowed := true, recurses := true, apart := false }
def FnExactFewestChangesSaid : Prop := fnExactFewestChangesRow.holds Try.pinned (OpenSpec.ofChange fnExactFewestChangesSpec)

/-- ITS FALSE NEIGHBOUR: 'it returns false'. Refute it at one input. -/
def fnExactFewestChangesWrong : ChangeSpec := { name := "fnExactFewestChanges", fn := fun _ => fun
  | [d1, d2] => { results := [.lit (.bool false)], args := [d1, d2] }
  | _ => none }
def FnExactFewestChangesWrongFalsely : Prop := fnExactFewestChangesRow.holds Try.pinned (OpenSpec.ofChange fnExactFewestChangesWrong)

/-- 'laws.FnExactReachedSteps': WHATEVER THE INPUT: true; the input reads as it did. -/
def fnExactReachedStepsSpec : ChangeSpec := { name := "fnExactReachedSteps", fn := fun _ => fun
  | [d] => { results := [.lit (.bool true)], args := [d] }
  | _ => none }
def fnExactReachedStepsRow : OpenClaim := { program := "ytlajnkdokmbpeaa", sum := "1a1a2312bf021eeb7f694f94c78287ca43f897646ea91bf35503bacb8da39c2a", func := "loop.example/g01374/laws.FnExactReachedSteps", spec := "fnExactReachedSteps", unfollowed := true, recurses := true, apart := false }
def FnExactReachedStepsSaid : Prop := fnExactReachedStepsRow.holds Try.pinned (OpenSpec.ofChange fnExactReachedStepsSpec)

/-- ITS FALSE NEIGHBOUR: 'it returns false'. Refute it at one input. -/
def fnExactReachedStepsWrong : ChangeSpec := { name := "fnExactReachedSteps", fn := fun _ => fun
  | [d] => { results := [.lit (.bool false)], args := [d] }
  | _ => none }
def FnExactReachedStepsWrongFalsely : Prop := fnExactReachedStepsRow.holds Try.pinned (OpenSpec.ofChange fnExactReachedStepsWrong)

/-- 'laws.FnExactStepsAtSide': WHATEVER THE INPUT: true; the input reads as it did. -/
def fnExactStepsAtSideSpec : ChangeSpec := { name := "fnExactStepsAtSide", fn := fun _ => fun
  | [d1, d2] => { results := [.lit (.bool true)], args := [d1, d2] }
  | _ => none }
def fnExactStepsAtSideRow : OpenClaim := { program := "ytlajnkdokmbpeaa", sum := "1a1a2312bf021eeb7f694f94c78287ca43f897646ea91bf35503bacb8da39c2a", func := "loop.example/g01374/laws.FnExactStepsAtSide", spec := "fnExactStepsAtSide", inPlace := ["internal/bytealg.IndexByteString", "internal/bytealg.IndexString"], unfollowed := true, recurses := true, named := ["internal/bytealg.MaxLen"], apart := false }
def FnExactStepsAtSideSaid : Prop := fnExactStepsAtSideRow.holds Try.pinned (OpenSpec.ofChange fnExactStepsAtSideSpec)

/-- ITS FALSE NEIGHBOUR: 'it returns false'. Refute it at one input. -/
def fnExactStepsAtSideWrong : ChangeSpec := { name := "fnExactStepsAtSide", fn := fun _ => fun
  | [d1, d2] => { results := [.lit (.bool false)], args := [d1, d2] }
  | _ => none }
def FnExactStepsAtSideWrongFalsely : Prop := fnExactStepsAtSideRow.holds Try.pinned (OpenSpec.ofChange fnExactStepsAtSideWrong)

/-- 'laws.FnExactStuckSteps': WHATEVER THE INPUT: true; the input reads as it did. -/
def fnExactStuckStepsSpec : ChangeSpec := { name := "fnExactStuckSteps", fn := fun _ => fun
  | [d] => { results := [.lit (.bool true)], args := [d] }
  | _ => none }
def fnExactStuckStepsRow : OpenClaim := { program := "ytlajnkdokmbpeaa", sum := "1a1a2312bf021eeb7f694f94c78287ca43f897646ea91bf35503bacb8da39c2a", func := "loop.example/g01374/laws.FnExactStuckSteps", spec := "fnExactStuckSteps", unfollowed := true, recurses := true, apart := false }
def FnExactStuckStepsSaid : Prop := fnExactStuckStepsRow.holds Try.pinned (OpenSpec.ofChange fnExactStuckStepsSpec)

/-- ITS FALSE NEIGHBOUR: 'it returns false'. Refute it at one input. -/
def fnExactStuckStepsWrong : ChangeSpec := { name := "fnExactStuckSteps", fn := fun _ => fun
  | [d] => { results := [.lit (.bool false)], args := [d] }
  | _ => none }
def FnExactStuckStepsWrongFalsely : Prop := fnExactStuckStepsRow.holds Try.pinned (OpenSpec.ofChange fnExactStuckStepsWrong)

/-- 'laws.FnExactNeededSteps': WHATEVER THE INPUT: true; the input reads as it did. -/
def fnExactNeededStepsSpec : ChangeSpec := { name := "fnExactNeededSteps", fn := fun _ => fun
  | [d] => { results := [.lit (.bool true)], args := [d] }
  | _ => none }
def fnExactNeededStepsRow : OpenClaim := { program := "ytlajnkdokmbpeaa", sum := "1a1a2312bf021eeb7f694f94c78287ca43f897646ea91bf35503bacb8da39c2a", func := "loop.example/g01374/laws.FnExactNeededSteps", spec := "fnExactNeededSteps", unfollowed := true, recurses := true, apart := false }
def FnExactNeededStepsSaid : Prop := fnExactNeededStepsRow.holds Try.pinned (OpenSpec.ofChange fnExactNeededStepsSpec)

/-- ITS FALSE NEIGHBOUR: 'it returns false'. Refute it at one input. -/
def fnExactNeededStepsWrong : ChangeSpec := { name := "fnExactNeededSteps", fn := fun _ => fun
  | [d] => { results := [.lit (.bool false)], args := [d] }
  | _ => none }
def FnExactNeededStepsWrongFalsely : Prop := fnExactNeededStepsRow.holds Try.pinned (OpenSpec.ofChange fnExactNeededStepsWrong)

/-- 'laws.FnExactLoopOfBall': WHATEVER THE INPUT: true; the input reads as it did. -/
def fnExactLoopOfBallSpec : ChangeSpec := { name := "fnExactLoopOfBall", fn := fun _ => fun
  | [d1, d2] => { results := [.lit (.bool true)], args := [d1, d2] }
  | _ => none }
def fnExactLoopOfBallRow : OpenClaim := { program := "ytlajnkdokmbpeaa", sum := "1a1a2312bf021eeb7f694f94c78287ca43f897646ea91bf35503bacb8da39c2a", func := "loop.example/g01374/laws.FnExactLoopOfBall", spec := "fnExactLoopOfBall", unfollowed := true, recurses := true, apart := false }
def FnExactLoopOfBallSaid : Prop := fnExactLoopOfBallRow.holds Try.pinned (OpenSpec.ofChange fnExactLoopOfBallSpec)

/-- ITS FALSE NEIGHBOUR: 'it returns false'. Refute it at one input. -/
def fnExactLoopOfBallWrong : ChangeSpec := { name := "fnExactLoopOfBall", fn := fun _ => fun
  | [d1, d2] => { results := [.lit (.bool false)], args := [d1, d2] }
  | _ => none }
def FnExactLoopOfBallWrongFalsely : Prop := fnExactLoopOfBallRow.holds Try.pinned (OpenSpec.ofChange fnExactLoopOfBallWrong)

/- THE SECOND FORM. 'bulk': how many values and letters a reading holds, each counted each time it is reached (what is shared counts as often as it is met; a slice's spare places count too). A statement '..UptoSaid' is the law's where the arguments, and the package variables that the reading takes, are together of bulk at most 1048576: NARROWER than '..Said'. Prove '..Said' where nothing that the law and all that it calls make is longer than what came in: it says more and counts as full. Else prove '..UptoSaid'. A law counts once. -/
mutual
def uptoBulk {H : Type} : DataW H → Nat
  | .lit (.string bytes) => bytes.length + 1
  | .lit _ => 1
  | .nil => 1
  | .ptr d => uptoBulk d + 1
  | .slice elems spare => uptoBulkAll elems + uptoBulkAll spare + 1
  | .agg parts => uptoBulkAll parts + 1
  | .iface _ d => uptoBulk d + 1
  | .map entries => uptoBulkEntries entries + 1
  | .held _ => 1
def uptoBulkAll {H : Type} : List (DataW H) → Nat
  | [] => 0
  | d :: r => uptoBulk d + uptoBulkAll r
def uptoBulkEntries {H : Type} : List (Lit × DataW H) → Nat
  | [] => 0
  | x :: r => uptoBulkEntry x + uptoBulkEntries r
def uptoBulkEntry {H : Type} : Lit × DataW H → Nat
  | (.string bytes, d) => bytes.length + uptoBulk d + 1
  | (_, d) => uptoBulk d + 1
 end
def uptoSmall : (H : Type) → List (DataW H) → Bool := fun _ ds => decide (uptoBulkAll ds ≤ 1048576)
def OpenSpec.upto (s : _root_.Go.ChangeSpec) : _root_.Go.OpenSpec := { _root_.Go.OpenSpec.ofChange s with cond := some uptoSmall }

/-- 'laws.FnExactLongestToEnd', WHERE WHAT IT READS IS OF BULK AT MOST 1048576: true; the input reads as it did. -/
def fnExactLongestToEndUptoRow : OpenClaim := { program := "ytlajnkdokmbpeaa", sum := "1a1a2312bf021eeb7f694f94c78287ca43f897646ea91bf35503bacb8da39c2a", func := "loop.example/g01374/laws.FnExactLongestToEnd", spec := "fnExactLongestToEnd", unfollowed := true, recurses := true, apart := false, narrowed := true }
def FnExactLongestToEndUptoSaid : Prop := fnExactLongestToEndUptoRow.holds Try.pinned (OpenSpec.upto fnExactLongestToEndSpec)

/-- 'laws.FnExactEndOfBall', WHERE WHAT IT READS IS OF BULK AT MOST 1048576: true; the input reads as it did. -/
def fnExactEndOfBallUptoRow : OpenClaim := { program := "ytlajnkdokmbpeaa", sum := "1a1a2312bf021eeb7f694f94c78287ca43f897646ea91bf35503bacb8da39c2a", func := "loop.example/g01374/laws.FnExactEndOfBall", spec := "fnExactEndOfBall", unfollowed := true, recurses := true, apart := false, narrowed := true }
def FnExactEndOfBallUptoSaid : Prop := fnExactEndOfBallUptoRow.holds Try.pinned (OpenSpec.upto fnExactEndOfBallSpec)

/-- 'laws.FnExactPlaceAfter', WHERE WHAT IT READS IS OF BULK AT MOST 1048576: true; the input reads as it did. -/
def fnExactPlaceAfterUptoRow : OpenClaim := { program := "ytlajnkdokmbpeaa", sum := "1a1a2312bf021eeb7f694f94c78287ca43f897646ea91bf35503bacb8da39c2a", func := "loop.example/g01374/laws.FnExactPlaceAfter", spec := "fnExactPlaceAfter", unfollowed := true, recurses := true, apart := false, narrowed := true }
def FnExactPlaceAfterUptoSaid : Prop := fnExactPlaceAfterUptoRow.holds Try.pinned (OpenSpec.upto fnExactPlaceAfterSpec)

/-- 'laws.FnExactCountByEnd', WHERE WHAT IT READS IS OF BULK AT MOST 1048576: true; the input reads as it did. -/
def fnExactCountByEndUptoRow : OpenClaim := { program := "ytlajnkdokmbpeaa", sum := "1a1a2312bf021eeb7f694f94c78287ca43f897646ea91bf35503bacb8da39c2a", func := "loop.example/g01374/laws.FnExactCountByEnd", spec := "fnExactCountByEnd", unfollowed := true, recurses := true, apart := false, narrowed := true }
def FnExactCountByEndUptoSaid : Prop := fnExactCountByEndUptoRow.holds Try.pinned (OpenSpec.upto fnExactCountByEndSpec)

/-- 'laws.FnExactTimeToLoop', WHERE WHAT IT READS IS OF BULK AT MOST 1048576: true; the input reads as it did. -/
def fnExactTimeToLoopUptoRow : OpenClaim := { program := "ytlajnkdokmbpeaa", sum := "1a1a2312bf021eeb7f694f94c78287ca43f897646ea91bf35503bacb8da39c2a", func := "loop.example/g01374/laws.FnExactTimeToLoop", spec := "fnExactTimeToLoop", unfollowed := true, recurses := true, apart := false, narrowed := true }
def FnExactTimeToLoopUptoSaid : Prop := fnExactTimeToLoopUptoRow.holds Try.pinned (OpenSpec.upto fnExactTimeToLoopSpec)

/-- 'laws.FnExactStepsByEnd', WHERE WHAT IT READS IS OF BULK AT MOST 1048576: true; the input reads as it did. -/
def fnExactStepsByEndUptoRow : OpenClaim := { program := "ytlajnkdokmbpeaa", sum := "1a1a2312bf021eeb7f694f94c78287ca43f897646ea91bf35503bacb8da39c2a", func := "loop.example/g01374/laws.FnExactStepsByEnd", spec := "fnExactStepsByEnd", unfollowed := true, recurses := true, apart := false, narrowed := true }
def FnExactStepsByEndUptoSaid : Prop := fnExactStepsByEndUptoRow.holds Try.pinned (OpenSpec.upto fnExactStepsByEndSpec)

/-- 'laws.FnExactFewestChanges', WHERE WHAT IT READS IS OF BULK AT MOST 1048576: true; the input reads as it did. -/
def fnExactFewestChangesUptoRow : OpenClaim := { program := "ytlajnkdokmbpeaa", sum := "1a1a2312bf021eeb7f694f94c78287ca43f897646ea91bf35503bacb8da39c2a", func := "loop.example/g01374/laws.FnExactFewestChanges", spec := "fnExactFewestChanges", unfollowed := true, recurses := true, apart := false, narrowed := true }
def FnExactFewestChangesUptoSaid : Prop := fnExactFewestChangesUptoRow.holds Try.pinned (OpenSpec.upto fnExactFewestChangesSpec)

/-- 'laws.FnExactReachedSteps', WHERE WHAT IT READS IS OF BULK AT MOST 1048576: true; the input reads as it did. -/
def fnExactReachedStepsUptoRow : OpenClaim := { program := "ytlajnkdokmbpeaa", sum := "1a1a2312bf021eeb7f694f94c78287ca43f897646ea91bf35503bacb8da39c2a", func := "loop.example/g01374/laws.FnExactReachedSteps", spec := "fnExactReachedSteps", unfollowed := true, recurses := true, apart := false, narrowed := true }
def FnExactReachedStepsUptoSaid : Prop := fnExactReachedStepsUptoRow.holds Try.pinned (OpenSpec.upto fnExactReachedStepsSpec)

/-- 'laws.FnExactStepsAtSide', WHERE WHAT IT READS IS OF BULK AT MOST 1048576: true; the input reads as it did. -/
def fnExactStepsAtSideUptoRow : OpenClaim := { program := "ytlajnkdokmbpeaa", sum := "1a1a2312bf021eeb7f694f94c78287ca43f897646ea91bf35503bacb8da39c2a", func := "loop.example/g01374/laws.FnExactStepsAtSide", spec := "fnExactStepsAtSide", inPlace := ["internal/bytealg.IndexByteString", "internal/bytealg.IndexString"], unfollowed := true, recurses := true, named := ["internal/bytealg.MaxLen"], apart := false, narrowed := true }
def FnExactStepsAtSideUptoSaid : Prop := fnExactStepsAtSideUptoRow.holds Try.pinned (OpenSpec.upto fnExactStepsAtSideSpec)

/-- 'laws.FnExactStuckSteps', WHERE WHAT IT READS IS OF BULK AT MOST 1048576: true; the input reads as it did. -/
def fnExactStuckStepsUptoRow : OpenClaim := { program := "ytlajnkdokmbpeaa", sum := "1a1a2312bf021eeb7f694f94c78287ca43f897646ea91bf35503bacb8da39c2a", func := "loop.example/g01374/laws.FnExactStuckSteps", spec := "fnExactStuckSteps", unfollowed := true, recurses := true, apart := false, narrowed := true }
def FnExactStuckStepsUptoSaid : Prop := fnExactStuckStepsUptoRow.holds Try.pinned (OpenSpec.upto fnExactStuckStepsSpec)

/-- 'laws.FnExactNeededSteps', WHERE WHAT IT READS IS OF BULK AT MOST 1048576: true; the input reads as it did. -/
def fnExactNeededStepsUptoRow : OpenClaim := { program := "ytlajnkdokmbpeaa", sum := "1a1a2312bf021eeb7f694f94c78287ca43f897646ea91bf35503bacb8da39c2a", func := "loop.example/g01374/laws.FnExactNeededSteps", spec := "fnExactNeededSteps", unfollowed := true, recurses := true, apart := false, narrowed := true }
def FnExactNeededStepsUptoSaid : Prop := fnExactNeededStepsUptoRow.holds Try.pinned (OpenSpec.upto fnExactNeededStepsSpec)

/-- 'laws.FnExactLoopOfBall', WHERE WHAT IT READS IS OF BULK AT MOST 1048576: true; the input reads as it did. -/
def fnExactLoopOfBallUptoRow : OpenClaim := { program := "ytlajnkdokmbpeaa", sum := "1a1a2312bf021eeb7f694f94c78287ca43f897646ea91bf35503bacb8da39c2a", func := "loop.example/g01374/laws.FnExactLoopOfBall", spec := "fnExactLoopOfBall", unfollowed := true, recurses := true, apart := false, narrowed := true }
def FnExactLoopOfBallUptoSaid : Prop := fnExactLoopOfBallUptoRow.holds Try.pinned (OpenSpec.upto fnExactLoopOfBallSpec)

end Rows
end Go.Proofs.Ytlajnkdokmbpeaa
