/-
  No cell of these rows narrows 'for every input' (looked for: loops, veiled, ifaces, maps, wideKeys, modest, calm, conditions, laid).
  DERIVED. THE GIVEN ROWS OF THIS SEAT. 12 by the template 'for every input the law returns true; each argument reads behind the call as it read before'; 0 by the template 'total and deterministic' (their statements: YtflagakoikgkhaaTotals.lean).
  GIVEN WITH THE SEED: the statements are not yours to turn. If you find one false, say at which input.
  Laid BY PROGRAM, IN A SANDBOX (cutbox-rows.mjs): the forced cells as the released guide's own fill.sh prints them over the translation 1629f44c79326ec3… (all of the seat's roots in one cut). By AI agents, Wed Nov 11 2026. No macro, syntax, notation, axiom, sorry.
-/
import Derived.Test.YtflagakoikgkhaaChecked
import GoSem.Claim
import GoSem.ClaimJoined
import GoSem.ClaimMapViews
import Derived.JoinedTies
import Derived.KernelRfl
namespace Go.Proofs.Ytflagakoikgkhaa
/- THE CELL 'sum', in the pinned program and in every row, IS THE sha256 OF THE DUMP (.gsa) THAT YtflagakoikgkhaaProg.lean LOADS. Nothing in Lean hashes anything: it is a label: what it is worth is what the hold of that sum in a sandbox is worth. -/
noncomputable def Try.pinned : Pinned := { name := "ytflagakoikgkhaa", sum := "1629f44c79326ec3d6eb19c2c58723389c44d967415982214a45eb0a0d465305", checked := Try.checked }
namespace Rows
def none {H : Type} : Left H := { results := [], args := [] }

/-- 'laws.FnExactGreatestNeed': WHATEVER THE INPUT: true; the input reads as it did. -/
def fnExactGreatestNeedSpec : ChangeSpec := { name := "fnExactGreatestNeed", fn := fun _ => fun
  | [d1, d2] => { results := [.lit (.bool true)], args := [d1, d2] }
  | _ => none }
def fnExactGreatestNeedRow : OpenClaim := { program := "ytflagakoikgkhaa", sum := "1629f44c79326ec3d6eb19c2c58723389c44d967415982214a45eb0a0d465305", func := "loop.example/g01374/laws.FnExactGreatestNeed", spec := "fnExactGreatestNeed", unfollowed := true, recurses := true, apart := false }
def FnExactGreatestNeedSaid : Prop := fnExactGreatestNeedRow.holds Try.pinned (OpenSpec.ofChange fnExactGreatestNeedSpec)

/-- ITS FALSE NEIGHBOUR: 'it returns false'. Refute it at one input. -/
def fnExactGreatestNeedWrong : ChangeSpec := { name := "fnExactGreatestNeed", fn := fun _ => fun
  | [d1, d2] => { results := [.lit (.bool false)], args := [d1, d2] }
  | _ => none }
def FnExactGreatestNeedWrongFalsely : Prop := fnExactGreatestNeedRow.holds Try.pinned (OpenSpec.ofChange fnExactGreatestNeedWrong)

/-- 'laws.FnExactOppositeSteps': WHATEVER THE INPUT: true; the input reads as it did. -/
def fnExactOppositeStepsSpec : ChangeSpec := { name := "fnExactOppositeSteps", fn := fun _ => fun
  | [d1, d2] => { results := [.lit (.bool true)], args := [d1, d2] }
  | _ => none }
def fnExactOppositeStepsRow : OpenClaim := { program := "ytflagakoikgkhaa", sum := "1629f44c79326ec3d6eb19c2c58723389c44d967415982214a45eb0a0d465305", func := "loop.example/g01374/laws.FnExactOppositeSteps", spec := "fnExactOppositeSteps", unfollowed := true, recurses := true, apart := false }
def FnExactOppositeStepsSaid : Prop := fnExactOppositeStepsRow.holds Try.pinned (OpenSpec.ofChange fnExactOppositeStepsSpec)

/-- ITS FALSE NEIGHBOUR: 'it returns false'. Refute it at one input. -/
def fnExactOppositeStepsWrong : ChangeSpec := { name := "fnExactOppositeSteps", fn := fun _ => fun
  | [d1, d2] => { results := [.lit (.bool false)], args := [d1, d2] }
  | _ => none }
def FnExactOppositeStepsWrongFalsely : Prop := fnExactOppositeStepsRow.holds Try.pinned (OpenSpec.ofChange fnExactOppositeStepsWrong)

/-- 'laws.FnExactDarkSteps': WHATEVER THE INPUT: true; the input reads as it did. -/
def fnExactDarkStepsSpec : ChangeSpec := { name := "fnExactDarkSteps", fn := fun _ => fun
  | [d1, d2, d3] => { results := [.lit (.bool true)], args := [d1, d2, d3] }
  | _ => none }
def fnExactDarkStepsRow : OpenClaim := { program := "ytflagakoikgkhaa", sum := "1629f44c79326ec3d6eb19c2c58723389c44d967415982214a45eb0a0d465305", func := "loop.example/g01374/laws.FnExactDarkSteps", spec := "fnExactDarkSteps", unfollowed := true, recurses := true, apart := false }
def FnExactDarkStepsSaid : Prop := fnExactDarkStepsRow.holds Try.pinned (OpenSpec.ofChange fnExactDarkStepsSpec)

/-- ITS FALSE NEIGHBOUR: 'it returns false'. Refute it at one input. -/
def fnExactDarkStepsWrong : ChangeSpec := { name := "fnExactDarkSteps", fn := fun _ => fun
  | [d1, d2, d3] => { results := [.lit (.bool false)], args := [d1, d2, d3] }
  | _ => none }
def FnExactDarkStepsWrongFalsely : Prop := fnExactDarkStepsRow.holds Try.pinned (OpenSpec.ofChange fnExactDarkStepsWrong)

/-- 'laws.FnExactTurnJumps': WHATEVER THE INPUT: true; the input reads as it did. -/
def fnExactTurnJumpsSpec : ChangeSpec := { name := "fnExactTurnJumps", fn := fun _ => fun
  | [d] => { results := [.lit (.bool true)], args := [d] }
  | _ => none }
def fnExactTurnJumpsRow : OpenClaim := { program := "ytflagakoikgkhaa", sum := "1629f44c79326ec3d6eb19c2c58723389c44d967415982214a45eb0a0d465305", func := "loop.example/g01374/laws.FnExactTurnJumps", spec := "fnExactTurnJumps", unfollowed := true, recurses := true, apart := false }
def FnExactTurnJumpsSaid : Prop := fnExactTurnJumpsRow.holds Try.pinned (OpenSpec.ofChange fnExactTurnJumpsSpec)

/-- ITS FALSE NEIGHBOUR: 'it returns false'. Refute it at one input. -/
def fnExactTurnJumpsWrong : ChangeSpec := { name := "fnExactTurnJumps", fn := fun _ => fun
  | [d] => { results := [.lit (.bool false)], args := [d] }
  | _ => none }
def FnExactTurnJumpsWrongFalsely : Prop := fnExactTurnJumpsRow.holds Try.pinned (OpenSpec.ofChange fnExactTurnJumpsWrong)

/-- 'laws.FnExactAlikeSteps': WHATEVER THE INPUT: true; the input reads as it did. -/
def fnExactAlikeStepsSpec : ChangeSpec := { name := "fnExactAlikeSteps", fn := fun _ => fun
  | [d1, d2, d3, d4] => { results := [.lit (.bool true)], args := [d1, d2, d3, d4] }
  | _ => none }
def fnExactAlikeStepsRow : OpenClaim := { program := "ytflagakoikgkhaa", sum := "1629f44c79326ec3d6eb19c2c58723389c44d967415982214a45eb0a0d465305", func := "loop.example/g01374/laws.FnExactAlikeSteps", spec := "fnExactAlikeSteps", apart := false }
def FnExactAlikeStepsSaid : Prop := fnExactAlikeStepsRow.holds Try.pinned (OpenSpec.ofChange fnExactAlikeStepsSpec)

/-- ITS FALSE NEIGHBOUR: 'it returns false'. Refute it at one input. -/
def fnExactAlikeStepsWrong : ChangeSpec := { name := "fnExactAlikeSteps", fn := fun _ => fun
  | [d1, d2, d3, d4] => { results := [.lit (.bool false)], args := [d1, d2, d3, d4] }
  | _ => none }
def FnExactAlikeStepsWrongFalsely : Prop := fnExactAlikeStepsRow.holds Try.pinned (OpenSpec.ofChange fnExactAlikeStepsWrong)

/-- 'laws.FnExactChangeJump': WHATEVER THE INPUT: true; the input reads as it did. -/
def fnExactChangeJumpSpec : ChangeSpec := { name := "fnExactChangeJump", fn := fun _ => fun
  | [d1, d2, d3] => { results := [.lit (.bool true)], args := [d1, d2, d3] }
  | _ => none }
def fnExactChangeJumpRow : OpenClaim := { program := "ytflagakoikgkhaa", sum := "1629f44c79326ec3d6eb19c2c58723389c44d967415982214a45eb0a0d465305", func := "loop.example/g01374/laws.FnExactChangeJump", spec := "fnExactChangeJump", unfollowed := true, recurses := true, apart := false }
def FnExactChangeJumpSaid : Prop := fnExactChangeJumpRow.holds Try.pinned (OpenSpec.ofChange fnExactChangeJumpSpec)

/-- ITS FALSE NEIGHBOUR: 'it returns false'. Refute it at one input. -/
def fnExactChangeJumpWrong : ChangeSpec := { name := "fnExactChangeJump", fn := fun _ => fun
  | [d1, d2, d3] => { results := [.lit (.bool false)], args := [d1, d2, d3] }
  | _ => none }
def FnExactChangeJumpWrongFalsely : Prop := fnExactChangeJumpRow.holds Try.pinned (OpenSpec.ofChange fnExactChangeJumpWrong)

/-- 'laws.FnExactBallsMeet': WHATEVER THE INPUT: true; the input reads as it did. -/
def fnExactBallsMeetSpec : ChangeSpec := { name := "fnExactBallsMeet", fn := fun _ => fun
  | [d1, d2, d3] => { results := [.lit (.bool true)], args := [d1, d2, d3] }
  | _ => none }
def fnExactBallsMeetRow : OpenClaim := { program := "ytflagakoikgkhaa", sum := "1629f44c79326ec3d6eb19c2c58723389c44d967415982214a45eb0a0d465305", func := "loop.example/g01374/laws.FnExactBallsMeet", spec := "fnExactBallsMeet", unfollowed := true, recurses := true, apart := false }
def FnExactBallsMeetSaid : Prop := fnExactBallsMeetRow.holds Try.pinned (OpenSpec.ofChange fnExactBallsMeetSpec)

/-- ITS FALSE NEIGHBOUR: 'it returns false'. Refute it at one input. -/
def fnExactBallsMeetWrong : ChangeSpec := { name := "fnExactBallsMeet", fn := fun _ => fun
  | [d1, d2, d3] => { results := [.lit (.bool false)], args := [d1, d2, d3] }
  | _ => none }
def FnExactBallsMeetWrongFalsely : Prop := fnExactBallsMeetRow.holds Try.pinned (OpenSpec.ofChange fnExactBallsMeetWrong)

/-- 'laws.FnExactCoverPlan': WHATEVER THE INPUT: true; the input reads as it did. -/
def fnExactCoverPlanSpec : ChangeSpec := { name := "fnExactCoverPlan", fn := fun _ => fun
  | [d1, d2, d3] => { results := [.lit (.bool true)], args := [d1, d2, d3] }
  | _ => none }
def fnExactCoverPlanRow : OpenClaim := { program := "ytflagakoikgkhaa", sum := "1629f44c79326ec3d6eb19c2c58723389c44d967415982214a45eb0a0d465305", func := "loop.example/g01374/laws.FnExactCoverPlan", spec := "fnExactCoverPlan", unfollowed := true, recurses := true, apart := false }
def FnExactCoverPlanSaid : Prop := fnExactCoverPlanRow.holds Try.pinned (OpenSpec.ofChange fnExactCoverPlanSpec)

/-- ITS FALSE NEIGHBOUR: 'it returns false'. Refute it at one input. -/
def fnExactCoverPlanWrong : ChangeSpec := { name := "fnExactCoverPlan", fn := fun _ => fun
  | [d1, d2, d3] => { results := [.lit (.bool false)], args := [d1, d2, d3] }
  | _ => none }
def FnExactCoverPlanWrongFalsely : Prop := fnExactCoverPlanRow.holds Try.pinned (OpenSpec.ofChange fnExactCoverPlanWrong)

/-- 'laws.FnExactComingTo': WHATEVER THE INPUT: true; the input reads as it did. -/
def fnExactComingToSpec : ChangeSpec := { name := "fnExactComingTo", fn := fun _ => fun
  | [d1, d2] => { results := [.lit (.bool true)], args := [d1, d2] }
  | _ => none }
def fnExactComingToRow : OpenClaim := { program := "ytflagakoikgkhaa", sum := "1629f44c79326ec3d6eb19c2c58723389c44d967415982214a45eb0a0d465305", func := "loop.example/g01374/laws.FnExactComingTo", spec := "fnExactComingTo", unfollowed := true, recurses := true, apart := false }
def FnExactComingToSaid : Prop := fnExactComingToRow.holds Try.pinned (OpenSpec.ofChange fnExactComingToSpec)

/-- ITS FALSE NEIGHBOUR: 'it returns false'. Refute it at one input. -/
def fnExactComingToWrong : ChangeSpec := { name := "fnExactComingTo", fn := fun _ => fun
  | [d1, d2] => { results := [.lit (.bool false)], args := [d1, d2] }
  | _ => none }
def FnExactComingToWrongFalsely : Prop := fnExactComingToRow.holds Try.pinned (OpenSpec.ofChange fnExactComingToWrong)

/-- 'laws.FnExactNoneComes': WHATEVER THE INPUT: true; the input reads as it did. -/
def fnExactNoneComesSpec : ChangeSpec := { name := "fnExactNoneComes", fn := fun _ => fun
  | [d] => { results := [.lit (.bool true)], args := [d] }
  | _ => none }
def fnExactNoneComesRow : OpenClaim := { program := "ytflagakoikgkhaa", sum := "1629f44c79326ec3d6eb19c2c58723389c44d967415982214a45eb0a0d465305", func := "loop.example/g01374/laws.FnExactNoneComes", spec := "fnExactNoneComes", unfollowed := true, recurses := true, apart := false }
def FnExactNoneComesSaid : Prop := fnExactNoneComesRow.holds Try.pinned (OpenSpec.ofChange fnExactNoneComesSpec)

/-- ITS FALSE NEIGHBOUR: 'it returns false'. Refute it at one input. -/
def fnExactNoneComesWrong : ChangeSpec := { name := "fnExactNoneComes", fn := fun _ => fun
  | [d] => { results := [.lit (.bool false)], args := [d] }
  | _ => none }
def FnExactNoneComesWrongFalsely : Prop := fnExactNoneComesRow.holds Try.pinned (OpenSpec.ofChange fnExactNoneComesWrong)

/-- 'laws.FnExactFirstSame': WHATEVER THE INPUT: true; the input reads as it did. -/
def fnExactFirstSameSpec : ChangeSpec := { name := "fnExactFirstSame", fn := fun _ => fun
  | [d1, d2, d3] => { results := [.lit (.bool true)], args := [d1, d2, d3] }
  | _ => none }
def fnExactFirstSameRow : OpenClaim := { program := "ytflagakoikgkhaa", sum := "1629f44c79326ec3d6eb19c2c58723389c44d967415982214a45eb0a0d465305", func := "loop.example/g01374/laws.FnExactFirstSame", spec := "fnExactFirstSame", unfollowed := true, recurses := true, apart := false }
def FnExactFirstSameSaid : Prop := fnExactFirstSameRow.holds Try.pinned (OpenSpec.ofChange fnExactFirstSameSpec)

/-- ITS FALSE NEIGHBOUR: 'it returns false'. Refute it at one input. -/
def fnExactFirstSameWrong : ChangeSpec := { name := "fnExactFirstSame", fn := fun _ => fun
  | [d1, d2, d3] => { results := [.lit (.bool false)], args := [d1, d2, d3] }
  | _ => none }
def FnExactFirstSameWrongFalsely : Prop := fnExactFirstSameRow.holds Try.pinned (OpenSpec.ofChange fnExactFirstSameWrong)

/-- 'laws.FnExactPathOfBall': WHATEVER THE INPUT: true; the input reads as it did. -/
def fnExactPathOfBallSpec : ChangeSpec := { name := "fnExactPathOfBall", fn := fun _ => fun
  | [d1, d2] => { results := [.lit (.bool true)], args := [d1, d2] }
  | _ => none }
def fnExactPathOfBallRow : OpenClaim := { program := "ytflagakoikgkhaa", sum := "1629f44c79326ec3d6eb19c2c58723389c44d967415982214a45eb0a0d465305", func := "loop.example/g01374/laws.FnExactPathOfBall", spec := "fnExactPathOfBall", unfollowed := true, recurses := true, apart := false }
def FnExactPathOfBallSaid : Prop := fnExactPathOfBallRow.holds Try.pinned (OpenSpec.ofChange fnExactPathOfBallSpec)

/-- ITS FALSE NEIGHBOUR: 'it returns false'. Refute it at one input. -/
def fnExactPathOfBallWrong : ChangeSpec := { name := "fnExactPathOfBall", fn := fun _ => fun
  | [d1, d2] => { results := [.lit (.bool false)], args := [d1, d2] }
  | _ => none }
def FnExactPathOfBallWrongFalsely : Prop := fnExactPathOfBallRow.holds Try.pinned (OpenSpec.ofChange fnExactPathOfBallWrong)

/- THE SECOND FORM. 'bulk': how many values and letters a reading holds, each counted each time it is reached (what is shared counts as often as it is met; a slice's spare places count too). A statement '..UptoSaid' is the law's where the arguments, and the package variables that the reading takes, are together of bulk at most 1048576: NARROWER than '..Said'. Prove '..Said' where nothing that the law and all that it calls make is longer than what came in: it says more and counts as full. Else prove '..UptoSaid'. A law counts once. -/
mutual
def uptoBulk {H : Type} : DataW H → Nat
  | .lit (.string bytes) => bytes.length + 1
  | .lit _ => 1
  | .nil => 1
  | .ptr d => uptoBulk d + 1
  | .slice elems spare => uptoBulkAll elems + uptoBulkAll spare + 1
  | .agg parts => uptoBulkAll parts + 1
  | .iface _ d => uptoBulk d + 1
  | .map entries => uptoBulkEntries entries + 1
  | .held _ => 1
def uptoBulkAll {H : Type} : List (DataW H) → Nat
  | [] => 0
  | d :: r => uptoBulk d + uptoBulkAll r
def uptoBulkEntries {H : Type} : List (Lit × DataW H) → Nat
  | [] => 0
  | x :: r => uptoBulkEntry x + uptoBulkEntries r
def uptoBulkEntry {H : Type} : Lit × DataW H → Nat
  | (.string bytes, d) => bytes.length + uptoBulk d + 1
  | (_, d) => uptoBulk d + 1
 end
def uptoSmall : (H : Type) → List (DataW H) → Bool := fun _ ds => decide (uptoBulkAll ds ≤ 1048576)
def OpenSpec.upto (s : _root_.Go.ChangeSpec) : _root_.Go.OpenSpec := { _root_.Go.OpenSpec.ofChange s with cond := some uptoSmall }

/-- 'laws.FnExactGreatestNeed', WHERE WHAT IT READS IS OF BULK AT MOST 1048576: true; the input reads as it did. -/
def fnExactGreatestNeedUptoRow : OpenClaim := { program := "ytflagakoikgkhaa", sum := "1629f44c79326ec3d6eb19c2c58723389c44d967415982214a45eb0a0d465305", func := "loop.example/g01374/laws.FnExactGreatestNeed", spec := "fnExactGreatestNeed", unfollowed := true, recurses := true, apart := false, narrowed := true }
def FnExactGreatestNeedUptoSaid : Prop := fnExactGreatestNeedUptoRow.holds Try.pinned (OpenSpec.upto fnExactGreatestNeedSpec)

/-- 'laws.FnExactOppositeSteps', WHERE WHAT IT READS IS OF BULK AT MOST 1048576: true; the input reads as it did. -/
def fnExactOppositeStepsUptoRow : OpenClaim := { program := "ytflagakoikgkhaa", sum := "1629f44c79326ec3d6eb19c2c58723389c44d967415982214a45eb0a0d465305", func := "loop.example/g01374/laws.FnExactOppositeSteps", spec := "fnExactOppositeSteps", unfollowed := true, recurses := true, apart := false, narrowed := true }
def FnExactOppositeStepsUptoSaid : Prop := fnExactOppositeStepsUptoRow.holds Try.pinned (OpenSpec.upto fnExactOppositeStepsSpec)

/-- 'laws.FnExactDarkSteps', WHERE WHAT IT READS IS OF BULK AT MOST 1048576: true; the input reads as it did. -/
def fnExactDarkStepsUptoRow : OpenClaim := { program := "ytflagakoikgkhaa", sum := "1629f44c79326ec3d6eb19c2c58723389c44d967415982214a45eb0a0d465305", func := "loop.example/g01374/laws.FnExactDarkSteps", spec := "fnExactDarkSteps", unfollowed := true, recurses := true, apart := false, narrowed := true }
def FnExactDarkStepsUptoSaid : Prop := fnExactDarkStepsUptoRow.holds Try.pinned (OpenSpec.upto fnExactDarkStepsSpec)

/-- 'laws.FnExactTurnJumps', WHERE WHAT IT READS IS OF BULK AT MOST 1048576: true; the input reads as it did. -/
def fnExactTurnJumpsUptoRow : OpenClaim := { program := "ytflagakoikgkhaa", sum := "1629f44c79326ec3d6eb19c2c58723389c44d967415982214a45eb0a0d465305", func := "loop.example/g01374/laws.FnExactTurnJumps", spec := "fnExactTurnJumps", unfollowed := true, recurses := true, apart := false, narrowed := true }
def FnExactTurnJumpsUptoSaid : Prop := fnExactTurnJumpsUptoRow.holds Try.pinned (OpenSpec.upto fnExactTurnJumpsSpec)

/-- 'laws.FnExactAlikeSteps', WHERE WHAT IT READS IS OF BULK AT MOST 1048576: true; the input reads as it did. -/
def fnExactAlikeStepsUptoRow : OpenClaim := { program := "ytflagakoikgkhaa", sum := "1629f44c79326ec3d6eb19c2c58723389c44d967415982214a45eb0a0d465305", func := "loop.example/g01374/laws.FnExactAlikeSteps", spec := "fnExactAlikeSteps", apart := false, narrowed := true }
def FnExactAlikeStepsUptoSaid : Prop := fnExactAlikeStepsUptoRow.holds Try.pinned (OpenSpec.upto fnExactAlikeStepsSpec)

/-- 'laws.FnExactChangeJump', WHERE WHAT IT READS IS OF BULK AT MOST 1048576: true; the input reads as it did. -/
def fnExactChangeJumpUptoRow : OpenClaim := { program := "ytflagakoikgkhaa", sum := "1629f44c79326ec3d6eb19c2c58723389c44d967415982214a45eb0a0d465305", func := "loop.example/g01374/laws.FnExactChangeJump", spec := "fnExactChangeJump", unfollowed := true, recurses := true, apart := false, narrowed := true }
def FnExactChangeJumpUptoSaid : Prop := fnExactChangeJumpUptoRow.holds Try.pinned (OpenSpec.upto fnExactChangeJumpSpec)

/-- 'laws.FnExactBallsMeet', WHERE WHAT IT READS IS OF BULK AT MOST 1048576: true; the input reads as it did. -/
def fnExactBallsMeetUptoRow : OpenClaim := { program := "ytflagakoikgkhaa", sum := "1629f44c79326ec3d6eb19c2c58723389c44d967415982214a45eb0a0d465305", func := "loop.example/g01374/laws.FnExactBallsMeet", spec := "fnExactBallsMeet", unfollowed := true, recurses := true, apart := false, narrowed := true }
def FnExactBallsMeetUptoSaid : Prop := fnExactBallsMeetUptoRow.holds Try.pinned (OpenSpec.upto fnExactBallsMeetSpec)

/-- 'laws.FnExactCoverPlan', WHERE WHAT IT READS IS OF BULK AT MOST 1048576: true; the input reads as it did. -/
def fnExactCoverPlanUptoRow : OpenClaim := { program := "ytflagakoikgkhaa", sum := "1629f44c79326ec3d6eb19c2c58723389c44d967415982214a45eb0a0d465305", func := "loop.example/g01374/laws.FnExactCoverPlan", spec := "fnExactCoverPlan", unfollowed := true, recurses := true, apart := false, narrowed := true }
def FnExactCoverPlanUptoSaid : Prop := fnExactCoverPlanUptoRow.holds Try.pinned (OpenSpec.upto fnExactCoverPlanSpec)

/-- 'laws.FnExactComingTo', WHERE WHAT IT READS IS OF BULK AT MOST 1048576: true; the input reads as it did. -/
def fnExactComingToUptoRow : OpenClaim := { program := "ytflagakoikgkhaa", sum := "1629f44c79326ec3d6eb19c2c58723389c44d967415982214a45eb0a0d465305", func := "loop.example/g01374/laws.FnExactComingTo", spec := "fnExactComingTo", unfollowed := true, recurses := true, apart := false, narrowed := true }
def FnExactComingToUptoSaid : Prop := fnExactComingToUptoRow.holds Try.pinned (OpenSpec.upto fnExactComingToSpec)

/-- 'laws.FnExactNoneComes', WHERE WHAT IT READS IS OF BULK AT MOST 1048576: true; the input reads as it did. -/
def fnExactNoneComesUptoRow : OpenClaim := { program := "ytflagakoikgkhaa", sum := "1629f44c79326ec3d6eb19c2c58723389c44d967415982214a45eb0a0d465305", func := "loop.example/g01374/laws.FnExactNoneComes", spec := "fnExactNoneComes", unfollowed := true, recurses := true, apart := false, narrowed := true }
def FnExactNoneComesUptoSaid : Prop := fnExactNoneComesUptoRow.holds Try.pinned (OpenSpec.upto fnExactNoneComesSpec)

/-- 'laws.FnExactFirstSame', WHERE WHAT IT READS IS OF BULK AT MOST 1048576: true; the input reads as it did. -/
def fnExactFirstSameUptoRow : OpenClaim := { program := "ytflagakoikgkhaa", sum := "1629f44c79326ec3d6eb19c2c58723389c44d967415982214a45eb0a0d465305", func := "loop.example/g01374/laws.FnExactFirstSame", spec := "fnExactFirstSame", unfollowed := true, recurses := true, apart := false, narrowed := true }
def FnExactFirstSameUptoSaid : Prop := fnExactFirstSameUptoRow.holds Try.pinned (OpenSpec.upto fnExactFirstSameSpec)

/-- 'laws.FnExactPathOfBall', WHERE WHAT IT READS IS OF BULK AT MOST 1048576: true; the input reads as it did. -/
def fnExactPathOfBallUptoRow : OpenClaim := { program := "ytflagakoikgkhaa", sum := "1629f44c79326ec3d6eb19c2c58723389c44d967415982214a45eb0a0d465305", func := "loop.example/g01374/laws.FnExactPathOfBall", spec := "fnExactPathOfBall", unfollowed := true, recurses := true, apart := false, narrowed := true }
def FnExactPathOfBallUptoSaid : Prop := fnExactPathOfBallUptoRow.holds Try.pinned (OpenSpec.upto fnExactPathOfBallSpec)

end Rows
end Go.Proofs.Ytflagakoikgkhaa
