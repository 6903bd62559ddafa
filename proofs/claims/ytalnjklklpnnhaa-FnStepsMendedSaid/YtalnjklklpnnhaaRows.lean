/-
  No cell of these rows narrows 'for every input' (looked for: loops, veiled, ifaces, maps, wideKeys, modest, calm, conditions, laid).
  DERIVED. THE GIVEN ROWS OF THIS SEAT. 2 by the template 'for every input the law returns true; each argument reads behind the call as it read before'; 0 by the template 'total and deterministic' (their statements: YtalnjklklpnnhaaTotals.lean).
  GIVEN WITH THE SEED: the statements are not yours to turn. If you find one false, say at which input.
  Laid BY PROGRAM, IN A SANDBOX (cutbox-rows.mjs): the forced cells as the released guide's own fill.sh prints them over the translation 8c57a106186c6691… (all of the seat's roots in one cut). By AI agents, Wed Nov 11 2026. No macro, syntax, notation, axiom, sorry.
-/
import Derived.Test.YtalnjklklpnnhaaChecked
import GoSem.Claim
import GoSem.ClaimJoined
import GoSem.ClaimMapViews
import Derived.JoinedTies
import Derived.KernelRfl
namespace Go.Proofs.Ytalnjklklpnnhaa
/- THE CELL 'sum', in the pinned program and in every row, IS THE sha256 OF THE DUMP (.gsa) THAT YtalnjklklpnnhaaProg.lean LOADS. Nothing in Lean hashes anything: it is a label: what it is worth is what the hold of that sum in a sandbox is worth. -/
noncomputable def Try.pinned : Pinned := { name := "ytalnjklklpnnhaa", sum := "8c57a106186c6691873c3971e913f4d59e65b5cf6ec1385a18dab6b71e43984d", checked := Try.checked }
namespace Rows
def none {H : Type} : Left H := { results := [], args := [] }

/-- 'laws.FnExactTurnJumps': WHATEVER THE INPUT: true; the input reads as it did. -/
def fnExactTurnJumpsSpec : ChangeSpec := { name := "fnExactTurnJumps", fn := fun _ => fun
  | [d] => { results := [.lit (.bool true)], args := [d] }
  | _ => none }
def fnExactTurnJumpsRow : OpenClaim := { program := "ytalnjklklpnnhaa", sum := "8c57a106186c6691873c3971e913f4d59e65b5cf6ec1385a18dab6b71e43984d", func := "loop.example/g01374/laws.FnExactTurnJumps", spec := "fnExactTurnJumps", unfollowed := true, recurses := true, apart := false }
def FnExactTurnJumpsSaid : Prop := fnExactTurnJumpsRow.holds Try.pinned (OpenSpec.ofChange fnExactTurnJumpsSpec)

/-- ITS FALSE NEIGHBOUR: 'it returns false'. Refute it at one input. -/
def fnExactTurnJumpsWrong : ChangeSpec := { name := "fnExactTurnJumps", fn := fun _ => fun
  | [d] => { results := [.lit (.bool false)], args := [d] }
  | _ => none }
def FnExactTurnJumpsWrongFalsely : Prop := fnExactTurnJumpsRow.holds Try.pinned (OpenSpec.ofChange fnExactTurnJumpsWrong)

/-- 'laws.FnStepsMended': WHATEVER THE INPUT: true; the input reads as it did. -/
def fnStepsMendedSpec : ChangeSpec := { name := "fnStepsMended", fn := fun _ => fun
  | [d1, d2] => { results := [.lit (.bool true)], args := [d1, d2] }
  | _ => none }
def fnStepsMendedRow : OpenClaim := { program := "ytalnjklklpnnhaa", sum := "8c57a106186c6691873c3971e913f4d59e65b5cf6ec1385a18dab6b71e43984d", func := "loop.example/g01374/laws.FnStepsMended", spec := "fnStepsMended", unfollowed := true, recurses := true, apart := false }
def FnStepsMendedSaid : Prop := fnStepsMendedRow.holds Try.pinned (OpenSpec.ofChange fnStepsMendedSpec)

/-- ITS FALSE NEIGHBOUR: 'it returns false'. Refute it at one input. -/
def fnStepsMendedWrong : ChangeSpec := { name := "fnStepsMended", fn := fun _ => fun
  | [d1, d2] => { results := [.lit (.bool false)], args := [d1, d2] }
  | _ => none }
def FnStepsMendedWrongFalsely : Prop := fnStepsMendedRow.holds Try.pinned (OpenSpec.ofChange fnStepsMendedWrong)

/- THE SECOND FORM. 'bulk': how many values and letters a reading holds, each counted each time it is reached (what is shared counts as often as it is met; a slice's spare places count too). A statement '..UptoSaid' is the law's where the arguments, and the package variables that the reading takes, are together of bulk at most 1048576: NARROWER than '..Said'. Prove '..Said' where nothing that the law and all that it calls make is longer than what came in: it says more and counts as full. Else prove '..UptoSaid'. A law counts once. -/
mutual
def uptoBulk {H : Type} : DataW H → Nat
  | .lit (.string bytes) => bytes.length + 1
  | .lit _ => 1
  | .nil => 1
  | .ptr d => uptoBulk d + 1
  | .slice elems spare => uptoBulkAll elems + uptoBulkAll spare + 1
  | .agg parts => uptoBulkAll parts + 1
  | .iface _ d => uptoBulk d + 1
  | .map entries => uptoBulkEntries entries + 1
  | .held _ => 1
def uptoBulkAll {H : Type} : List (DataW H) → Nat
  | [] => 0
  | d :: r => uptoBulk d + uptoBulkAll r
def uptoBulkEntries {H : Type} : List (Lit × DataW H) → Nat
  | [] => 0
  | x :: r => uptoBulkEntry x + uptoBulkEntries r
def uptoBulkEntry {H : Type} : Lit × DataW H → Nat
  | (.string bytes, d) => bytes.length + uptoBulk d + 1
  | (_, d) => uptoBulk d + 1
 end
def uptoSmall : (H : Type) → List (DataW H) → Bool := fun _ ds => decide (uptoBulkAll ds ≤ 1048576)
def OpenSpec.upto (s : _root_.Go.ChangeSpec) : _root_.Go.OpenSpec := { _root_.Go.OpenSpec.ofChange s with cond := some uptoSmall }

/-- 'laws.FnExactTurnJumps', WHERE WHAT IT READS IS OF BULK AT MOST 1048576: true; the input reads as it did. -/
def fnExactTurnJumpsUptoRow : OpenClaim := { program := "ytalnjklklpnnhaa", sum := "8c57a106186c6691873c3971e913f4d59e65b5cf6ec1385a18dab6b71e43984d", func := "loop.example/g01374/laws.FnExactTurnJumps", spec := "fnExactTurnJumps", unfollowed := true, recurses := true, apart := false, narrowed := true }
def FnExactTurnJumpsUptoSaid : Prop := fnExactTurnJumpsUptoRow.holds Try.pinned (OpenSpec.upto fnExactTurnJumpsSpec)

/-- 'laws.FnStepsMended', WHERE WHAT IT READS IS OF BULK AT MOST 1048576: true; the input reads as it did. -/
def fnStepsMendedUptoRow : OpenClaim := { program := "ytalnjklklpnnhaa", sum := "8c57a106186c6691873c3971e913f4d59e65b5cf6ec1385a18dab6b71e43984d", func := "loop.example/g01374/laws.FnStepsMended", spec := "fnStepsMended", unfollowed := true, recurses := true, apart := false, narrowed := true }
def FnStepsMendedUptoSaid : Prop := fnStepsMendedUptoRow.holds Try.pinned (OpenSpec.upto fnStepsMendedSpec)

end Rows
end Go.Proofs.Ytalnjklklpnnhaa
