/-
  No cell of these rows narrows 'for every input' (looked for: loops, veiled, ifaces, maps, wideKeys, modest, calm, conditions, laid).
  DERIVED. THE GIVEN ROWS OF THIS SEAT. 3 by the template 'for every input the law returns true; each argument reads behind the call as it read before'; 0 by the template 'total and deterministic' (their statements: YtbbkbooiefoihaaTotals.lean).
  GIVEN WITH THE SEED: the statements are not yours to turn. If you find one false, say at which input.
  Laid BY PROGRAM, IN A SANDBOX (cutbox-rows.mjs): the forced cells as the released guide's own fill.sh prints them over the translation a8496f39ece20e1d… (all of the seat's roots in one cut). By AI agents, Wed Nov 11 2026. No macro, syntax, notation, axiom, sorry.
-/
import Derived.Test.YtbbkbooiefoihaaChecked
import GoSem.Claim
import GoSem.ClaimJoined
import GoSem.ClaimMapViews
import Derived.JoinedTies
import Derived.KernelRfl
namespace Go.Proofs.Ytbbkbooiefoihaa
/- THE CELL 'sum', in the pinned program and in every row, IS THE sha256 OF THE DUMP (.gsa) THAT YtbbkbooiefoihaaProg.lean LOADS. Nothing in Lean hashes anything: it is a label: what it is worth is what the hold of that sum in a sandbox is worth. -/
noncomputable def Try.pinned : Pinned := { name := "ytbbkbooiefoihaa", sum := "a8496f39ece20e1dc47d6cd7ed3e5e02d3c57167720c7f33554993d028a36644", checked := Try.checked }
namespace Rows
def none {H : Type} : Left H := { results := [], args := [] }

/-- 'laws.FnExactAllLoops': WHATEVER THE INPUT: true; the input reads as it did. -/
def fnExactAllLoopsSpec : ChangeSpec := { name := "fnExactAllLoops", fn := fun _ => fun
  | [d] => { results := [.lit (.bool true)], args := [d] }
  | _ => none }
def fnExactAllLoopsRow : OpenClaim := { program := "ytbbkbooiefoihaa", sum := "a8496f39ece20e1dc47d6cd7ed3e5e02d3c57167720c7f33554993d028a36644", func := "loop.example/g01374/laws.FnExactAllLoops", spec := "fnExactAllLoops", unfollowed := true, recurses := true, apart := false }
def FnExactAllLoopsSaid : Prop := fnExactAllLoopsRow.holds Try.pinned (OpenSpec.ofChange fnExactAllLoopsSpec)

/-- ITS FALSE NEIGHBOUR: 'it returns false'. Refute it at one input. -/
def fnExactAllLoopsWrong : ChangeSpec := { name := "fnExactAllLoops", fn := fun _ => fun
  | [d] => { results := [.lit (.bool false)], args := [d] }
  | _ => none }
def FnExactAllLoopsWrongFalsely : Prop := fnExactAllLoopsRow.holds Try.pinned (OpenSpec.ofChange fnExactAllLoopsWrong)

/-- 'laws.FnBallsGoOfAll': WHATEVER THE INPUT: true; the input reads as it did. -/
def fnBallsGoOfAllSpec : ChangeSpec := { name := "fnBallsGoOfAll", fn := fun _ => fun
  | [d1, d2, d3, d4, d5, d6] => { results := [.lit (.bool true)], args := [d1, d2, d3, d4, d5, d6] }
  | _ => none }
def fnBallsGoOfAllRow : OpenClaim := { program := "ytbbkbooiefoihaa", sum := "a8496f39ece20e1dc47d6cd7ed3e5e02d3c57167720c7f33554993d028a36644", func := "loop.example/g01374/laws.FnBallsGoOfAll", spec := "fnBallsGoOfAll", unfollowed := true, recurses := true, apart := false }
def FnBallsGoOfAllSaid : Prop := fnBallsGoOfAllRow.holds Try.pinned (OpenSpec.ofChange fnBallsGoOfAllSpec)

/-- ITS FALSE NEIGHBOUR: 'it returns false'. Refute it at one input. -/
def fnBallsGoOfAllWrong : ChangeSpec := { name := "fnBallsGoOfAll", fn := fun _ => fun
  | [d1, d2, d3, d4, d5, d6] => { results := [.lit (.bool false)], args := [d1, d2, d3, d4, d5, d6] }
  | _ => none }
def FnBallsGoOfAllWrongFalsely : Prop := fnBallsGoOfAllRow.holds Try.pinned (OpenSpec.ofChange fnBallsGoOfAllWrong)

/-- 'laws.FnSpiralsTurnOfAll': WHATEVER THE INPUT: true; the input reads as it did. -/
def fnSpiralsTurnOfAllSpec : ChangeSpec := { name := "fnSpiralsTurnOfAll", fn := fun _ => fun
  | [d1, d2, d3, d4, d5, d6, d7, d8, d9] => { results := [.lit (.bool true)], args := [d1, d2, d3, d4, d5, d6, d7, d8, d9] }
  | _ => none }
def fnSpiralsTurnOfAllRow : OpenClaim := { program := "ytbbkbooiefoihaa", sum := "a8496f39ece20e1dc47d6cd7ed3e5e02d3c57167720c7f33554993d028a36644", func := "loop.example/g01374/laws.FnSpiralsTurnOfAll", spec := "fnSpiralsTurnOfAll", inPlace := ["internal/bytealg.IndexByteString", "internal/bytealg.IndexString"], unfollowed := true, recurses := true, named := ["internal/bytealg.MaxLen"], apart := false }
def FnSpiralsTurnOfAllSaid : Prop := fnSpiralsTurnOfAllRow.holds Try.pinned (OpenSpec.ofChange fnSpiralsTurnOfAllSpec)

/-- ITS FALSE NEIGHBOUR: 'it returns false'. Refute it at one input. -/
def fnSpiralsTurnOfAllWrong : ChangeSpec := { name := "fnSpiralsTurnOfAll", fn := fun _ => fun
  | [d1, d2, d3, d4, d5, d6, d7, d8, d9] => { results := [.lit (.bool false)], args := [d1, d2, d3, d4, d5, d6, d7, d8, d9] }
  | _ => none }
def FnSpiralsTurnOfAllWrongFalsely : Prop := fnSpiralsTurnOfAllRow.holds Try.pinned (OpenSpec.ofChange fnSpiralsTurnOfAllWrong)

/- THE SECOND FORM. 'bulk': how many values and letters a reading holds, each counted each time it is reached (what is shared counts as often as it is met; a slice's spare places count too). A statement '..UptoSaid' is the law's where the arguments, and the package variables that the reading takes, are together of bulk at most 1048576: NARROWER than '..Said'. Prove '..Said' where nothing that the law and all that it calls make is longer than what came in: it says more and counts as full. Else prove '..UptoSaid'. A law counts once. -/
mutual
def uptoBulk {H : Type} : DataW H → Nat
  | .lit (.string bytes) => bytes.length + 1
  | .lit _ => 1
  | .nil => 1
  | .ptr d => uptoBulk d + 1
  | .slice elems spare => uptoBulkAll elems + uptoBulkAll spare + 1
  | .agg parts => uptoBulkAll parts + 1
  | .iface _ d => uptoBulk d + 1
  | .map entries => uptoBulkEntries entries + 1
  | .held _ => 1
def uptoBulkAll {H : Type} : List (DataW H) → Nat
  | [] => 0
  | d :: r => uptoBulk d + uptoBulkAll r
def uptoBulkEntries {H : Type} : List (Lit × DataW H) → Nat
  | [] => 0
  | x :: r => uptoBulkEntry x + uptoBulkEntries r
def uptoBulkEntry {H : Type} : Lit × DataW H → Nat
  | (.string bytes, d) => bytes.length + uptoBulk d + 1
  | (_, d) => uptoBulk d + 1
 end
def uptoSmall : (H : Type) → List (DataW H) → Bool := fun _ ds => decide (uptoBulkAll ds ≤ 1048576)
def OpenSpec.upto (s : _root_.Go.ChangeSpec) : _root_.Go.OpenSpec := { _root_.Go.OpenSpec.ofChange s with cond := some uptoSmall }

/-- 'laws.FnExactAllLoops', WHERE WHAT IT READS IS OF BULK AT MOST 1048576: true; the input reads as it did. -/
def fnExactAllLoopsUptoRow : OpenClaim := { program := "ytbbkbooiefoihaa", sum := "a8496f39ece20e1dc47d6cd7ed3e5e02d3c57167720c7f33554993d028a36644", func := "loop.example/g01374/laws.FnExactAllLoops", spec := "fnExactAllLoops", unfollowed := true, recurses := true, apart := false, narrowed := true }
def FnExactAllLoopsUptoSaid : Prop := fnExactAllLoopsUptoRow.holds Try.pinned (OpenSpec.upto fnExactAllLoopsSpec)

/-- 'laws.FnBallsGoOfAll', WHERE WHAT IT READS IS OF BULK AT MOST 1048576: true; the input reads as it did. -/
def fnBallsGoOfAllUptoRow : OpenClaim := { program := "ytbbkbooiefoihaa", sum := "a8496f39ece20e1dc47d6cd7ed3e5e02d3c57167720c7f33554993d028a36644", func := "loop.example/g01374/laws.FnBallsGoOfAll", spec := "fnBallsGoOfAll", unfollowed := true, recurses := true, apart := false, narrowed := true }
def FnBallsGoOfAllUptoSaid : Prop := fnBallsGoOfAllUptoRow.holds Try.pinned (OpenSpec.upto fnBallsGoOfAllSpec)

/-- 'laws.FnSpiralsTurnOfAll', WHERE WHAT IT READS IS OF BULK AT MOST 1048576: true; the input reads as it did. -/
def fnSpiralsTurnOfAllUptoRow : OpenClaim := { program := "ytbbkbooiefoihaa", sum := "a8496f39ece20e1dc47d6cd7ed3e5e02d3c57167720c7f33554993d028a36644", func := "loop.example/g01374/laws.FnSpiralsTurnOfAll", spec := "fnSpiralsTurnOfAll", inPlace := ["internal/bytealg.IndexByteString", "internal/bytealg.IndexString"], unfollowed := true, recurses := true, named := ["internal/bytealg.MaxLen"], apart := false, narrowed := true }
def FnSpiralsTurnOfAllUptoSaid : Prop := fnSpiralsTurnOfAllUptoRow.holds Try.pinned (OpenSpec.upto fnSpiralsTurnOfAllSpec)

end Rows
end Go.Proofs.Ytbbkbooiefoihaa
