/-
  DERIVED. GIVEN WITH THE SEED: THE CARDS: each row of YtbbkbooiefoihaaDoorRows.lean that lists a variable, with what it lists TIED to the program's text (the seventh form; the later family's looks); each row that meets fmt, with fmt's text TOLD by the authors' own Lean function (tested against real Go, not proved from fmt's source: count such statements apart). THE CARD IS WHAT COUNTS. Prove the row's statement (the work); the ties are given (YtbbkbooiefoihaaDoorTie.lean); close each card by the builder's one call (the guide's Derived/Test/ToyasCard.lean, 'card_holds'). Laid BY PROGRAM, IN A SANDBOX (cutbox-door.mjs). By AI agents, Wed Nov 11 2026. No macro, syntax, notation, axiom, sorry.
-/
import Derived.Test.YtbbkbooiefoihaaDoorRows
import GoSem.ClaimSeven
namespace Go.Proofs.YtbbkbooiefoihaaDoor
namespace Rows

/-- THE TIED CARD OF 'laws.FnExactSpiralText'. -/
def fnExactSpiralTextCard : Claim7 := { stood := { row := fnExactSpiralTextRow, standIns := [], harness := (true, "4f965b11fbb390ff29aefcd0dfa6a0cb3d7eb9680b01ed2441f9977de847ebf7"), looks := false }, kinds := [], alts := [], laidByText := true, laidKinds := [.data, .data, .data], laidTests := true, laidLooks := .later }
def FnExactSpiralTextCardSaid : Prop := Claim7.holds Tryd.pinned (.plain (OpenSpec.ofChange fnExactSpiralTextSpec)) fnExactSpiralTextCard

/-- THE TIED CARD OF 'laws.FnExactJumpsText'. -/
def fnExactJumpsTextCard : Claim7 := { stood := { row := fnExactJumpsTextRow, standIns := [], harness := (true, "4f965b11fbb390ff29aefcd0dfa6a0cb3d7eb9680b01ed2441f9977de847ebf7"), looks := false }, kinds := [], alts := [], laidByText := true, laidKinds := [.data, .data, .data], laidTests := true, laidLooks := .later }
def FnExactJumpsTextCardSaid : Prop := Claim7.holds Tryd.pinned (.plain (OpenSpec.ofChange fnExactJumpsTextSpec)) fnExactJumpsTextCard

/-- THE SECOND FORM's CARD OF 'laws.FnExactSpiralText'. -/
def fnExactSpiralTextUptoCard : Claim7 := { stood := { row := fnExactSpiralTextUptoRow, standIns := [], harness := (true, "4f965b11fbb390ff29aefcd0dfa6a0cb3d7eb9680b01ed2441f9977de847ebf7"), looks := false }, kinds := [], alts := [], laidByText := true, laidKinds := [.data, .data, .data], laidTests := true, laidLooks := .later }
def FnExactSpiralTextUptoCardSaid : Prop := Claim7.holds Tryd.pinned (.plain (OpenSpec.upto fnExactSpiralTextSpec)) fnExactSpiralTextUptoCard

/-- THE SECOND FORM's CARD OF 'laws.FnExactJumpsText'. -/
def fnExactJumpsTextUptoCard : Claim7 := { stood := { row := fnExactJumpsTextUptoRow, standIns := [], harness := (true, "4f965b11fbb390ff29aefcd0dfa6a0cb3d7eb9680b01ed2441f9977de847ebf7"), looks := false }, kinds := [], alts := [], laidByText := true, laidKinds := [.data, .data, .data], laidTests := true, laidLooks := .later }
def FnExactJumpsTextUptoCardSaid : Prop := Claim7.holds Tryd.pinned (.plain (OpenSpec.upto fnExactJumpsTextSpec)) fnExactJumpsTextUptoCard
end Rows
end Go.Proofs.YtbbkbooiefoihaaDoor
