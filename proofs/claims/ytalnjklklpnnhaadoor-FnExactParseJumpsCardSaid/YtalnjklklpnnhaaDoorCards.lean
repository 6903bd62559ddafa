/-
  DERIVED. GIVEN WITH THE SEED: THE CARDS: each row of YtalnjklklpnnhaaDoorRows.lean that lists a variable, with what it lists TIED to the program's text (the seventh form; the later family's looks); each row that meets fmt, with fmt's text TOLD by the authors' own Lean function (tested against real Go, not proved from fmt's source: count such statements apart). THE CARD IS WHAT COUNTS. Prove the row's statement (the work); the ties are given (YtalnjklklpnnhaaDoorTie.lean); close each card by the builder's one call (the guide's Derived/Test/ToyasCard.lean, 'card_holds'). Laid BY PROGRAM, IN A SANDBOX (cutbox-door.mjs). By AI agents, Wed Nov 11 2026. No macro, syntax, notation, axiom, sorry.
-/
import Derived.Test.YtalnjklklpnnhaaDoorRows
import GoSem.ClaimSeven
namespace Go.Proofs.YtalnjklklpnnhaaDoor
namespace Rows

/-- THE TIED CARD OF 'laws.FnExactParseJumps'. -/
def fnExactParseJumpsCard : Claim7 := { stood := { row := fnExactParseJumpsRow, standIns := [], harness := (true, "cee1d617078be1172f9ad957f40c1e1b403da3a13ab224d5f8c299fbcba20344"), looks := true }, kinds := [], alts := [], laidByText := true, laidKinds := [.data, .data, .data, .data, .sentinel, .sentinel, .pinned], laidTests := true, laidLooks := .later }
def FnExactParseJumpsCardSaid : Prop := Claim7.holds Tryd.pinned (.plain (OpenSpec.ofChange fnExactParseJumpsSpec)) fnExactParseJumpsCard

/-- THE TIED CARD OF 'laws.FnExactParseSpiral'. -/
def fnExactParseSpiralCard : Claim7 := { stood := { row := fnExactParseSpiralRow, standIns := [], harness := (true, "cee1d617078be1172f9ad957f40c1e1b403da3a13ab224d5f8c299fbcba20344"), looks := true }, kinds := [], alts := [], laidByText := true, laidKinds := [.data, .data, .data, .sentinel, .sentinel], laidTests := true, laidLooks := .later }
def FnExactParseSpiralCardSaid : Prop := Claim7.holds Tryd.pinned (.plain (OpenSpec.ofChange fnExactParseSpiralSpec)) fnExactParseSpiralCard

/-- THE SECOND FORM's CARD OF 'laws.FnExactParseJumps'. -/
def fnExactParseJumpsUptoCard : Claim7 := { stood := { row := fnExactParseJumpsUptoRow, standIns := [], harness := (true, "cee1d617078be1172f9ad957f40c1e1b403da3a13ab224d5f8c299fbcba20344"), looks := true }, kinds := [], alts := [], laidByText := true, laidKinds := [.data, .data, .data, .data, .sentinel, .sentinel, .pinned], laidTests := true, laidLooks := .later }
def FnExactParseJumpsUptoCardSaid : Prop := Claim7.holds Tryd.pinned (.plain (OpenSpec.upto fnExactParseJumpsSpec)) fnExactParseJumpsUptoCard

/-- THE SECOND FORM's CARD OF 'laws.FnExactParseSpiral'. -/
def fnExactParseSpiralUptoCard : Claim7 := { stood := { row := fnExactParseSpiralUptoRow, standIns := [], harness := (true, "cee1d617078be1172f9ad957f40c1e1b403da3a13ab224d5f8c299fbcba20344"), looks := true }, kinds := [], alts := [], laidByText := true, laidKinds := [.data, .data, .data, .sentinel, .sentinel], laidTests := true, laidLooks := .later }
def FnExactParseSpiralUptoCardSaid : Prop := Claim7.holds Tryd.pinned (.plain (OpenSpec.upto fnExactParseSpiralSpec)) fnExactParseSpiralUptoCard
end Rows
end Go.Proofs.YtalnjklklpnnhaaDoor
