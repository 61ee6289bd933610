/-
  DERIVED. GIVEN WITH THE SEED: THE CARDS: each row of YtoogaalbnnlloaaGreatDoorRows.lean that lists a variable, with what it lists TIED to the program's text (the seventh form; the later family's looks); each row that meets fmt, with fmt's text TOLD by the authors' own Lean function (tested against real Go, not proved from fmt's source: count such statements apart). THE CARD IS WHAT COUNTS. Prove the row's statement (the work); the ties are given (YtoogaalbnnlloaaGreatDoorTie.lean); close each card by the builder's one call (the guide's Derived/Test/ToyasCard.lean, 'card_holds'). Laid BY PROGRAM, IN A SANDBOX (cutbox-door.mjs). By AI agents, Wed Nov 11 2026. No macro, syntax, notation, axiom, sorry.
-/
import Derived.Test.YtoogaalbnnlloaaGreatDoorRows
import GoSem.ClaimSeven
namespace Go.Proofs.YtoogaalbnnlloaaGreatDoor
namespace Rows

/-- THE TIED CARD OF 'laws.FnParityText'. -/
def fnParityTextCard : Claim7 := { stood := { row := fnParityTextRow, standIns := [], harness := (true, "f73d73520850d728f7d5648a77501d2b594487525c2d70a37d9ccad27421c7b7"), looks := false }, kinds := [], alts := [], laidByText := true, laidKinds := [.data, .pinned], laidTests := true, laidLooks := .later }
def FnParityTextCardSaid : Prop := Claim7.holds Tryz.pinned (.plain (OpenSpec.ofChange fnParityTextSpec)) fnParityTextCard

/-- THE SECOND FORM's CARD OF 'laws.FnParityText'. -/
def fnParityTextUptoCard : Claim7 := { stood := { row := fnParityTextUptoRow, standIns := [], harness := (true, "f73d73520850d728f7d5648a77501d2b594487525c2d70a37d9ccad27421c7b7"), looks := false }, kinds := [], alts := [], laidByText := true, laidKinds := [.data, .pinned], laidTests := true, laidLooks := .later }
def FnParityTextUptoCardSaid : Prop := Claim7.holds Tryz.pinned (.plain (OpenSpec.upto fnParityTextSpec)) fnParityTextUptoCard
end Rows
end Go.Proofs.YtoogaalbnnlloaaGreatDoor
