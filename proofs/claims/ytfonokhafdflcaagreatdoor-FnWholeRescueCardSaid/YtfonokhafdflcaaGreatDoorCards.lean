/-
  DERIVED. GIVEN WITH THE SEED: THE CARDS: each row of YtfonokhafdflcaaGreatDoorRows.lean that lists a variable, with what it lists TIED to the program's text (the seventh form; the later family's looks); each row that meets fmt, with fmt's text TOLD by the authors' own Lean function (tested against real Go, not proved from fmt's source: count such statements apart). THE CARD IS WHAT COUNTS. Prove the row's statement (the work); the ties are given (YtfonokhafdflcaaGreatDoorTie.lean); close each card by the builder's one call (the guide's Derived/Test/ToyasCard.lean, 'card_holds'). Laid BY PROGRAM, IN A SANDBOX (cutbox-door.mjs). By AI agents, Wed Nov 11 2026. No macro, syntax, notation, axiom, sorry.
-/
import Derived.Test.YtfonokhafdflcaaGreatDoorRows
import GoSem.ClaimSeven
namespace Go.Proofs.YtfonokhafdflcaaGreatDoor
namespace Rows

/-- THE TIED CARD OF 'laws.FnWholeRescue'. -/
def fnWholeRescueCard : Claim7 := { stood := { row := fnWholeRescueRow, standIns := [], harness := (true, "407fbdca27fbede3e067224b7a46cb498fb310026029366a4879d3c5631492df"), looks := true }, kinds := [], alts := [], laidByText := true, laidKinds := [.data, .pinned], laidTests := true, laidLooks := .later }
def FnWholeRescueCardSaid : Prop := Claim7.holds Tryz.pinned (.plain (OpenSpec.ofChange fnWholeRescueSpec)) fnWholeRescueCard

/-- THE TIED CARD OF 'laws.FnReadRecord'. -/
def fnReadRecordCard : Claim7 := { stood := { row := fnReadRecordRow, standIns := [], harness := (true, "407fbdca27fbede3e067224b7a46cb498fb310026029366a4879d3c5631492df"), looks := true }, kinds := [], alts := [], laidByText := true, laidKinds := [.data, .data, .data, .data, .sentinel, .sentinel, .pinned], laidTests := true, laidLooks := .later }
def FnReadRecordCardSaid : Prop := Claim7.holds Tryz.pinned (.plain (OpenSpec.ofChange fnReadRecordSpec)) fnReadRecordCard

/-- THE TIED CARD OF 'laws.FnExactCompactLog'. -/
def fnExactCompactLogCard : Claim7 := { stood := { row := fnExactCompactLogRow, standIns := [], harness := (true, "407fbdca27fbede3e067224b7a46cb498fb310026029366a4879d3c5631492df"), looks := true }, kinds := [], alts := [], laidByText := true, laidKinds := [.data, .data, .data], laidTests := true, laidLooks := .later }
def FnExactCompactLogCardSaid : Prop := Claim7.holds Tryz.pinned (.plain (OpenSpec.ofChange fnExactCompactLogSpec)) fnExactCompactLogCard

/-- THE SECOND FORM's CARD OF 'laws.FnWholeRescue'. -/
def fnWholeRescueUptoCard : Claim7 := { stood := { row := fnWholeRescueUptoRow, standIns := [], harness := (true, "407fbdca27fbede3e067224b7a46cb498fb310026029366a4879d3c5631492df"), looks := true }, kinds := [], alts := [], laidByText := true, laidKinds := [.data, .pinned], laidTests := true, laidLooks := .later }
def FnWholeRescueUptoCardSaid : Prop := Claim7.holds Tryz.pinned (.plain (OpenSpec.upto fnWholeRescueSpec)) fnWholeRescueUptoCard

/-- THE SECOND FORM's CARD OF 'laws.FnReadRecord'. -/
def fnReadRecordUptoCard : Claim7 := { stood := { row := fnReadRecordUptoRow, standIns := [], harness := (true, "407fbdca27fbede3e067224b7a46cb498fb310026029366a4879d3c5631492df"), looks := true }, kinds := [], alts := [], laidByText := true, laidKinds := [.data, .data, .data, .data, .sentinel, .sentinel, .pinned], laidTests := true, laidLooks := .later }
def FnReadRecordUptoCardSaid : Prop := Claim7.holds Tryz.pinned (.plain (OpenSpec.upto fnReadRecordSpec)) fnReadRecordUptoCard

/-- THE SECOND FORM's CARD OF 'laws.FnExactCompactLog'. -/
def fnExactCompactLogUptoCard : Claim7 := { stood := { row := fnExactCompactLogUptoRow, standIns := [], harness := (true, "407fbdca27fbede3e067224b7a46cb498fb310026029366a4879d3c5631492df"), looks := true }, kinds := [], alts := [], laidByText := true, laidKinds := [.data, .data, .data], laidTests := true, laidLooks := .later }
def FnExactCompactLogUptoCardSaid : Prop := Claim7.holds Tryz.pinned (.plain (OpenSpec.upto fnExactCompactLogSpec)) fnExactCompactLogUptoCard
end Rows
end Go.Proofs.YtfonokhafdflcaaGreatDoor
