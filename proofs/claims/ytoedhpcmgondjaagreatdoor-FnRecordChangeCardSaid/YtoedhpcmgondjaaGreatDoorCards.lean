/-
  DERIVED. GIVEN WITH THE SEED: THE CARDS: each row of YtoedhpcmgondjaaGreatDoorRows.lean that lists a variable, with what it lists TIED to the program's text (the seventh form; the later family's looks); each row that meets fmt, with fmt's text TOLD by the authors' own Lean function (tested against real Go, not proved from fmt's source: count such statements apart). THE CARD IS WHAT COUNTS. Prove the row's statement (the work); the ties are given (YtoedhpcmgondjaaGreatDoorTie.lean); close each card by the builder's one call (the guide's Derived/Test/ToyasCard.lean, 'card_holds'). Laid BY PROGRAM, IN A SANDBOX (cutbox-door.mjs). By AI agents, Wed Nov 11 2026. No macro, syntax, notation, axiom, sorry.
-/
import Derived.Test.YtoedhpcmgondjaaGreatDoorRows
import GoSem.ClaimSeven
namespace Go.Proofs.YtoedhpcmgondjaaGreatDoor
namespace Rows

/-- THE TIED CARD OF 'laws.FnCrash'. -/
def fnCrashCard : Claim7 := { stood := { row := fnCrashRow, standIns := [], harness := (true, "64feda6c4b5a7484b2e04b36c4f4e429402cffdadeef17ef3c2c9e2966384869"), looks := true }, kinds := [], alts := [], laidByText := true, laidKinds := [.data, .data, .data, .data, .sentinel, .sentinel, .pinned], laidTests := true, laidLooks := .later }
def FnCrashCardSaid : Prop := Claim7.holds Tryz.pinned (.plain (OpenSpec.ofChange fnCrashSpec)) fnCrashCard

/-- THE TIED CARD OF 'laws.FnRepairLog'. -/
def fnRepairLogCard : Claim7 := { stood := { row := fnRepairLogRow, standIns := [], harness := (true, "64feda6c4b5a7484b2e04b36c4f4e429402cffdadeef17ef3c2c9e2966384869"), looks := true }, kinds := [], alts := [], laidByText := true, laidKinds := [.data, .data, .data, .data, .sentinel, .sentinel, .pinned], laidTests := true, laidLooks := .later }
def FnRepairLogCardSaid : Prop := Claim7.holds Tryz.pinned (.plain (OpenSpec.ofChange fnRepairLogSpec)) fnRepairLogCard

/-- THE TIED CARD OF 'laws.FnRecordChange'. -/
def fnRecordChangeCard : Claim7 := { stood := { row := fnRecordChangeRow, standIns := [], harness := (true, "64feda6c4b5a7484b2e04b36c4f4e429402cffdadeef17ef3c2c9e2966384869"), looks := true }, kinds := [], alts := [], laidByText := true, laidKinds := [.data, .data, .data, .data, .sentinel, .sentinel, .pinned], laidTests := true, laidLooks := .later }
def FnRecordChangeCardSaid : Prop := Claim7.holds Tryz.pinned (.plain (OpenSpec.ofChange fnRecordChangeSpec)) fnRecordChangeCard

/-- THE TIED CARD OF 'laws.FnReplay'. -/
def fnReplayCard : Claim7 := { stood := { row := fnReplayRow, standIns := [], harness := (true, "64feda6c4b5a7484b2e04b36c4f4e429402cffdadeef17ef3c2c9e2966384869"), looks := true }, kinds := [], alts := [], laidByText := true, laidKinds := [.data, .data, .data, .data, .sentinel, .sentinel, .pinned], laidTests := true, laidLooks := .later }
def FnReplayCardSaid : Prop := Claim7.holds Tryz.pinned (.plain (OpenSpec.ofChange fnReplaySpec)) fnReplayCard

/-- THE SECOND FORM's CARD OF 'laws.FnCrash'. -/
def fnCrashUptoCard : Claim7 := { stood := { row := fnCrashUptoRow, standIns := [], harness := (true, "64feda6c4b5a7484b2e04b36c4f4e429402cffdadeef17ef3c2c9e2966384869"), looks := true }, kinds := [], alts := [], laidByText := true, laidKinds := [.data, .data, .data, .data, .sentinel, .sentinel, .pinned], laidTests := true, laidLooks := .later }
def FnCrashUptoCardSaid : Prop := Claim7.holds Tryz.pinned (.plain (OpenSpec.upto fnCrashSpec)) fnCrashUptoCard

/-- THE SECOND FORM's CARD OF 'laws.FnRepairLog'. -/
def fnRepairLogUptoCard : Claim7 := { stood := { row := fnRepairLogUptoRow, standIns := [], harness := (true, "64feda6c4b5a7484b2e04b36c4f4e429402cffdadeef17ef3c2c9e2966384869"), looks := true }, kinds := [], alts := [], laidByText := true, laidKinds := [.data, .data, .data, .data, .sentinel, .sentinel, .pinned], laidTests := true, laidLooks := .later }
def FnRepairLogUptoCardSaid : Prop := Claim7.holds Tryz.pinned (.plain (OpenSpec.upto fnRepairLogSpec)) fnRepairLogUptoCard

/-- THE SECOND FORM's CARD OF 'laws.FnRecordChange'. -/
def fnRecordChangeUptoCard : Claim7 := { stood := { row := fnRecordChangeUptoRow, standIns := [], harness := (true, "64feda6c4b5a7484b2e04b36c4f4e429402cffdadeef17ef3c2c9e2966384869"), looks := true }, kinds := [], alts := [], laidByText := true, laidKinds := [.data, .data, .data, .data, .sentinel, .sentinel, .pinned], laidTests := true, laidLooks := .later }
def FnRecordChangeUptoCardSaid : Prop := Claim7.holds Tryz.pinned (.plain (OpenSpec.upto fnRecordChangeSpec)) fnRecordChangeUptoCard

/-- THE SECOND FORM's CARD OF 'laws.FnReplay'. -/
def fnReplayUptoCard : Claim7 := { stood := { row := fnReplayUptoRow, standIns := [], harness := (true, "64feda6c4b5a7484b2e04b36c4f4e429402cffdadeef17ef3c2c9e2966384869"), looks := true }, kinds := [], alts := [], laidByText := true, laidKinds := [.data, .data, .data, .data, .sentinel, .sentinel, .pinned], laidTests := true, laidLooks := .later }
def FnReplayUptoCardSaid : Prop := Claim7.holds Tryz.pinned (.plain (OpenSpec.upto fnReplaySpec)) fnReplayUptoCard
end Rows
end Go.Proofs.YtoedhpcmgondjaaGreatDoor
