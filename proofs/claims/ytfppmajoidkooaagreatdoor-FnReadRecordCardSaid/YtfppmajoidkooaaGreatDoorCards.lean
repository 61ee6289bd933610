/-
  DERIVED. GIVEN WITH THE SEED: THE CARDS: each row of YtfppmajoidkooaaGreatDoorRows.lean that lists a variable, with what it lists TIED to the program's text (the seventh form; the later family's looks); each row that meets fmt, with fmt's text TOLD by the authors' own Lean function (tested against real Go, not proved from fmt's source: count such statements apart). THE CARD IS WHAT COUNTS. Prove the row's statement (the work); the ties are given (YtfppmajoidkooaaGreatDoorTie.lean); close each card by the builder's one call (the guide's Derived/Test/ToyasCard.lean, 'card_holds'). Laid BY PROGRAM, IN A SANDBOX (cutbox-door.mjs). By AI agents, Wed Nov 11 2026. No macro, syntax, notation, axiom, sorry.
-/
import Derived.Test.YtfppmajoidkooaaGreatDoorRows
import GoSem.ClaimSeven
namespace Go.Proofs.YtfppmajoidkooaaGreatDoor
namespace Rows

/-- THE TIED CARD OF 'laws.FnReadRecord'. -/
def fnReadRecordCard : Claim7 := { stood := { row := fnReadRecordRow, standIns := [], harness := (true, "11cad94a389e57e2f459282013a98f41d5c56da91c03e5af6c787173033b4358"), looks := true }, kinds := [], alts := [], laidByText := true, laidKinds := [.data, .data, .data, .data, .sentinel, .sentinel, .pinned], laidTests := true, laidLooks := .later }
def FnReadRecordCardSaid : Prop := Claim7.holds Tryz.pinned (.plain (OpenSpec.ofChange fnReadRecordSpec)) fnReadRecordCard

/-- THE TIED CARD OF 'laws.FnExactCompactLog'. -/
def fnExactCompactLogCard : Claim7 := { stood := { row := fnExactCompactLogRow, standIns := [], harness := (true, "11cad94a389e57e2f459282013a98f41d5c56da91c03e5af6c787173033b4358"), looks := true }, kinds := [], alts := [], laidByText := true, laidKinds := [.data, .data, .data], laidTests := true, laidLooks := .later }
def FnExactCompactLogCardSaid : Prop := Claim7.holds Tryz.pinned (.plain (OpenSpec.ofChange fnExactCompactLogSpec)) fnExactCompactLogCard

/-- THE TIED CARD OF 'laws.FnExactRepairLog'. -/
def fnExactRepairLogCard : Claim7 := { stood := { row := fnExactRepairLogRow, standIns := [], harness := (true, "11cad94a389e57e2f459282013a98f41d5c56da91c03e5af6c787173033b4358"), looks := true }, kinds := [], alts := [], laidByText := true, laidKinds := [.data, .data, .data, .data, .sentinel, .sentinel, .pinned], laidTests := true, laidLooks := .later }
def FnExactRepairLogCardSaid : Prop := Claim7.holds Tryz.pinned (.plain (OpenSpec.ofChange fnExactRepairLogSpec)) fnExactRepairLogCard

/-- THE TIED CARD OF 'laws.FnExactReplayLog'. -/
def fnExactReplayLogCard : Claim7 := { stood := { row := fnExactReplayLogRow, standIns := [], harness := (true, "11cad94a389e57e2f459282013a98f41d5c56da91c03e5af6c787173033b4358"), looks := true }, kinds := [], alts := [], laidByText := true, laidKinds := [.data, .data, .data, .data, .sentinel, .sentinel, .pinned], laidTests := true, laidLooks := .later }
def FnExactReplayLogCardSaid : Prop := Claim7.holds Tryz.pinned (.plain (OpenSpec.ofChange fnExactReplayLogSpec)) fnExactReplayLogCard

/-- THE TIED CARD OF 'laws.FnExactAppendLog'. -/
def fnExactAppendLogCard : Claim7 := { stood := { row := fnExactAppendLogRow, standIns := [], harness := (true, "11cad94a389e57e2f459282013a98f41d5c56da91c03e5af6c787173033b4358"), looks := true }, kinds := [], alts := [], laidByText := true, laidKinds := [.data, .data, .data, .data, .sentinel, .sentinel, .pinned], laidTests := true, laidLooks := .later }
def FnExactAppendLogCardSaid : Prop := Claim7.holds Tryz.pinned (.plain (OpenSpec.ofChange fnExactAppendLogSpec)) fnExactAppendLogCard

/-- THE TIED CARD OF 'laws.FnCrash'. -/
def fnCrashCard : Claim7 := { stood := { row := fnCrashRow, standIns := [], harness := (true, "11cad94a389e57e2f459282013a98f41d5c56da91c03e5af6c787173033b4358"), looks := true }, kinds := [], alts := [], laidByText := true, laidKinds := [.data, .data, .data, .data, .sentinel, .sentinel, .pinned], laidTests := true, laidLooks := .later }
def FnCrashCardSaid : Prop := Claim7.holds Tryz.pinned (.plain (OpenSpec.ofChange fnCrashSpec)) fnCrashCard

/-- THE TIED CARD OF 'laws.FnRepairLog'. -/
def fnRepairLogCard : Claim7 := { stood := { row := fnRepairLogRow, standIns := [], harness := (true, "11cad94a389e57e2f459282013a98f41d5c56da91c03e5af6c787173033b4358"), looks := true }, kinds := [], alts := [], laidByText := true, laidKinds := [.data, .data, .data, .data, .sentinel, .sentinel, .pinned], laidTests := true, laidLooks := .later }
def FnRepairLogCardSaid : Prop := Claim7.holds Tryz.pinned (.plain (OpenSpec.ofChange fnRepairLogSpec)) fnRepairLogCard

/-- THE TIED CARD OF 'laws.FnRecordChange'. -/
def fnRecordChangeCard : Claim7 := { stood := { row := fnRecordChangeRow, standIns := [], harness := (true, "11cad94a389e57e2f459282013a98f41d5c56da91c03e5af6c787173033b4358"), looks := true }, kinds := [], alts := [], laidByText := true, laidKinds := [.data, .data, .data, .data, .sentinel, .sentinel, .pinned], laidTests := true, laidLooks := .later }
def FnRecordChangeCardSaid : Prop := Claim7.holds Tryz.pinned (.plain (OpenSpec.ofChange fnRecordChangeSpec)) fnRecordChangeCard

/-- THE TIED CARD OF 'laws.FnReplay'. -/
def fnReplayCard : Claim7 := { stood := { row := fnReplayRow, standIns := [], harness := (true, "11cad94a389e57e2f459282013a98f41d5c56da91c03e5af6c787173033b4358"), looks := true }, kinds := [], alts := [], laidByText := true, laidKinds := [.data, .data, .data, .data, .sentinel, .sentinel, .pinned], laidTests := true, laidLooks := .later }
def FnReplayCardSaid : Prop := Claim7.holds Tryz.pinned (.plain (OpenSpec.ofChange fnReplaySpec)) fnReplayCard

/-- THE SECOND FORM's CARD OF 'laws.FnReadRecord'. -/
def fnReadRecordUptoCard : Claim7 := { stood := { row := fnReadRecordUptoRow, standIns := [], harness := (true, "11cad94a389e57e2f459282013a98f41d5c56da91c03e5af6c787173033b4358"), looks := true }, kinds := [], alts := [], laidByText := true, laidKinds := [.data, .data, .data, .data, .sentinel, .sentinel, .pinned], laidTests := true, laidLooks := .later }
def FnReadRecordUptoCardSaid : Prop := Claim7.holds Tryz.pinned (.plain (OpenSpec.upto fnReadRecordSpec)) fnReadRecordUptoCard

/-- THE SECOND FORM's CARD OF 'laws.FnExactCompactLog'. -/
def fnExactCompactLogUptoCard : Claim7 := { stood := { row := fnExactCompactLogUptoRow, standIns := [], harness := (true, "11cad94a389e57e2f459282013a98f41d5c56da91c03e5af6c787173033b4358"), looks := true }, kinds := [], alts := [], laidByText := true, laidKinds := [.data, .data, .data], laidTests := true, laidLooks := .later }
def FnExactCompactLogUptoCardSaid : Prop := Claim7.holds Tryz.pinned (.plain (OpenSpec.upto fnExactCompactLogSpec)) fnExactCompactLogUptoCard

/-- THE SECOND FORM's CARD OF 'laws.FnExactRepairLog'. -/
def fnExactRepairLogUptoCard : Claim7 := { stood := { row := fnExactRepairLogUptoRow, standIns := [], harness := (true, "11cad94a389e57e2f459282013a98f41d5c56da91c03e5af6c787173033b4358"), looks := true }, kinds := [], alts := [], laidByText := true, laidKinds := [.data, .data, .data, .data, .sentinel, .sentinel, .pinned], laidTests := true, laidLooks := .later }
def FnExactRepairLogUptoCardSaid : Prop := Claim7.holds Tryz.pinned (.plain (OpenSpec.upto fnExactRepairLogSpec)) fnExactRepairLogUptoCard

/-- THE SECOND FORM's CARD OF 'laws.FnExactReplayLog'. -/
def fnExactReplayLogUptoCard : Claim7 := { stood := { row := fnExactReplayLogUptoRow, standIns := [], harness := (true, "11cad94a389e57e2f459282013a98f41d5c56da91c03e5af6c787173033b4358"), looks := true }, kinds := [], alts := [], laidByText := true, laidKinds := [.data, .data, .data, .data, .sentinel, .sentinel, .pinned], laidTests := true, laidLooks := .later }
def FnExactReplayLogUptoCardSaid : Prop := Claim7.holds Tryz.pinned (.plain (OpenSpec.upto fnExactReplayLogSpec)) fnExactReplayLogUptoCard

/-- THE SECOND FORM's CARD OF 'laws.FnExactAppendLog'. -/
def fnExactAppendLogUptoCard : Claim7 := { stood := { row := fnExactAppendLogUptoRow, standIns := [], harness := (true, "11cad94a389e57e2f459282013a98f41d5c56da91c03e5af6c787173033b4358"), looks := true }, kinds := [], alts := [], laidByText := true, laidKinds := [.data, .data, .data, .data, .sentinel, .sentinel, .pinned], laidTests := true, laidLooks := .later }
def FnExactAppendLogUptoCardSaid : Prop := Claim7.holds Tryz.pinned (.plain (OpenSpec.upto fnExactAppendLogSpec)) fnExactAppendLogUptoCard

/-- THE SECOND FORM's CARD OF 'laws.FnCrash'. -/
def fnCrashUptoCard : Claim7 := { stood := { row := fnCrashUptoRow, standIns := [], harness := (true, "11cad94a389e57e2f459282013a98f41d5c56da91c03e5af6c787173033b4358"), looks := true }, kinds := [], alts := [], laidByText := true, laidKinds := [.data, .data, .data, .data, .sentinel, .sentinel, .pinned], laidTests := true, laidLooks := .later }
def FnCrashUptoCardSaid : Prop := Claim7.holds Tryz.pinned (.plain (OpenSpec.upto fnCrashSpec)) fnCrashUptoCard

/-- THE SECOND FORM's CARD OF 'laws.FnRepairLog'. -/
def fnRepairLogUptoCard : Claim7 := { stood := { row := fnRepairLogUptoRow, standIns := [], harness := (true, "11cad94a389e57e2f459282013a98f41d5c56da91c03e5af6c787173033b4358"), looks := true }, kinds := [], alts := [], laidByText := true, laidKinds := [.data, .data, .data, .data, .sentinel, .sentinel, .pinned], laidTests := true, laidLooks := .later }
def FnRepairLogUptoCardSaid : Prop := Claim7.holds Tryz.pinned (.plain (OpenSpec.upto fnRepairLogSpec)) fnRepairLogUptoCard

/-- THE SECOND FORM's CARD OF 'laws.FnRecordChange'. -/
def fnRecordChangeUptoCard : Claim7 := { stood := { row := fnRecordChangeUptoRow, standIns := [], harness := (true, "11cad94a389e57e2f459282013a98f41d5c56da91c03e5af6c787173033b4358"), looks := true }, kinds := [], alts := [], laidByText := true, laidKinds := [.data, .data, .data, .data, .sentinel, .sentinel, .pinned], laidTests := true, laidLooks := .later }
def FnRecordChangeUptoCardSaid : Prop := Claim7.holds Tryz.pinned (.plain (OpenSpec.upto fnRecordChangeSpec)) fnRecordChangeUptoCard

/-- THE SECOND FORM's CARD OF 'laws.FnReplay'. -/
def fnReplayUptoCard : Claim7 := { stood := { row := fnReplayUptoRow, standIns := [], harness := (true, "11cad94a389e57e2f459282013a98f41d5c56da91c03e5af6c787173033b4358"), looks := true }, kinds := [], alts := [], laidByText := true, laidKinds := [.data, .data, .data, .data, .sentinel, .sentinel, .pinned], laidTests := true, laidLooks := .later }
def FnReplayUptoCardSaid : Prop := Claim7.holds Tryz.pinned (.plain (OpenSpec.upto fnReplaySpec)) fnReplayUptoCard
end Rows
end Go.Proofs.YtfppmajoidkooaaGreatDoor
