/-
  DERIVED. GIVEN WITH THE SEED: THE CARDS: each row of YtghfniekcifolaaDoorRows.lean that lists a variable, with what it lists TIED to the program's text (the seventh form; the later family's looks); each row that meets fmt, with fmt's text TOLD by the authors' own Lean function (tested against real Go, not proved from fmt's source: count such statements apart). THE CARD IS WHAT COUNTS. Prove the row's statement (the work); the ties are given (YtghfniekcifolaaDoorTie.lean); close each card by the builder's one call (the guide's Derived/Test/ToyasCard.lean, 'card_holds'). Laid BY PROGRAM, IN A SANDBOX (cutbox-door.mjs). By AI agents, Wed Nov 11 2026. No macro, syntax, notation, axiom, sorry.
-/
import Derived.Test.YtghfniekcifolaaDoorRows
import GoSem.ClaimSeven
namespace Go.Proofs.YtghfniekcifolaaDoor
namespace Rows

/-- THE TIED CARD OF 'laws.FnExactFormatOp'. -/
def fnExactFormatOpCard : Claim7 := { stood := { row := fnExactFormatOpRow, standIns := [], harness := (true, "550434452fdbac99dcc12d78edf0078e5dac8f4a5f0eb6516a0b2a1cc95e130f"), looks := false }, kinds := [], alts := [], laidByText := true, laidKinds := [.data, .data, .data], laidTests := true, laidLooks := .later }
def FnExactFormatOpCardSaid : Prop := Claim7.holds Tryd.pinned (.plain (OpenSpec.ofChange fnExactFormatOpSpec)) fnExactFormatOpCard

/-- THE TIED CARD OF 'laws.FnExactLogRecord'. -/
def fnExactLogRecordCard : Claim7 := { stood := { row := fnExactLogRecordRow, standIns := [], harness := (true, "550434452fdbac99dcc12d78edf0078e5dac8f4a5f0eb6516a0b2a1cc95e130f"), looks := false }, kinds := [], alts := [], laidByText := true, laidKinds := [.data, .data, .data], laidTests := true, laidLooks := .later }
def FnExactLogRecordCardSaid : Prop := Claim7.holds Tryd.pinned (.plain (OpenSpec.ofChange fnExactLogRecordSpec)) fnExactLogRecordCard

/-- THE SECOND FORM's CARD OF 'laws.FnExactFormatOp'. -/
def fnExactFormatOpUptoCard : Claim7 := { stood := { row := fnExactFormatOpUptoRow, standIns := [], harness := (true, "550434452fdbac99dcc12d78edf0078e5dac8f4a5f0eb6516a0b2a1cc95e130f"), looks := false }, kinds := [], alts := [], laidByText := true, laidKinds := [.data, .data, .data], laidTests := true, laidLooks := .later }
def FnExactFormatOpUptoCardSaid : Prop := Claim7.holds Tryd.pinned (.plain (OpenSpec.upto fnExactFormatOpSpec)) fnExactFormatOpUptoCard

/-- THE SECOND FORM's CARD OF 'laws.FnExactLogRecord'. -/
def fnExactLogRecordUptoCard : Claim7 := { stood := { row := fnExactLogRecordUptoRow, standIns := [], harness := (true, "550434452fdbac99dcc12d78edf0078e5dac8f4a5f0eb6516a0b2a1cc95e130f"), looks := false }, kinds := [], alts := [], laidByText := true, laidKinds := [.data, .data, .data], laidTests := true, laidLooks := .later }
def FnExactLogRecordUptoCardSaid : Prop := Claim7.holds Tryd.pinned (.plain (OpenSpec.upto fnExactLogRecordSpec)) fnExactLogRecordUptoCard
end Rows
end Go.Proofs.YtghfniekcifolaaDoor
