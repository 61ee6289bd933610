/-
  DERIVED. GIVEN WITH THE SEED: THE CARDS: each row of YtdpchkelbcndaaaDoorRows.lean that lists a variable, with what it lists TIED to the program's text (the seventh form; the later family's looks); each row that meets fmt, with fmt's text TOLD by the authors' own Lean function (tested against real Go, not proved from fmt's source: count such statements apart). THE CARD IS WHAT COUNTS. Prove the row's statement (the work); the ties are given (YtdpchkelbcndaaaDoorTie.lean); close each card by the builder's one call (the guide's Derived/Test/ToyasCard.lean, 'card_holds'). Laid BY PROGRAM, IN A SANDBOX (cutbox-door.mjs). By AI agents, Wed Nov 11 2026. No macro, syntax, notation, axiom, sorry.
-/
import Derived.Test.YtdpchkelbcndaaaDoorRows
import GoSem.ClaimSeven
namespace Go.Proofs.YtdpchkelbcndaaaDoor
namespace Rows

/-- THE TIED CARD OF 'laws.FnExactParseParity'. -/
def fnExactParseParityCard : Claim7 := { stood := { row := fnExactParseParityRow, standIns := [], harness := (true, "7a7549cc8fa8f7d7a4bbe2f4814587f4073b81e4fd955f84b90338544876c36a"), looks := true }, kinds := [], alts := [], laidByText := true, laidKinds := [.data, .pinned], laidTests := true, laidLooks := .later }
def FnExactParseParityCardSaid : Prop := Claim7.holds Tryd.pinned (.plain (OpenSpec.ofChange fnExactParseParitySpec)) fnExactParseParityCard

/-- THE TIED CARD OF 'laws.FnExactParseOp'. -/
def fnExactParseOpCard : Claim7 := { stood := { row := fnExactParseOpRow, standIns := [], harness := (true, "7a7549cc8fa8f7d7a4bbe2f4814587f4073b81e4fd955f84b90338544876c36a"), looks := true }, kinds := [], alts := [], laidByText := true, laidKinds := [.data, .data, .data, .data, .sentinel, .sentinel, .pinned], laidTests := true, laidLooks := .later }
def FnExactParseOpCardSaid : Prop := Claim7.holds Tryd.pinned (.plain (OpenSpec.ofChange fnExactParseOpSpec)) fnExactParseOpCard

/-- THE TIED CARD OF 'laws.FnExactReadRecord'. -/
def fnExactReadRecordCard : Claim7 := { stood := { row := fnExactReadRecordRow, standIns := [], harness := (true, "7a7549cc8fa8f7d7a4bbe2f4814587f4073b81e4fd955f84b90338544876c36a"), looks := true }, kinds := [], alts := [], laidByText := true, laidKinds := [.data, .data, .data, .data, .sentinel, .sentinel, .pinned], laidTests := true, laidLooks := .later }
def FnExactReadRecordCardSaid : Prop := Claim7.holds Tryd.pinned (.plain (OpenSpec.ofChange fnExactReadRecordSpec)) fnExactReadRecordCard

/-- THE SECOND FORM's CARD OF 'laws.FnExactParseParity'. -/
def fnExactParseParityUptoCard : Claim7 := { stood := { row := fnExactParseParityUptoRow, standIns := [], harness := (true, "7a7549cc8fa8f7d7a4bbe2f4814587f4073b81e4fd955f84b90338544876c36a"), looks := true }, kinds := [], alts := [], laidByText := true, laidKinds := [.data, .pinned], laidTests := true, laidLooks := .later }
def FnExactParseParityUptoCardSaid : Prop := Claim7.holds Tryd.pinned (.plain (OpenSpec.upto fnExactParseParitySpec)) fnExactParseParityUptoCard

/-- THE SECOND FORM's CARD OF 'laws.FnExactParseOp'. -/
def fnExactParseOpUptoCard : Claim7 := { stood := { row := fnExactParseOpUptoRow, standIns := [], harness := (true, "7a7549cc8fa8f7d7a4bbe2f4814587f4073b81e4fd955f84b90338544876c36a"), looks := true }, kinds := [], alts := [], laidByText := true, laidKinds := [.data, .data, .data, .data, .sentinel, .sentinel, .pinned], laidTests := true, laidLooks := .later }
def FnExactParseOpUptoCardSaid : Prop := Claim7.holds Tryd.pinned (.plain (OpenSpec.upto fnExactParseOpSpec)) fnExactParseOpUptoCard

/-- THE SECOND FORM's CARD OF 'laws.FnExactReadRecord'. -/
def fnExactReadRecordUptoCard : Claim7 := { stood := { row := fnExactReadRecordUptoRow, standIns := [], harness := (true, "7a7549cc8fa8f7d7a4bbe2f4814587f4073b81e4fd955f84b90338544876c36a"), looks := true }, kinds := [], alts := [], laidByText := true, laidKinds := [.data, .data, .data, .data, .sentinel, .sentinel, .pinned], laidTests := true, laidLooks := .later }
def FnExactReadRecordUptoCardSaid : Prop := Claim7.holds Tryd.pinned (.plain (OpenSpec.upto fnExactReadRecordSpec)) fnExactReadRecordUptoCard
end Rows
end Go.Proofs.YtdpchkelbcndaaaDoor
