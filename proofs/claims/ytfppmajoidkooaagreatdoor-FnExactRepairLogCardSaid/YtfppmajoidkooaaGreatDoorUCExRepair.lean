import Derived.Test.YtfppmajoidkooaaGreatDoorUBExRepair
set_option linter.unusedVariables false
set_option linter.unusedSimpArgs false
namespace Go.Proofs.YtfppmajoidkooaaGreatDoor.cExactRepairLog
open Go.ChangeShapes Go.WideShapes Go.ChangeAt Go.RowKit
theorem card : Rows.FnExactRepairLogCardSaid :=
  Claim7.holds_tied_plain_at .later [] _ _ _ _ said (fun _ h => by cases h) kr (fun _ h => by cases h) fnExactRepairLog_row_tie rfl ⟨rfl, rfl⟩ kr rfl plain kr
end Go.Proofs.YtfppmajoidkooaaGreatDoor.cExactRepairLog
