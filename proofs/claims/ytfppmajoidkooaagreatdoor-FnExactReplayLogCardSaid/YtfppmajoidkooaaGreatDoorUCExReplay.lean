import Derived.Test.YtfppmajoidkooaaGreatDoorUBExReplay
set_option linter.unusedVariables false
set_option linter.unusedSimpArgs false
namespace Go.Proofs.YtfppmajoidkooaaGreatDoor.cExactReplayLog
open Go.ChangeShapes Go.WideShapes Go.ChangeAt Go.RowKit
theorem card : Rows.FnExactReplayLogCardSaid :=
  Claim7.holds_tied_plain_at .later [] _ _ _ _ said (fun _ h => by cases h) kr (fun _ h => by cases h) fnExactReplayLog_row_tie rfl ⟨rfl, rfl⟩ kr rfl plain kr
end Go.Proofs.YtfppmajoidkooaaGreatDoor.cExactReplayLog
