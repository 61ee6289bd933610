import Derived.Test.YtfppmajoidkooaaGreatDoorUBReadRec
set_option linter.unusedVariables false
namespace Go.Proofs.YtfppmajoidkooaaGreatDoor.cReadRecord
open Go.ChangeShapes Go.WideShapes Go.ChangeAt Go.RowKit
set_option maxRecDepth 100000 in
theorem cw : Rows.fnReadRecordRow.wfByText (OpenSpec.ofChange Rows.fnReadRecordSpec) = true := by kernel_rfl
theorem cm : Tryz.pinned.checked.prog.mainIs = some (true, "11cad94a389e57e2f459282013a98f41d5c56da91c03e5af6c787173033b4358".toList) := by kernel_rfl
theorem cg : false = Rows.fnReadRecordRow.goesBy Tryz.pinned.checked.prog := by kernel_rfl
theorem card : Rows.FnReadRecordCardSaid :=
  Claim7.holds_tied_plain_at .later [] _ _ _ _ said (fun _ h => by cases h) cw (fun _ h => by cases h) fnReadRecord_row_tie rfl ⟨rfl, rfl⟩ cm rfl plain cg
end Go.Proofs.YtfppmajoidkooaaGreatDoor.cReadRecord
