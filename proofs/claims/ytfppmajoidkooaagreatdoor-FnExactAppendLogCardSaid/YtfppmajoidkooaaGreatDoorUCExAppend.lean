import Derived.Test.YtfppmajoidkooaaGreatDoorUBExAppend
set_option linter.unusedVariables false
set_option linter.unusedSimpArgs false
namespace Go.Proofs.YtfppmajoidkooaaGreatDoor.cExactAppendLog
open Go.ChangeShapes Go.WideShapes Go.ChangeAt Go.RowKit
set_option maxRecDepth 100000 in
theorem cw : Rows.fnExactAppendLogRow.wfByText (OpenSpec.ofChange Rows.fnExactAppendLogSpec) = true := by kernel_rfl
theorem cm : Tryz.pinned.checked.prog.mainIs = some (true, "11cad94a389e57e2f459282013a98f41d5c56da91c03e5af6c787173033b4358".toList) := by kernel_rfl
theorem cg : false = Rows.fnExactAppendLogRow.goesBy Tryz.pinned.checked.prog := by kernel_rfl
theorem card : Rows.FnExactAppendLogCardSaid :=
  Claim7.holds_tied_plain_at .later [] _ _ _ _ said (fun _ h => by cases h) cw (fun _ h => by cases h) fnExactAppendLog_row_tie rfl ⟨rfl, rfl⟩ cm rfl plain cg
end Go.Proofs.YtfppmajoidkooaaGreatDoor.cExactAppendLog
