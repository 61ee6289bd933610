import Derived.Test.YtoedhpcmgondjaaGreatDoorYBCrash
set_option linter.unusedVariables false
set_option linter.unusedSimpArgs false
namespace Go.Proofs.YtoedhpcmgondjaaGreatDoor.cCrash
open Go.ChangeShapes Go.WideShapes Go.ChangeAt Go.RowKit
set_option maxRecDepth 100000 in
theorem cw : Rows.fnCrashRow.wfByText (OpenSpec.ofChange Rows.fnCrashSpec) = true := by kernel_rfl
theorem cm : Tryz.pinned.checked.prog.mainIs = some (true, "64feda6c4b5a7484b2e04b36c4f4e429402cffdadeef17ef3c2c9e2966384869".toList) := by kernel_rfl
theorem cg : false = Rows.fnCrashRow.goesBy Tryz.pinned.checked.prog := by kernel_rfl
theorem card : Rows.FnCrashCardSaid :=
  Claim7.holds_tied_plain_at .later [] _ _ _ _ said (fun _ h => by cases h) cw (fun _ h => by cases h) fnCrash_row_tie rfl ⟨rfl, rfl⟩ cm rfl plain cg
end Go.Proofs.YtoedhpcmgondjaaGreatDoor.cCrash
