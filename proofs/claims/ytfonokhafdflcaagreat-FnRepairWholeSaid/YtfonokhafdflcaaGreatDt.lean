/- Plain: the data of a block. -/
import Derived.Test.YtfonokhafdflcaaGreatGT
import Derived.Test.YtfonokhafdflcaaGreatGP1
namespace Go.Proofs.YtfonokhafdflcaaGreat
open Go.RowKit
set_option linter.unusedVariables false
set_option linter.unusedSimpArgs false
set_option maxRecDepth 100000
/-- The data of a block. -/
def Blk.dat (K : Kn) (b : Blk) : Option Bs :=
  if b.raw = true then some b.body else
  if (decU K b.body).2.1 ≠ 0 ∨ (decU K b.body).2.2 ≠ b.body.length ∨ ((decU K b.body).1.length : Int) ≠ b.size then none else some (decU K b.body).1
def datRes (o : Option Bs) : Ending := .returned (.tuple #[sv (o.getD []), .bool o.isSome])
end Go.Proofs.YtfonokhafdflcaaGreat
