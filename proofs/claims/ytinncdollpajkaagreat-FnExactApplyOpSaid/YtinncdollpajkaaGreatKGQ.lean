import Derived.Test.YtinncdollpajkaaGreatKGA
import Derived.Lib.Split
import Derived.Lib.CountLaws
import Derived.Lib.Bytealg
set_option linter.unusedVariables false
set_option linter.unusedSimpArgs false
namespace Go.Proofs.YtinncdollpajkaaGreat
open Go.RowKit
end Go.Proofs.YtinncdollpajkaaGreat
namespace Go.Proofs.YtinncdollpajkaaGreat
def cut (c : UInt8) : Bs → List Bs
  | [] => [[]]
  | x :: r => if x = c then [] :: cut c r else match cut c r with
    | [] => [[x]]
    | y :: ys => (x :: y) :: ys
end Go.Proofs.YtinncdollpajkaaGreat
