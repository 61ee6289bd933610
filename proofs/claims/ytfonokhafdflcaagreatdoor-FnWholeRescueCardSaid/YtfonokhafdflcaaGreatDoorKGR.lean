import Derived.Test.YtfonokhafdflcaaGreatDoorKGQ
import Derived.Lib.ItoaNum
import Derived.Lib.Atoi
import Derived.Lib.AtoiTie
namespace Go.Proofs.YtfonokhafdflcaaGreatDoor
end Go.Proofs.YtfonokhafdflcaaGreatDoor
namespace Go.Proofs.YtfonokhafdflcaaGreatDoor
open Go.RowKit
structure OpR where
 k : Int
 f : Int
 t : Int
 s : Int
 nm : Bs
 d : Bs
def OpR.ok (x : OpR) : Prop := opOk x.k x.nm x.f x.t x.s x.d
instance (x : OpR) : Decidable x.ok := by unfold OpR.ok; infer_instance
end Go.Proofs.YtfonokhafdflcaaGreatDoor
