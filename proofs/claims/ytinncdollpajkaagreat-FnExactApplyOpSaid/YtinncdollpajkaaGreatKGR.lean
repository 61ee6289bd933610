import Derived.Test.YtinncdollpajkaaGreatKGQ
import Derived.Lib.ItoaNum
import Derived.Lib.Atoi
import Derived.Lib.AtoiTie
set_option linter.unusedVariables false
set_option linter.unusedSimpArgs false
namespace Go.Proofs.YtinncdollpajkaaGreat
theorem Zp {l : Bs} (h : wO l = true) : 1 ≤ l.length ∧ l.length ≤ 8 := by
 rw [wO, Bool.and_eq_true, decide_eq_true_eq] at h; exact h.1
end Go.Proofs.YtinncdollpajkaaGreat
namespace Go.Proofs.YtinncdollpajkaaGreat
open Go.RowKit
structure OpR where
 k : Int
 f : Int
 t : Int
 s : Int
 nm : Bs
 d : Bs
def OpR.ok (x : OpR) : Prop := lJ x.k x.nm x.f x.t x.s x.d
instance (x : OpR) : Decidable x.ok := by unfold OpR.ok; infer_instance
end Go.Proofs.YtinncdollpajkaaGreat
