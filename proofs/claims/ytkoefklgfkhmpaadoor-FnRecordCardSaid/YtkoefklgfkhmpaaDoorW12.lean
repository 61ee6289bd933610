/- The law of parities parsed. -/
import Derived.Test.YtkoefklgfkhmpaaDoorW11
namespace Go.Proofs.YtkoefklgfkhmpaaDoor
open Go.RowKit
set_option linter.unusedVariables false
set_option maxRecDepth 100000
attribute [local go_sem high] run_index_S binOp_eql_S binOp_neq_S append_S toList_S size_S run_slice_S run_slice_from_S run_slice_to_S wrap64_byteAt wrap64_byteAt_mul bits_or_bytes convU conv1_some convU2 conv2_some
theorem parsePar_len (t : Bs) : ((parsePar t).getD []).length ≤ 40 := by
  unfold parsePar
  split
  · simp
  · split
    · split
      · rename_i h
        unfold parOk at h
        simp only [Bool.and_eq_true, decide_eq_true_eq] at h
        exact h.1
      · simp
    · simp
end Go.Proofs.YtkoefklgfkhmpaaDoor
