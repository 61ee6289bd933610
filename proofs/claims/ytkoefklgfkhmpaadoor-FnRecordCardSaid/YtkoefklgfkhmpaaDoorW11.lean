/- Walks: lists of strings compared, marked and held; the law of parities parsed. -/
import Derived.Test.YtkoefklgfkhmpaaDoorW10
namespace Go.Proofs.YtkoefklgfkhmpaaDoor
open Go.RowKit
set_option linter.unusedVariables false
set_option maxRecDepth 100000
attribute [local go_sem high] run_index_S binOp_eql_S binOp_neq_S append_S toList_S size_S run_slice_S run_slice_from_S run_slice_to_S wrap64_byteAt wrap64_byteAt_mul bits_or_bytes convU conv1_some convU2 conv2_some
end Go.Proofs.YtkoefklgfkhmpaaDoor
