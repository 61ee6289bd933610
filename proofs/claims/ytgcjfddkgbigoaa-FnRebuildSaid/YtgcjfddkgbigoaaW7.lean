/- Walks: a text cut at a byte. -/
import Derived.Test.YtgcjfddkgbigoaaGA
import Derived.Test.YtgcjfddkgbigoaaGQ
namespace Go.Proofs.Ytgcjfddkgbigoaa
open Go.RowKit
set_option linter.unusedVariables false
set_option maxRecDepth 100000
attribute [local go_sem high] run_index_S binOp_eql_S binOp_neq_S append_S toList_S size_S run_slice_S run_slice_from_S run_slice_to_S wrap64_byteAt wrap64_byteAt_mul bits_or_bytes convU conv1_some convU2 conv2_some
end Go.Proofs.Ytgcjfddkgbigoaa
