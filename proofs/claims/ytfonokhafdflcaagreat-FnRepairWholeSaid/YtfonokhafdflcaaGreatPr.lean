/- Pieces in a row of their own. -/
import Derived.Test.YtfonokhafdflcaaGreatGU1
namespace Go.Proofs.YtfonokhafdflcaaGreat
open Go.RowKit
set_option linter.unusedVariables false
set_option linter.unusedSimpArgs false
set_option maxRecDepth 100000
attribute [local go_sem high] run_index_S binOp_eql_S binOp_neq_S append_S toList_S size_S run_slice_S run_slice_from_S run_slice_to_S wrap64_byteAt wrap64_byteAt_mul bits_or_bytes convU conv1_some convU2 conv2_some
/-- It returns pieces in a row of its own. -/
def PcRes (ps : List Pc) (w : World) (e : Ending) (w' : World) : Prop := ∃ A cap, e = .returned (.slice A ps.length cap) ∧ w'.ownsRow w.heap.size 84 2 (.slice A ps.length cap) ps.length (pcsV ps) ∧ Below w.heap.size w w'
theorem info_piece : (Tryz.prog.info? 84).map (fun i => (i.zero, i.size, i.bytes)) = some (some (.agg #[.int .i64 0, .string ⟨#[]⟩]), 2, 24) := by kernel_rfl
end Go.Proofs.YtfonokhafdflcaaGreat
