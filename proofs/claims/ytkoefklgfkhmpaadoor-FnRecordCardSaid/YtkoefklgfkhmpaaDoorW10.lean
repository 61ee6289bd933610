/- Walks: parities parsed. -/
import Derived.Test.YtkoefklgfkhmpaaDoorW9
import Derived.Test.YtkoefklgfkhmpaaDoorAp
namespace Go.Proofs.YtkoefklgfkhmpaaDoor
open Go.RowKit
set_option linter.unusedVariables false
set_option maxRecDepth 100000
attribute [local go_sem high] run_index_S binOp_eql_S binOp_neq_S append_S toList_S size_S run_slice_S run_slice_from_S run_slice_to_S wrap64_byteAt wrap64_byteAt_mul bits_or_bytes convU conv1_some convU2 conv2_some
/-- A slice of strings and whether it is fine; the strings in a row of the call's own. -/
def ParRes (o : Option (List Bs)) (w : World) (e : Ending) (w' : World) : Prop :=
  ∃ A cap, e = .returned (.tuple #[.slice A (o.getD []).length cap, .bool o.isSome]) ∧ w'.ownsRow w.heap.size 9 1 (.slice A (o.getD []).length cap) (o.getD []).length ((o.getD []).map sv) ∧ Below w.heap.size w w'
theorem own_nil (w : World) (B : Nat) (e : TypeId) (size : Nat) : w.ownsRow B e size (.slice none 0 0) 0 [] := ⟨by simp, .inl ⟨rfl, rfl⟩⟩
theorem split_any (c : UInt8) (t : Bs) (m : Int) (w : World) (hs : t.length ≤ 4000000) (hm : w.cell? ⟨1, 0, none⟩ = some (.int .i64 m)) :
    Calls Tryd.prog 32 #[.string ⟨t.toArray⟩, .string ⟨#[c]⟩] w fun e w' => e = .returned (.slice (some ⟨w.heap.size, 0, none⟩) (cut c t).length (cut c t).length) ∧ w' = w.alloc (.cells ((cut c t).map sv).toArray 9) := by
  have h := Tryd.strings_Split ⟨t.toArray⟩ ⟨#[c]⟩ m w (by rw [size_S]; omega) hm (by simp [ByteArray.size])
  rw [split_cut] at h
  have e : Lib.countB ⟨t.toArray⟩ ⟨#[c]⟩ + 1 = (cut c t).length := by
    have := split_count c t.length t (Nat.le_refl _)
    simpa [Lib.countB] using this
  rw [e] at h
  exact h
end Go.Proofs.YtkoefklgfkhmpaaDoor
