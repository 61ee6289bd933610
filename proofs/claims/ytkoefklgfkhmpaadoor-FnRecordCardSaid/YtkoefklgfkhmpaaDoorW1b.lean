/- Walks: is an operation valid; the law on it. -/
import Derived.Test.YtkoefklgfkhmpaaDoorW1
namespace Go.Proofs.YtkoefklgfkhmpaaDoor
open Go.RowKit
set_option linter.unusedVariables false
attribute [local go_sem high] run_index_S binOp_eql_S binOp_neq_S append_S toList_S size_S run_slice_S run_slice_from_S run_slice_to_S wrap64_byteAt wrap64_byteAt_mul bits_or_bytes convU conv1_some convU2 conv2_some
set_option maxHeartbeats 1000000 in
theorem opValid_any (k f t s : Int) (nm d : Bs) (w : World) (hn : nm.length ≤ 9223372036854775807) (hd : d.length ≤ 9223372036854775807) :
    Calls Tryd.prog 8 #[.agg #[.int .i64 k, .string ⟨nm.toArray⟩, .int .i64 f, .int .i64 t, .int .i64 s, .string ⟨d.toArray⟩]] w fun e w' => e = .returned (.bool (decide (opOk k nm f t s d))) ∧ Below w.heap.size w w' := by
  go_enter Tryd.func8, Tryd.ntmps8
  go_wp2_with (first | (go_at_call 22; refine (nameValid_any _ _ hn).mono ?_; rintro e w' ⟨rfl, rfl⟩) | (go_at_call 23; refine (sizeValid_any _ _).mono ?_; rintro e w' ⟨rfl, rfl⟩))
  all_goals go_ret
  all_goals refine ⟨ret_bool ?_, (Below.refl _ _).alloc (Nat.le_refl _) _⟩
  all_goals (rw [Bool.eq_iff_iff]; simp only [decide_eq_true_eq]; grind [opOk])
set_option maxHeartbeats 1000000 in
theorem sOpValid_any (k f t s : Int) (nm d : Bs) (w : World) (hn : nm.length ≤ 9223372036854775807) (hd : d.length ≤ 9223372036854775807) :
    Calls Tryd.prog 20 #[.agg #[.int .i64 k, .string ⟨nm.toArray⟩, .int .i64 f, .int .i64 t, .int .i64 s, .string ⟨d.toArray⟩]] w fun e w' => e = .returned (.bool (decide (opOk k nm f t s d))) ∧ Below w.heap.size w w' := by
  go_enter Tryd.func20, Tryd.ntmps20
  go_wp2_with (first | (go_at_call 43; refine (l8Name_any _ _ hn).mono ?_; rintro e w' ⟨rfl, rfl⟩) | (go_at_call 44; refine (l1In_any _ _ _ _).mono ?_; rintro e w' ⟨rfl, rfl⟩) | (go_at_call 45; refine (l6Range_any _ _ _ _).mono ?_; rintro e w' ⟨rfl, rfl⟩))
  all_goals go_ret
  all_goals refine ⟨ret_bool ?_, (Below.refl _ _).alloc (Nat.le_refl _) _⟩
  all_goals (rw [Bool.eq_iff_iff]; simp only [decide_eq_true_eq]; grind [opOk])
end Go.Proofs.YtkoefklgfkhmpaaDoor
