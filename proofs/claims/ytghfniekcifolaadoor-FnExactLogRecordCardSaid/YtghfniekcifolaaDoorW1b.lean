/- Walks: is an operation valid; the law on it. -/
import Derived.Test.YtghfniekcifolaaDoorW1
namespace Go.Proofs.YtghfniekcifolaaDoor
open Go.RowKit
set_option linter.unusedVariables false
attribute [local go_sem high] run_index_S binOp_eql_S binOp_neq_S append_S toList_S size_S run_slice_S run_slice_from_S run_slice_to_S wrap64_byteAt wrap64_byteAt_mul bits_or_bytes convU conv1_some convU2 conv2_some
set_option maxHeartbeats 1000000 in
theorem opValid_any (k f t s : Int) (nm d : Bs) (w : World) (hn : nm.length ≤ 9223372036854775807) (hd : d.length ≤ 9223372036854775807) :
    Calls Tryd.prog 15 #[.agg #[.int .i64 k, .string ⟨nm.toArray⟩, .int .i64 f, .int .i64 t, .int .i64 s, .string ⟨d.toArray⟩]] w fun e w' => e = .returned (.bool (decide (opOk k nm f t s d))) ∧ Below w.heap.size w w' := by
  go_enter Tryd.func15, Tryd.ntmps15
  go_wp2_with (first | (go_at_call 25; refine (nameValid_any _ _ hn).mono ?_; rintro e w' ⟨rfl, rfl⟩) | (go_at_call 26; refine (sizeValid_any _ _).mono ?_; rintro e w' ⟨rfl, rfl⟩))
  all_goals go_ret
  all_goals refine ⟨ret_bool ?_, (Below.refl _ _).alloc (Nat.le_refl _) _⟩
  all_goals (rw [Bool.eq_iff_iff]; simp only [decide_eq_true_eq]; grind [opOk])
set_option maxHeartbeats 1000000 in
theorem sOpValid_any (k f t s : Int) (nm d : Bs) (w : World) (hn : nm.length ≤ 9223372036854775807) (hd : d.length ≤ 9223372036854775807) :
    Calls Tryd.prog 11 #[.agg #[.int .i64 k, .string ⟨nm.toArray⟩, .int .i64 f, .int .i64 t, .int .i64 s, .string ⟨d.toArray⟩]] w fun e w' => e = .returned (.bool (decide (opOk k nm f t s d))) ∧ Below w.heap.size w w' := by
  go_enter Tryd.func11, Tryd.ntmps11
  go_wp2_with (first | (go_at_call 22; refine (l8Name_any _ _ hn).mono ?_; rintro e w' ⟨rfl, rfl⟩) | (go_at_call 23; refine (l1In_any _ _ _ _).mono ?_; rintro e w' ⟨rfl, rfl⟩) | (go_at_call 24; refine (l6Range_any _ _ _ _).mono ?_; rintro e w' ⟨rfl, rfl⟩))
  all_goals go_ret
  all_goals refine ⟨ret_bool ?_, (Below.refl _ _).alloc (Nat.le_refl _) _⟩
  all_goals (rw [Bool.eq_iff_iff]; simp only [decide_eq_true_eq]; grind [opOk])
set_option maxHeartbeats 1000000 in
theorem szOp_any (k f t s : Int) (nm d : Bs) (w : World) (hn : nm.length ≤ 9223372036854775807) (hd : d.length ≤ 9223372036854775807) :
    Calls Tryd.prog 5 #[.agg #[.int .i64 k, .string ⟨nm.toArray⟩, .int .i64 f, .int .i64 t, .int .i64 s, .string ⟨d.toArray⟩], .int .i64 1048576] w fun e w' => (∃ r : Int, e = .returned (.int .i64 r) ∧ (0 ≤ r → nm.length ≤ 1048576 ∧ d.length ≤ 1048576)) ∧ Below w.heap.size w w' := by
  go_enter Tryd.func5, Tryd.ntmps5
  go_wp2
  all_goals go_ret
  all_goals refine ⟨⟨_, rfl, by intro h; first | (exfalso; omega) | omega⟩, (Below.refl _ _).alloc (Nat.le_refl _) _⟩
set_option maxHeartbeats 1000000 in
theorem toOp_any (k f t s : Int) (nm d : Bs) (w : World) :
    Calls Tryd.prog 7 #[.agg #[.int .i64 k, .string ⟨nm.toArray⟩, .int .i64 f, .int .i64 t, .int .i64 s, .string ⟨d.toArray⟩]] w fun e w' => e = .returned (.agg #[.int .i64 k, .string ⟨nm.toArray⟩, .int .i64 f, .int .i64 t, .int .i64 s, .string ⟨d.toArray⟩]) ∧ Below w.heap.size w w' := by
  go_enter Tryd.func7, Tryd.ntmps7
  go_wp2
  exact bodyPost_ret (v := .agg #[.int .i64 k, .string ⟨nm.toArray⟩, .int .i64 f, .int .i64 t, .int .i64 s, .string ⟨d.toArray⟩]) (by simp [results, Tryd.results7, go_sem]) rfl ⟨rfl, (by repeat (first | (with_reducible exact Below.refl _ _) | (with_reducible assumption) | (with_reducible refine Below.drew ?_) | (with_reducible refine Below.alloc ?_ (by first | omega | (simp <;> omega)) _) | (with_reducible refine Below.setCell ?_ (by first | omega | (simp <;> omega)) _) | (with_reducible refine belowN ?_ _)))⟩
end Go.Proofs.YtghfniekcifolaaDoor
