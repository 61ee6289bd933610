/- Walks: names and operations. -/
import Derived.Test.YtkoefklgfkhmpaaDoorPlain
namespace Go.Proofs.YtkoefklgfkhmpaaDoor
open Go.RowKit
set_option linter.unusedVariables false
attribute [local go_sem high] run_index_S binOp_eql_S binOp_neq_S append_S toList_S size_S run_slice_S run_slice_from_S run_slice_to_S wrap64_byteAt wrap64_byteAt_mul bits_or_bytes convU conv1_some convU2 conv2_some
set_option maxHeartbeats 400000 in
theorem nameValid_any (l : Bs) (w : World) (hs : l.length ≤ 9223372036854775807) :
    Calls Tryd.prog 22 #[.string ⟨l.toArray⟩] w fun e w' => e = .returned (.bool (nameV l)) ∧ w = w' := by
  go_enter Tryd.func22, Tryd.ntmps22
  go_wp2
  · go_ret
    refine ⟨ret_bool ?_, rfl⟩
    rw [eq_comm, nameV, Bool.and_eq_false_iff]; left; simp; omega
  · go_loop [14] (fun k => ∃ n : Nat, n ≤ l.length ∧ k = .int .i64 n ∧ (l.take n).all nameB = true) (fun k => l.length - (intOf k).toNat)
    case atStart => exact ⟨0, Nat.zero_le _, rfl, rfl⟩
    case round =>
      obtain ⟨k, hk, rfl, hx⟩ := hrel
      have HX := Go.Lib.hid hx
      clear hx
      by_cases hlt : k < l.length
      · have HN := Go.Lib.hid (nameB_iff l k hlt)
        have HS := Go.Lib.hid (all_take_snoc nameB l k hlt)
        have hc1 := byteAt_nonneg l k
        have hc2 := byteAt_le l k
        by_cases hb : 97 ≤ byteAt l k ∧ byteAt l k ≤ 122
        · obtain ⟨hb1, hb2⟩ := hb
          go_wp2
          go_round
          case rel => exact ⟨k + 1, by omega, by go_num, by rw [HS.out, HX.out, HN.out]; simp; omega⟩
          case measure => simp [intOf]; omega
        · by_cases hb1 : byteAt l k < 97
          all_goals
            go_wp2
            go_ret
            refine ⟨ret_bool ?_, rfl⟩
            rw [eq_comm, nameV, Bool.and_eq_false_iff]; right
            exact all_false_of nameB l k hlt (by rw [HN.out]; simp; omega)
      · go_wp2
        go_ret
        refine ⟨ret_bool ?_, rfl⟩
        have e : l.take k = l := List.take_of_length_le (by omega)
        have HX2 := HX.out
        rw [e] at HX2
        rw [eq_comm, nameV, HX2]; simp; omega
  · go_ret
    refine ⟨ret_bool ?_, rfl⟩
    rw [eq_comm, nameV, Bool.and_eq_false_iff]; left; simp; omega
theorem l1In_any (a b c : Int) (w : World) :
    Calls Tryd.prog 44 #[.int .i64 a, .int .i64 b, .int .i64 c] w fun e w' => e = .returned (.bool (decide (b ≤ a ∧ a ≤ c))) ∧ w = w' := by
  go_enter Tryd.func44, Tryd.ntmps44
  by_cases h : b ≤ a
  all_goals
    go_wp2
    all_goals
      go_ret
      exact ⟨ret_bool (by rw [Bool.eq_iff_iff]; simp; omega), rfl⟩
set_option maxHeartbeats 400000 in
theorem l8Name_any (l : Bs) (w : World) (hs : l.length ≤ 9223372036854775807) :
    Calls Tryd.prog 43 #[.string ⟨l.toArray⟩] w fun e w' => e = .returned (.bool (nameV l)) ∧ w = w' := by
  go_enter Tryd.func43, Tryd.ntmps43
  go_wp2
  go_loop [3] (fun k => ∃ n : Nat, n ≤ l.length ∧ k = .int .i64 n ∧ (l.take n).all nameB = true) (fun k => l.length - (intOf k).toNat)
  case atStart => exact ⟨0, Nat.zero_le _, rfl, rfl⟩
  case round =>
    obtain ⟨k, hk, rfl, hx⟩ := hrel
    have HX := Go.Lib.hid hx
    clear hx
    by_cases hlt : k < l.length
    · have HN := Go.Lib.hid (nameB_iff l k hlt)
      have HS := Go.Lib.hid (all_take_snoc nameB l k hlt)
      have hc1 := byteAt_nonneg l k
      have hc2 := byteAt_le l k
      by_cases hb : 97 ≤ byteAt l k ∧ byteAt l k ≤ 122
      · obtain ⟨hb1, hb2⟩ := hb
        go_wp2
        go_round
        case rel => exact ⟨k + 1, by omega, by go_num, by rw [HS.out, HX.out, HN.out]; simp; omega⟩
        case measure => simp [intOf]; omega
      · by_cases hb1 : byteAt l k < 97
        all_goals
          go_wp2
          go_ret
          refine ⟨ret_bool ?_, rfl⟩
          rw [eq_comm, nameV, Bool.and_eq_false_iff]; right
          exact all_false_of nameB l k hlt (by rw [HN.out]; simp; omega)
    · go_wp2_with (go_at_call 44; refine (l1In_any _ _ _ _).mono ?_; rintro e w' ⟨rfl, rfl⟩)
      go_ret
      refine ⟨ret_bool ?_, rfl⟩
      have e : l.take k = l := List.take_of_length_le (by omega)
      have HX2 := HX.out
      rw [e] at HX2
      rw [eq_comm, nameV, HX2, Bool.eq_iff_iff]; simp; omega
theorem l6Range_any (a b c : Int) (w : World) :
    Calls Tryd.prog 45 #[.int .i64 a, .int .i64 b, .int .i64 c] w fun e w' => e = .returned (.bool (decide (0 ≤ a ∧ a ≤ b ∧ b ≤ c))) ∧ w = w' := by
  go_enter Tryd.func45, Tryd.ntmps45
  by_cases h : 0 ≤ b ∧ b ≤ c
  all_goals
    go_wp2_with (go_at_call 44; refine (l1In_any _ _ _ _).mono ?_; rintro e w' ⟨rfl, rfl⟩)
    all_goals
      go_ret
      exact ⟨ret_bool (by rw [Bool.eq_iff_iff]; simp; omega), rfl⟩
theorem sizeValid_any (a : Int) (w : World) :
    Calls Tryd.prog 23 #[.int .i64 a] w fun e w' => e = .returned (.bool (decide (1 ≤ a ∧ a ≤ 64))) ∧ w = w' := by
  go_enter Tryd.func23, Tryd.ntmps23
  by_cases h : 1 ≤ a
  all_goals
    go_wp2
    all_goals
      go_ret
      exact ⟨ret_bool (by rw [Bool.eq_iff_iff]; simp; omega), rfl⟩
end Go.Proofs.YtkoefklgfkhmpaaDoor
