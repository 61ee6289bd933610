/- Walks: checksums and blocks. -/
import Derived.Test.YtgcjfddkgbigoaaPlain
namespace Go.Proofs.Ytgcjfddkgbigoaa
open Go.RowKit
set_option linter.unusedVariables false
attribute [local go_sem high] run_index_S binOp_eql_S binOp_neq_S append_S toList_S size_S run_slice_S run_slice_from_S run_slice_to_S wrap64_byteAt wrap64_byteAt_mul bits_or_bytes convU conv1_some convU2 conv2_some
set_option maxHeartbeats 400000 in
theorem sumOf_any (l : Bs) (w : World) (hs : l.length ≤ 9223372036854775807) :
    Calls Try.prog 57 #[.string ⟨l.toArray⟩] w fun e w' => e = .returned (.int .i64 (sumOf l)) ∧ w = w' := by
  go_enter Try.func57, Try.ntmps57
  go_wp2
  go_loop [3, 4, 8] (fun a b k => ∃ n : Nat, n ≤ l.length ∧ k = .int .i64 n ∧ a = .int .i64 (sumP (l.take n)).1 ∧ b = .int .i64 (sumP (l.take n)).2) (fun _ _ k => l.length - (intOf k).toNat)
  case atStart => exact ⟨0, Nat.zero_le _, rfl, rfl, rfl⟩
  case round =>
    obtain ⟨k, hk, rfl, rfl, rfl⟩ := hrel
    have hb := sumP_bd (l.take k)
    obtain ⟨hb1, hb2, hb3, hb4⟩ := hb
    by_cases hlt : k < l.length
    · have HS := Go.Lib.hid (sumP_snoc l k hlt)
      have HB := Go.Lib.hid (byteAt_nat l k hlt)
      have hc1 := byteAt_nonneg l k
      have hc2 := byteAt_le l k
      go_wp2
      go_round
      case rel =>
        refine ⟨k + 1, by omega, by go_num, ?_, ?_⟩
        · rw [HS.out]; simp [sumStep, ← HB.out]
        · rw [HS.out]; simp [sumStep, ← HB.out]
      case measure => simp [intOf]; omega
    · go_wp2
      go_ret
      have : k = l.length := by omega
      subst this
      exact ⟨by simp [sumOf], rfl⟩
set_option maxHeartbeats 400000 in
theorem sSumOf_any (l : Bs) (w : World) (hs : l.length ≤ 9223372036854775807) :
    Calls Try.prog 91 #[.string ⟨l.toArray⟩] w fun e w' => e = .returned (.int .i64 (sumOf l)) ∧ w = w' := by
  go_enter Try.func91, Try.ntmps91
  go_wp2
  go_loop [3, 4, 5] (fun a b k => ∃ n : Nat, n ≤ l.length ∧ k = .int .i64 n ∧ a = .int .i64 (sumP (l.take n)).1 ∧ b = .int .i64 (sumP (l.take n)).2) (fun _ _ k => l.length - (intOf k).toNat)
  case atStart => exact ⟨0, Nat.zero_le _, rfl, rfl, rfl⟩
  case round =>
    obtain ⟨k, hk, rfl, rfl, rfl⟩ := hrel
    have hb := sumP_bd (l.take k)
    obtain ⟨hb1, hb2, hb3, hb4⟩ := hb
    by_cases hlt : k < l.length
    · have HS := Go.Lib.hid (sumP_snoc l k hlt)
      have HB := Go.Lib.hid (byteAt_nat l k hlt)
      have hc1 := byteAt_nonneg l k
      have hc2 := byteAt_le l k
      go_wp2
      go_round
      case rel =>
        refine ⟨k + 1, by omega, by go_num, ?_, ?_⟩
        · rw [HS.out]; simp [sumStep, ← HB.out]
        · rw [HS.out]; simp [sumStep, ← HB.out]
      case measure => simp [intOf]; omega
    · go_wp2
      go_ret
      have : k = l.length := by omega
      subst this
      exact ⟨by simp [sumOf], rfl⟩
set_option maxRecDepth 100000 in
theorem two_any (n : Int) (w : World) (h0 : 0 ≤ n) (h1 : n ≤ 9000000) :
    Calls Try.prog 75 #[.int .i64 n] w fun e w' => e = .returned (.string ⟨(two n).toArray⟩) ∧ Below w.heap.size w w' := by
  go_enter Try.func75, Try.ntmps75
  go_wp2
  go_ret
  exact ⟨rfl, (Below.refl _ _).alloc (Nat.le_refl _) _⟩
set_option maxRecDepth 100000 in
theorem l4Two_any (n : Int) (w : World) (h0 : 0 ≤ n) (h1 : n ≤ 9000000) :
    Calls Try.prog 90 #[.int .i64 n] w fun e w' => e = .returned (.string ⟨(two n).toArray⟩) ∧ Below w.heap.size w w' := by
  go_enter Try.func90, Try.ntmps90
  go_wp2
  go_ret
  exact ⟨rfl, (Below.refl _ _).alloc (Nat.le_refl _) _⟩
end Go.Proofs.Ytgcjfddkgbigoaa
