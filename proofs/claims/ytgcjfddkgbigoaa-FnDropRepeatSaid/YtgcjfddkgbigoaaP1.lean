/- Walks: is a block valid; its bytes. -/
import Derived.Test.YtgcjfddkgbigoaaW1
import Derived.Test.YtgcjfddkgbigoaaW5
import Derived.Test.YtgcjfddkgbigoaaB
import Derived.Test.YtgcjfddkgbigoaaSl
namespace Go.Proofs.Ytgcjfddkgbigoaa
open Go.RowKit
set_option linter.unusedVariables false
set_option linter.unusedSimpArgs false
set_option maxRecDepth 100000
attribute [local go_sem high] run_index_S binOp_eql_S binOp_neq_S append_S toList_S size_S run_slice_S run_slice_from_S run_slice_to_S wrap64_byteAt wrap64_byteAt_mul bits_or_bytes convU conv1_some convU2 conv2_some
abbrev bkC (b : Blk) : Array Value := #[.int .i64 b.num, .bool b.raw, .int .i64 b.size, .string ⟨b.body.toArray⟩]
abbrev bkV (b : Blk) : Value := .agg #[.int .i64 b.num, .bool b.raw, .int .i64 b.size, .string ⟨b.body.toArray⟩]
def bkZ : Blk := ⟨0, false, 0, []⟩
abbrev bkZC : Array Value := #[.int .i64 0, .bool false, .int .i64 0, .string ⟨#[]⟩]
/-- The numbers of a block are small. -/
def Blk.sm (b : Blk) : Prop := 0 ≤ b.num ∧ b.num ≤ 65535 ∧ 0 ≤ b.size ∧ b.size ≤ 65535 ∧ b.body.length ≤ 1500000
theorem Blk.ok_iff (n s : Int) (r : Bool) (d : Bs) : (Blk.ok ⟨n, r, s, d⟩ = true) ↔ (0 ≤ n ∧ n < 40 ∧ 1 ≤ s ∧ s ≤ 64 ∧ (if r = true then (d.length : Int) = s else 1 ≤ d.length ∧ (d.length : Int) < s)) := by simp [Blk.ok]
theorem Blk.ok_sm {b : Blk} (h : b.ok = true) : b.sm := by
  have h1 := Blk.ok_len h
  obtain ⟨n, r, s, d⟩ := b
  rw [Blk.ok_iff] at h
  exact ⟨h.1, by show n ≤ _; omega, by show 0 ≤ s; omega, by show s ≤ _; omega, by omega⟩
theorem bkZ_sm : bkZ.sm := by unfold Blk.sm bkZ; simp
theorem l5Number_any (n : Int) (w : World) :
    Calls Try.prog 99 #[.int .i64 n] w fun e w' => e = .returned (.bool (decide (0 ≤ n ∧ n ≤ 39))) ∧ w = w' := by
  go_enter Try.func99, Try.ntmps99
  go_wp2_with (go_at_call 51; refine (l1In_any _ _ _ _).mono ?_; rintro e w' ⟨rfl, rfl⟩)
  go_ret
  exact ⟨ret_bool (by simp), rfl⟩
set_option maxHeartbeats 1000000 in
theorem l5Form_any (b : Blk) (w : World) (hb : b.sm) :
    Calls Try.prog 85 #[bkV b] w fun e w' => e = .returned (.bool b.ok) ∧ Below w.heap.size w w' := by
  obtain ⟨n, r, s, d⟩ := b
  obtain ⟨h1, h2, h3, h4, h5⟩ := hb
  simp only at h1 h2 h3 h4 h5
  go_enter Try.func85, Try.ntmps85
  go_wp2_with (first | (go_at_call 99; refine (l5Number_any _ _).mono ?_; rintro e w' ⟨rfl, rfl⟩) | (go_at_call 51; refine (l1In_any _ _ _ _).mono ?_; rintro e w' ⟨rfl, rfl⟩))
  all_goals go_ret
  all_goals refine ⟨ret_bool ?_, (Below.refl _ _).alloc (Nat.le_refl _) _⟩
  all_goals (rw [Bool.eq_iff_iff, Blk.ok_iff]; (try simp only [decide_eq_true_eq, beq_iff_eq]); grind)
theorem l5Kind_any (b : Blk) (w : World) :
    Calls Try.prog 89 #[bkV b] w fun e w' => e = .returned (.string ⟨[if b.raw = true then (0 : UInt8) else 1].toArray⟩) ∧ Below w.heap.size w w' := by
  obtain ⟨n, r, s, d⟩ := b
  cases r
  · go_enter Try.func89, Try.ntmps89
    go_wp2
    go_ret
    exact ⟨rfl, (by repeat (first | (with_reducible exact Below.refl _ _) | (with_reducible assumption) | (with_reducible refine Below.drew ?_) | (with_reducible refine Below.alloc ?_ (by first | omega | (simp <;> omega)) _) | (with_reducible refine Below.setCell ?_ (by first | omega | (simp <;> omega)) _) | (with_reducible refine belowN ?_ _)))⟩
  · go_enter Try.func89, Try.ntmps89
    go_wp2
    go_ret
    exact ⟨rfl, (by repeat (first | (with_reducible exact Below.refl _ _) | (with_reducible assumption) | (with_reducible refine Below.drew ?_) | (with_reducible refine Below.alloc ?_ (by first | omega | (simp <;> omega)) _) | (with_reducible refine Below.setCell ?_ (by first | omega | (simp <;> omega)) _) | (with_reducible refine belowN ?_ _)))⟩
set_option maxHeartbeats 2000000 in
theorem l5Text_any (b : Blk) (w : World) (hb : b.sm) :
    Calls Try.prog 70 #[bkV b] w fun e w' => e = .returned (.string ⟨b.text.toArray⟩) ∧ Below w.heap.size w w' := by
  have hsb := sumOf_bd b.inner
  have hie : b.inner = (if b.raw = true then (0 : UInt8) else 1) :: (two b.num ++ (two b.size ++ (two b.body.length ++ b.body))) := by simp [Blk.inner]
  have hte : b.text = 181 :: (b.inner ++ two (sumOf b.inner)) := rfl
  have cK := fun w => l5Kind_any b w
  obtain ⟨n, r, s, d⟩ := b
  obtain ⟨h1, h2, h3, h4, h5⟩ := hb
  simp only at h1 h2 h3 h4 h5 hie cK
  generalize (⟨n, r, s, d⟩ : Blk).text = T at *
  generalize (⟨n, r, s, d⟩ : Blk).inner = I at *
  generalize (if r = true then (0 : UInt8) else 1) = k at *
  have HT := Go.Lib.hid hte
  have two_le : ∀ n, (two n).length ≤ 2 := fun n => by simp [two]
  have t1 := two_le n
  have t2 := two_le s
  have t3 := two_le d.length
  have t4 := two_le (sumOf I)
  have hil : I.length ≤ 1500007 := by rw [hie]; simp; omega
  have HI := Go.Lib.hid hie
  clear hie hte two_le
  go_enter Try.func70, Try.ntmps70
  go_wp2_with fail
  have hG := box_class (box_new w (bkC ⟨n, r, s, d⟩) 32) (by simp)
  refine wp_region_quiet_below (by kernel_rfl) (by kernel_rfl) ?_
  repeat (go_big_quiet_step ((first | (go_at_call 89; exact Calls.regrown_of (cK _)) | (go_at_call 90; exact Calls.regrown_of (l4Two_any _ _ (by omega) (by omega))))))
  refine wpQuiet_nil ?_
  intro w2 hw2
  have hb2 : Below _ _ w2 := below_of_class hw2
  clear hw2
  have hz2 := hb2.size
  simp only [World.size_alloc] at hz2
  have g2 : Below w.heap.size w w2 := ((Below.refl _ _).alloc (Nat.le_refl _) _).trans (hb2.mono (by simp))
  clear hG hb2
  go_wp2_with fail
  rw [← HI.out]
  clear HI
  have hq1 : ¬ 9223372036854775807 < 1 + I.length := by omega
  have hq2 : ¬ 9223372036854775807 < I.length + 1 + (two (sumOf I)).length := by omega
  have hq3 : ¬ 9223372036854775807 < 1 + I.length + (two (sumOf I)).length := by omega
  go_region_with (first | (go_at_call 91; refine (sSumOf_any _ _ (by omega)).mono ?_; rintro e w' ⟨rfl, rfl⟩) | (go_at_call 90; refine (l4Two_any _ _ (by omega) (by omega)).mono ?_; rintro e w3 ⟨rfl, hb3⟩; have hz3 := hb3.size; (try simp at hz3); try (have hb4 := below_undrew hb3; have hxx := box_keep (box_new _ _ _) hb4 (by simp))))
  all_goals
    go_wp2
    go_ret
    exact ⟨ret_S (by rw [HT.out]), (by repeat (first | (with_reducible exact Below.refl _ _) | (with_reducible assumption) | (with_reducible refine Below.drew ?_) | (with_reducible refine Below.alloc ?_ (by first | omega | (simp <;> omega)) _) | (with_reducible refine Below.setCell ?_ (by first | omega | (simp <;> omega)) _) | (with_reducible refine belowN ?_ _) | (with_reducible refine Below.trans ?_ (Below.mono (by with_reducible assumption) (by first | omega | (simp <;> omega))))))⟩
end Go.Proofs.Ytgcjfddkgbigoaa
