/- Walks: the bytes of a block, and a block parsed, by the program. -/
import Derived.Test.YtgcjfddkgbigoaaP2
namespace Go.Proofs.Ytgcjfddkgbigoaa
open Go.RowKit
set_option linter.unusedVariables false
set_option linter.unusedSimpArgs false
set_option maxRecDepth 100000
attribute [local go_sem high] run_index_S binOp_eql_S binOp_neq_S append_S toList_S size_S run_slice_S run_slice_from_S run_slice_to_S wrap64_byteAt wrap64_byteAt_mul bits_or_bytes convU conv1_some convU2 conv2_some
theorem numB_any (l : Bs) (a : Nat) (w : World) (h : a + 1 < l.length) (hl : l.length ≤ 4000000) :
    Calls Try.prog 55 #[.string ⟨l.toArray⟩, .int .i64 (a : Int)] w fun e w' => e = .returned (.int .i64 (numAt l a)) ∧ Below w.heap.size w w' := by
  have h0 := byteAt_nonneg l a
  have h1 := byteAt_le l a
  have h2 := byteAt_nonneg l ((a : Int) + 1)
  have h3 := byteAt_le l ((a : Int) + 1)
  have hi : (a : Int) + 1 < l.length := by omega
  go_enter Try.func55, Try.ntmps55
  go_wp2
  go_quiet (fail)
  go_wp2
  go_ret
  exact ⟨rfl, (by repeat (first | (with_reducible exact Below.refl _ _) | (with_reducible assumption) | (with_reducible refine Below.drew ?_) | (with_reducible refine Below.alloc ?_ (by first | omega | (simp <;> omega)) _) | (with_reducible refine Below.setCell ?_ (by first | omega | (simp <;> omega)) _) | (with_reducible refine belowN ?_ _)))⟩
set_option maxHeartbeats 1000000 in
theorem blockValid_any (b : Blk) (w : World) (hb : b.sm) :
    Calls Try.prog 56 #[bkV b] w fun e w' => e = .returned (.bool b.ok) ∧ Below w.heap.size w w' := by
  obtain ⟨n, r, s, d⟩ := b
  obtain ⟨h1, h2, h3, h4, h5⟩ := hb
  simp only at h1 h2 h3 h4 h5
  go_enter Try.func56, Try.ntmps56
  go_wp2
  all_goals go_ret
  all_goals refine ⟨ret_bool ?_, (Below.refl _ _).alloc (Nat.le_refl _) _⟩
  all_goals (rw [Bool.eq_iff_iff, Blk.ok_iff]; (try simp only [decide_eq_true_eq, beq_iff_eq]); grind)
def fbRes (b : Blk) : Ending := .returned (.tuple #[.string ⟨(if b.ok = true then b.text else []).toArray⟩, .bool b.ok])
theorem two_le2 (n : Int) : (two n).length ≤ 2 := by simp [two]
set_option maxHeartbeats 4000000 in
theorem formatBlock_any (b : Blk) (w : World) (hb : b.sm) :
    Calls Try.prog 65 #[bkV b] w fun e w' => e = fbRes b ∧ Below w.heap.size w w' := by
  have hsb := sumOf_bd b.inner
  have hie : b.inner = (if b.raw = true then (0 : UInt8) else 1) :: (two b.num ++ (two b.size ++ (two b.body.length ++ b.body))) := by simp [Blk.inner]
  have hte : b.text = 181 :: (b.inner ++ two (sumOf b.inner)) := rfl
  have cV := fun w => blockValid_any b w hb
  have hrs : fbRes b = .returned (.tuple #[.string ⟨(if b.ok = true then b.text else []).toArray⟩, .bool b.ok]) := rfl
  obtain ⟨n, r, s, d⟩ := b
  obtain ⟨h1, h2, h3, h4, h5⟩ := hb
  simp only at h1 h2 h3 h4 h5 hie cV
  generalize fbRes ⟨n, r, s, d⟩ = RR at *
  generalize (⟨n, r, s, d⟩ : Blk).text = T at *
  generalize (⟨n, r, s, d⟩ : Blk).inner = I at *
  generalize (⟨n, r, s, d⟩ : Blk).ok = ok at *
  have HT := Go.Lib.hid hte
  have t1 := two_le2 n
  have t2 := two_le2 s
  have t3 := two_le2 d.length
  have t4 := two_le2 (sumOf I)
  have hil : I.length ≤ 1500007 := by rw [hie]; simp; omega
  have HI := Go.Lib.hid hie
  have HRR := Go.Lib.hid hrs
  clear hie hte hrs
  cases ok
  · go_enter Try.func65, Try.ntmps65
    go_wp2_with fail
    refine (cV _).mono ?_
    rintro e w2 ⟨rfl, hb2⟩
    have hz2 := hb2.size
    simp only [World.size_alloc] at hz2
    have g2 : Below w.heap.size w w2 := ((Below.refl _ _).alloc (Nat.le_refl _) _).trans (hb2.mono (by simp))
    go_wp2
    go_ret2
    exact ⟨by rw [HRR.out]; rfl, g2⟩
  cases r
  all_goals
    go_enter Try.func65, Try.ntmps65
    go_wp2_with fail
    refine (cV _).mono ?_
    rintro e w1 ⟨rfl, hb1⟩
    have hz1 := hb1.size
    simp only [World.size_alloc] at hz1
    have X1 := box_keep (box_new _ _ _) hb1 (by simp)
    have g1 : Below w.heap.size w w1 := ((Below.refl _ _).alloc (Nat.le_refl _) _).trans (hb1.mono (by simp))
    clear hb1 cV
    have hG := box_class X1 (by omega)
    go_wp2_with fail
    refine wp_region_quiet_below (by kernel_rfl) (by kernel_rfl) ?_
    repeat (go_big_quiet_step (((go_at_call 75; exact Calls.regrown_of (two_any _ _ (by omega) (by omega))))))
    refine wpQuiet_nil ?_
    intro w2 hw2
    have hb2 : Below _ _ w2 := below_of_class hw2
    clear hw2
    have hz2 := hb2.size
    have g2 : Below w.heap.size w w2 := g1.trans (hb2.mono (by omega))
    clear hG hb2 X1
    go_wp2_with fail
    have HI2 := HI.out
    simp only [if_true, if_false, Bool.false_eq_true] at HI2
    rw [← HI2]
    clear HI HI2
    have hq1 : ¬ 9223372036854775807 < 1 + I.length := by omega
    have hq2 : ¬ 9223372036854775807 < I.length + 1 + (two (sumOf I)).length := by omega
    have hq3 : ¬ 9223372036854775807 < 1 + I.length + (two (sumOf I)).length := by omega
    go_region_with (first | (go_at_call 57; refine (sumOf_any _ _ (by omega)).mono ?_; rintro e w' ⟨rfl, rfl⟩) | (go_at_call 75; refine (two_any _ _ (by omega) (by omega)).mono ?_; rintro e w3 ⟨rfl, hb3⟩; have hz3 := hb3.size; (try simp at hz3); try (have hb4 := below_undrew hb3; have hxx := box_keep (box_new _ _ _) hb4 (by simp))))
    all_goals
      go_wp2
      go_ret2
      exact ⟨by rw [HRR.out, HT.out, if_pos trivial]; rfl, (by repeat (first | (with_reducible exact Below.refl _ _) | (with_reducible assumption) | (with_reducible refine Below.drew ?_) | (with_reducible refine Below.alloc ?_ (by first | omega | (simp <;> omega)) _) | (with_reducible refine Below.setCell ?_ (by first | omega | (simp <;> omega)) _) | (with_reducible refine belowN ?_ _) | (with_reducible refine Below.trans ?_ (Below.mono (by with_reducible assumption) (by first | omega | (simp <;> omega))))))⟩
end Go.Proofs.Ytgcjfddkgbigoaa
