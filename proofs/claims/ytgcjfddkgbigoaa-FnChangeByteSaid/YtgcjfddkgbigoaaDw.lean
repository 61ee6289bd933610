/- Walks: drawing data of any bytes. -/
import Derived.Test.YtgcjfddkgbigoaaD3
namespace Go.Proofs.Ytgcjfddkgbigoaa
open Go.RowKit
set_option linter.unusedSimpArgs false
set_option linter.unusedVariables false
set_option maxRecDepth 100000
attribute [local go_sem high] run_index_S binOp_eql_S binOp_neq_S append_S toList_S size_S run_slice_S run_slice_from_S run_slice_to_S wrap64_byteAt wrap64_byteAt_mul bits_or_bytes convU conv1_some convU2 conv2_some
set_option maxHeartbeats 2000000 in
theorem l5Wild_any (r M most : Nat) (so sl sm : Int) (w : World) (hR : Rd w r M) (hM : M ≤ 40000000) (hmost : most ≤ 10000) (hst : stOk so sl sm) :
    Calls Try.prog 82 #[.pointer (some ⟨r, 0, none⟩), .agg #[.int .i64 so, .int .i64 sl, .int .i64 sm], .int .i64 (most : Int)] w fun e w' => (∃ d : Bs, e = .returned (sv d) ∧ d.length ≤ most + 6) ∧ Rd w' r (M + 12 + 3 * most) ∧ BelowR w.heap.size r w w' := by
  have hr := hR.lt
  have K0_0 := Bk.new w #[.int .i64 so, .int .i64 sl, .int .i64 sm] 69
  have R0 := hR.alloc (.cells #[.int .i64 so, .int .i64 sl, .int .i64 sm] 69)
  have g0 : BelowR w.heap.size r w (w.alloc (.cells #[.int .i64 so, .int .i64 sl, .int .i64 sm] 69)) := below_toR (by repeat (first | (with_reducible exact Below.refl _ _) | (with_reducible assumption) | (with_reducible refine Below.drew ?_) | (with_reducible refine Below.alloc ?_ (by first | omega | (simp <;> omega)) _) | (with_reducible refine Below.setCell ?_ (by first | omega | (simp <;> omega)) _) | (with_reducible refine belowN ?_ _))) r
  go_enter Try.func82, Try.ntmps82
  go_wp2_with fail
  refine (l1Data_any r M most so sl sm _ R0 (by omega) hmost hst).mono ?_
  rintro e w1 ⟨⟨d, rfl, hd⟩, R1, b1⟩
  have z1 := b1.size
  try simp only [World.size_alloc, World.size_setCell, World.size_drew] at z1
  have K0_1 := K0_0.belowR b1 (by first | omega | (simp; done) | (simp; omega)) (by omega)
  have g1 := g0.trans (b1.mono (by first | omega | (simp; done) | (simp; omega)))
  clear b1 g0 K0_0
  go_wp2_with fail
  refine (pick_any r _ 5 _ R1 (by omega) (by omega) (by omega)).mono ?_
  rintro e w2 ⟨⟨v, rfl, hv0, hv1⟩, R2, b2⟩
  have z2 := b2.size
  try simp only [World.size_alloc, World.size_setCell, World.size_drew] at z2
  have K0_2 := K0_1.belowR b2 (by first | omega | (simp; done) | (simp; omega)) (by omega)
  have g2 := g1.trans (b2.mono (by first | omega | (simp; done) | (simp; omega)))
  clear b2 g1 K0_1
  by_cases hv : v = 0
  · subst hv
    go_wp2_with fail
    refine (l1Bytes_any r _ 6 _ R2 (by omega) (by omega)).mono ?_
    rintro e w3 ⟨⟨d2, rfl, hd2⟩, R3, b3⟩
    have z3 := b3.size
    try simp only [World.size_alloc, World.size_setCell, World.size_drew] at z3
    have K0_3 := K0_2.belowR b3 (by first | omega | (simp; done) | (simp; omega)) (by omega)
    have g3 := g2.trans (b3.mono (by first | omega | (simp; done) | (simp; omega)))
    clear b3 g2 K0_2
    go_wp2
    go_ret
    exact ⟨⟨d ++ d2, rfl, by simp; omega⟩, R3.mono (by omega), g3⟩
  · have hvb : (v == 0) = false := by rw [beq_eq_false_iff_ne]; exact hv
    go_wp2
    go_ret
    exact ⟨⟨d, rfl, by omega⟩, R2.mono (by omega), g2⟩
end Go.Proofs.Ytgcjfddkgbigoaa
