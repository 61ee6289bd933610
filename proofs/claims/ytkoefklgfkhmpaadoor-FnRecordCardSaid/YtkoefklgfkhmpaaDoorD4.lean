/- Walks: drawing operations and texts. -/
import Derived.Test.YtkoefklgfkhmpaaDoorD3
import Derived.Test.YtkoefklgfkhmpaaDoorNum
namespace Go.Proofs.YtkoefklgfkhmpaaDoor
open Go.RowKit
set_option linter.unusedVariables false
set_option maxRecDepth 100000
attribute [local go_sem high] run_index_S binOp_eql_S binOp_neq_S append_S toList_S size_S run_slice_S run_slice_from_S run_slice_to_S wrap64_byteAt wrap64_byteAt_mul bits_or_bytes convU conv1_some convU2 conv2_some
set_option maxHeartbeats 2000000 in
theorem l5Wild_any (r M most : Nat) (so sl sm : Int) (w : World) (hR : Rd w r M) (hM : M ≤ 40000000) (hmost : most ≤ 10000) (hst : stOk so sl sm) :
    Calls Tryd.prog 55 #[.pointer (some ⟨r, 0, none⟩), .agg #[.int .i64 so, .int .i64 sl, .int .i64 sm], .int .i64 (most : Int)] w fun e w' => (∃ d : Bs, e = .returned (sv d) ∧ d.length ≤ most + 6) ∧ Rd w' r (M + 12 + 3 * most) ∧ BelowR w.heap.size r w w' := by
  have hr := hR.lt
  have K0_0 := Bk.new w #[.int .i64 so, .int .i64 sl, .int .i64 sm] 51
  have R0 := hR.alloc (.cells #[.int .i64 so, .int .i64 sl, .int .i64 sm] 51)
  have g0 : BelowR w.heap.size r w (w.alloc (.cells #[.int .i64 so, .int .i64 sl, .int .i64 sm] 51)) := below_toR (by repeat (first | (with_reducible exact Below.refl _ _) | (with_reducible assumption) | (with_reducible refine Below.drew ?_) | (with_reducible refine Below.alloc ?_ (by first | omega | (simp <;> omega)) _) | (with_reducible refine Below.setCell ?_ (by first | omega | (simp <;> omega)) _) | (with_reducible refine belowN ?_ _))) r
  go_enter Tryd.func55, Tryd.ntmps55
  go_wp2_with fail
  refine (l1Data_any r M most so sl sm _ R0 (by omega) hmost hst).mono ?_
  rintro e w1 ⟨⟨d, rfl, hd⟩, R1, b1⟩
  have z1 := b1.size
  try simp only [World.size_alloc] at z1
  have K0_1 := K0_0.belowR b1 (by first | omega | (simp; done) | (simp; omega)) (by omega)
  have g1 := g0.trans (b1.mono (by first | omega | (simp; done) | (simp; omega)))
  clear b1 g0 K0_0
  go_wp2_with fail
  refine (pick_any r _ 5 _ R1 (by omega) (by omega) (by omega)).mono ?_
  rintro e w2 ⟨⟨v, rfl, hv0, hv1⟩, R2, b2⟩
  have z2 := b2.size
  try simp only [World.size_alloc] at z2
  have K0_2 := K0_1.belowR b2 (by first | omega | (simp; done) | (simp; omega)) (by omega)
  have g2 := g1.trans (b2.mono (by first | omega | (simp; done) | (simp; omega)))
  clear b2 g1 K0_1
  by_cases hv : v = 0
  · subst hv
    go_wp2_with fail
    refine (l1Bytes_any r _ 6 _ R2 (by omega) (by omega)).mono ?_
    rintro e w3 ⟨⟨d2, rfl, hd2⟩, R3, b3⟩
    have z3 := b3.size
    try simp only [World.size_alloc] at z3
    have K0_3 := K0_2.belowR b3 (by first | omega | (simp; done) | (simp; omega)) (by omega)
    have g3 := g2.trans (b3.mono (by first | omega | (simp; done) | (simp; omega)))
    clear b3 g2 K0_2
    go_wp2
    go_ret
    exact ⟨⟨d ++ d2, rfl, by simp; omega⟩, R3.mono (by omega), g3⟩
  · have hvb : (v == 0) = false := by rw [beq_eq_false_iff_ne]; exact hv
    go_wp2
    go_ret
    exact ⟨⟨d, rfl, by omega⟩, R2.mono (by omega), g2⟩
/-- An operation of small texts. -/
def OpSm (x : OpR) : Prop := x.nm.length ≤ 100 ∧ x.d.length ≤ 100
abbrev OpR.val' (x : OpR) : Value := .agg #[.int .i64 x.k, .string ⟨x.nm.toArray⟩, .int .i64 x.f, .int .i64 x.t, .int .i64 x.s, .string ⟨x.d.toArray⟩]
def OpDraw (r M : Nat) (w : World) (e : Ending) (w' : World) : Prop := (∃ x : OpR, e = .returned x.val' ∧ OpSm x) ∧ Rd w' r M ∧ BelowR w.heap.size r w w'
set_option maxHeartbeats 4000000 in
theorem l8BadOp_any (r M : Nat) (k f t s : Int) (nm d : Bs) (w : World) (hR : Rd w r M) (hM : M ≤ 40000000) (hnm : nm.length ≤ 100) (hd : d.length ≤ 100) :
    Calls Tryd.prog 42 #[.pointer (some ⟨r, 0, none⟩), .agg #[.int .i64 k, .string ⟨nm.toArray⟩, .int .i64 f, .int .i64 t, .int .i64 s, .string ⟨d.toArray⟩]] w (OpDraw r (M + 2) w) := by
  have hr := hR.lt
  have K0_0 := (Bk.new w #[.int .i64 k, .string ⟨nm.toArray⟩, .int .i64 f, .int .i64 t, .int .i64 s, .string ⟨d.toArray⟩] 24).alloc (.cells #[.int .i64 0, .string ⟨#[]⟩, .int .i64 0, .int .i64 0, .int .i64 0, .string ⟨#[]⟩] 24)
  have K1_0 := Bk.newAt (w.alloc (.cells #[.int .i64 k, .string ⟨nm.toArray⟩, .int .i64 f, .int .i64 t, .int .i64 s, .string ⟨d.toArray⟩] 24)) #[.int .i64 0, .string ⟨#[]⟩, .int .i64 0, .int .i64 0, .int .i64 0, .string ⟨#[]⟩] 24 (n := w.heap.size + 1) (by simp)
  have R0 := (hR.alloc (.cells #[.int .i64 k, .string ⟨nm.toArray⟩, .int .i64 f, .int .i64 t, .int .i64 s, .string ⟨d.toArray⟩] 24)).alloc (.cells #[.int .i64 0, .string ⟨#[]⟩, .int .i64 0, .int .i64 0, .int .i64 0, .string ⟨#[]⟩] 24)
  have g0 : BelowR w.heap.size r w ((w.alloc (.cells #[.int .i64 k, .string ⟨nm.toArray⟩, .int .i64 f, .int .i64 t, .int .i64 s, .string ⟨d.toArray⟩] 24)).alloc (.cells #[.int .i64 0, .string ⟨#[]⟩, .int .i64 0, .int .i64 0, .int .i64 0, .string ⟨#[]⟩] 24)) := below_toR (by repeat (first | (with_reducible exact Below.refl _ _) | (with_reducible assumption) | (with_reducible refine Below.drew ?_) | (with_reducible refine Below.alloc ?_ (by first | omega | (simp <;> omega)) _) | (with_reducible refine Below.setCell ?_ (by first | omega | (simp <;> omega)) _) | (with_reducible refine belowN ?_ _))) r
  go_enter Tryd.func42, Tryd.ntmps42
  go_wp2_with fail
  refine (pick_any r M 40 _ R0 (by omega) (by omega) (by omega)).mono ?_
  rintro e w1 ⟨⟨v, rfl, hv0, hv1⟩, R1, b1⟩
  have z1 := b1.size
  try simp only [World.size_alloc] at z1
  have K0_1 := K0_0.belowR b1 (by first | omega | (simp; done) | (simp; omega)) (by omega)
  have K1_1 := K1_0.belowR b1 (by first | omega | (simp; done) | (simp; omega)) (by omega)
  have g1 := g0.trans (b1.mono (by first | omega | (simp; done) | (simp; omega)))
  clear b1 g0 K0_0 K1_0
  by_cases hc0 : v = 0
  · subst hc0
    have s1 := Sl.list w1 [.int .i64 (-1), .int .i64 5, .int .i64 2, .int .i64 3] 3 w1.heap.size 4 rfl rfl (by omega)
    go_wp2_with fail
    refine (num_any r _ [(-1), 5, 2, 3] (some ⟨w1.heap.size, 0, none⟩) 4 _ (R1.alloc _) (by omega) s1 (by simp) (by simp) (by rintro g off ⟨⟩; omega)).mono ?_
    rintro e w2 ⟨⟨y, hy, rfl⟩, R2, b2⟩
    have z2 := b2.size
    try simp only [World.size_alloc] at z2
    have K0_2 := (K0_1.alloc _).belowR b2 (by first | omega | (simp; done) | (simp; omega)) (by omega)
    have K1_2 := (K1_1.alloc _).belowR b2 (by first | omega | (simp; done) | (simp; omega)) (by omega)
    have g2 := (g1.alloc (by first | omega | (simp <;> omega)) _).trans (b2.mono (by first | omega | (simp; done) | (simp; omega)))
    clear b2 g1 K0_1 K1_1
    have X0 := K0_2.cell
    have F0 := K0_2.free
    have X1 := K1_2.cell
    have F1 := K1_2.free
    replace R2 := R2.mono (show _ ≤ M + 2 by omega)
    go_wp2
    exact bodyPost_ret (v := (⟨y, f, t, s, nm, d⟩ : OpR).val') (by simp [results, Tryd.results42, go_sem, X1]) rfl ⟨⟨⟨y, f, t, s, nm, d⟩, rfl, by unfold OpSm; exact ⟨hnm, hd⟩⟩, (by (repeat (first | (with_reducible assumption) | (with_reducible refine Rd.drew ?_) | (with_reducible refine Rd.drewN ?_ _) | (with_reducible refine Rd.alloc ?_ _) | ((with_reducible refine Rd.far ?_ ?_ _); rotate_left; focus (first | omega | (simp <;> omega))))); done), (by (repeat (first | (with_reducible exact BelowR.refl _ _ _) | (with_reducible assumption) | (with_reducible refine BelowR.drew ?_) | (with_reducible refine BelowR.drewN ?_ _) | ((with_reducible refine BelowR.alloc ?_ ?_ _); rotate_left; focus (first | omega | (simp <;> omega))) | ((with_reducible refine BelowR.setCell ?_ ?_ _); rotate_left; focus (first | (left; rfl) | (right; first | omega | (simp <;> omega)))))); done)⟩
  have hb0 : (v == 0) = false := by rw [beq_eq_false_iff_ne]; exact hc0
  by_cases hc1 : v = 1
  · subst hc1
    have s1 := Sl.list w1 [sv [], sv [65], sv [97, 98, 99, 100, 101, 102, 103, 104, 105], sv [97, 32, 98]] 9 w1.heap.size 4 rfl rfl (by omega)
    go_wp2_with fail
    refine (of_any r _ [[], [65], [97, 98, 99, 100, 101, 102, 103, 104, 105], [97, 32, 98]] (some ⟨w1.heap.size, 0, none⟩) 4 _ (R1.alloc _) (by omega) s1 (by simp) (by simp) (by rintro g off ⟨⟩; omega)).mono ?_
    rintro e w2 ⟨⟨y, hy, rfl⟩, R2, b2⟩
    have z2 := b2.size
    try simp only [World.size_alloc] at z2
    have K0_2 := (K0_1.alloc _).belowR b2 (by first | omega | (simp; done) | (simp; omega)) (by omega)
    have K1_2 := (K1_1.alloc _).belowR b2 (by first | omega | (simp; done) | (simp; omega)) (by omega)
    have g2 := (g1.alloc (by first | omega | (simp <;> omega)) _).trans (b2.mono (by first | omega | (simp; done) | (simp; omega)))
    clear b2 g1 K0_1 K1_1
    have X0 := K0_2.cell
    have F0 := K0_2.free
    have X1 := K1_2.cell
    have F1 := K1_2.free
    replace R2 := R2.mono (show _ ≤ M + 2 by omega)
    go_wp2
    exact bodyPost_ret (v := (⟨k, f, t, s, y, d⟩ : OpR).val') (by simp [results, Tryd.results42, go_sem, X1]) rfl ⟨⟨⟨k, f, t, s, y, d⟩, rfl, by unfold OpSm; exact ⟨by simp at hy; rcases hy with h | h | h | h <;> rw [h] <;> simp, hd⟩⟩, (by (repeat (first | (with_reducible assumption) | (with_reducible refine Rd.drew ?_) | (with_reducible refine Rd.drewN ?_ _) | (with_reducible refine Rd.alloc ?_ _) | ((with_reducible refine Rd.far ?_ ?_ _); rotate_left; focus (first | omega | (simp <;> omega))))); done), (by (repeat (first | (with_reducible exact BelowR.refl _ _ _) | (with_reducible assumption) | (with_reducible refine BelowR.drew ?_) | (with_reducible refine BelowR.drewN ?_ _) | ((with_reducible refine BelowR.alloc ?_ ?_ _); rotate_left; focus (first | omega | (simp <;> omega))) | ((with_reducible refine BelowR.setCell ?_ ?_ _); rotate_left; focus (first | (left; rfl) | (right; first | omega | (simp <;> omega)))))); done)⟩
  have hb1 : (v == 1) = false := by rw [beq_eq_false_iff_ne]; exact hc1
  by_cases hc2 : v = 2
  · subst hc2
    have s1 := Sl.list w1 [.int .i64 0, .int .i64 65, .int .i64 (-1), .int .i64 64] 3 w1.heap.size 4 rfl rfl (by omega)
    go_wp2_with fail
    refine (num_any r _ [0, 65, (-1), 64] (some ⟨w1.heap.size, 0, none⟩) 4 _ (R1.alloc _) (by omega) s1 (by simp) (by simp) (by rintro g off ⟨⟩; omega)).mono ?_
    rintro e w2 ⟨⟨y, hy, rfl⟩, R2, b2⟩
    have z2 := b2.size
    try simp only [World.size_alloc] at z2
    have K0_2 := (K0_1.alloc _).belowR b2 (by first | omega | (simp; done) | (simp; omega)) (by omega)
    have K1_2 := (K1_1.alloc _).belowR b2 (by first | omega | (simp; done) | (simp; omega)) (by omega)
    have g2 := (g1.alloc (by first | omega | (simp <;> omega)) _).trans (b2.mono (by first | omega | (simp; done) | (simp; omega)))
    clear b2 g1 K0_1 K1_1
    have X0 := K0_2.cell
    have F0 := K0_2.free
    have X1 := K1_2.cell
    have F1 := K1_2.free
    replace R2 := R2.mono (show _ ≤ M + 2 by omega)
    go_wp2
    exact bodyPost_ret (v := (⟨k, f, t, y, nm, d⟩ : OpR).val') (by simp [results, Tryd.results42, go_sem, X1]) rfl ⟨⟨⟨k, f, t, y, nm, d⟩, rfl, by unfold OpSm; exact ⟨hnm, hd⟩⟩, (by (repeat (first | (with_reducible assumption) | (with_reducible refine Rd.drew ?_) | (with_reducible refine Rd.drewN ?_ _) | (with_reducible refine Rd.alloc ?_ _) | ((with_reducible refine Rd.far ?_ ?_ _); rotate_left; focus (first | omega | (simp <;> omega))))); done), (by (repeat (first | (with_reducible exact BelowR.refl _ _ _) | (with_reducible assumption) | (with_reducible refine BelowR.drew ?_) | (with_reducible refine BelowR.drewN ?_ _) | ((with_reducible refine BelowR.alloc ?_ ?_ _); rotate_left; focus (first | omega | (simp <;> omega))) | ((with_reducible refine BelowR.setCell ?_ ?_ _); rotate_left; focus (first | (left; rfl) | (right; first | omega | (simp <;> omega)))))); done)⟩
  have hb2 : (v == 2) = false := by rw [beq_eq_false_iff_ne]; exact hc2
  by_cases hc3 : v = 3
  · subst hc3
    have s1 := Sl.list w1 [.int .i64 (-1), .int .i64 5, .int .i64 2001, .int .i64 9223372036854775807] 3 w1.heap.size 4 rfl rfl (by omega)
    go_wp2_with fail
    refine (num_any r _ [(-1), 5, 2001, 9223372036854775807] (some ⟨w1.heap.size, 0, none⟩) 4 _ (R1.alloc _) (by omega) s1 (by simp) (by simp) (by rintro g off ⟨⟩; omega)).mono ?_
    rintro e w2 ⟨⟨y, hy, rfl⟩, R2, b2⟩
    have z2 := b2.size
    try simp only [World.size_alloc] at z2
    have K0_2 := (K0_1.alloc _).belowR b2 (by first | omega | (simp; done) | (simp; omega)) (by omega)
    have K1_2 := (K1_1.alloc _).belowR b2 (by first | omega | (simp; done) | (simp; omega)) (by omega)
    have g2 := (g1.alloc (by first | omega | (simp <;> omega)) _).trans (b2.mono (by first | omega | (simp; done) | (simp; omega)))
    clear b2 g1 K0_1 K1_1
    have X0 := K0_2.cell
    have F0 := K0_2.free
    have X1 := K1_2.cell
    have F1 := K1_2.free
    replace R2 := R2.mono (show _ ≤ M + 2 by omega)
    go_wp2
    exact bodyPost_ret (v := (⟨k, y, t, s, nm, d⟩ : OpR).val') (by simp [results, Tryd.results42, go_sem, X1]) rfl ⟨⟨⟨k, y, t, s, nm, d⟩, rfl, by unfold OpSm; exact ⟨hnm, hd⟩⟩, (by (repeat (first | (with_reducible assumption) | (with_reducible refine Rd.drew ?_) | (with_reducible refine Rd.drewN ?_ _) | (with_reducible refine Rd.alloc ?_ _) | ((with_reducible refine Rd.far ?_ ?_ _); rotate_left; focus (first | omega | (simp <;> omega))))); done), (by (repeat (first | (with_reducible exact BelowR.refl _ _ _) | (with_reducible assumption) | (with_reducible refine BelowR.drew ?_) | (with_reducible refine BelowR.drewN ?_ _) | ((with_reducible refine BelowR.alloc ?_ ?_ _); rotate_left; focus (first | omega | (simp <;> omega))) | ((with_reducible refine BelowR.setCell ?_ ?_ _); rotate_left; focus (first | (left; rfl) | (right; first | omega | (simp <;> omega)))))); done)⟩
  have hb3 : (v == 3) = false := by rw [beq_eq_false_iff_ne]; exact hc3
  by_cases hc4 : v = 4
  · subst hc4
    have s1 := Sl.list w1 [.int .i64 (-1), .int .i64 5, .int .i64 2001, .int .i64 (-9223372036854775808)] 3 w1.heap.size 4 rfl rfl (by omega)
    go_wp2_with fail
    refine (num_any r _ [(-1), 5, 2001, (-9223372036854775808)] (some ⟨w1.heap.size, 0, none⟩) 4 _ (R1.alloc _) (by omega) s1 (by simp) (by simp) (by rintro g off ⟨⟩; omega)).mono ?_
    rintro e w2 ⟨⟨y, hy, rfl⟩, R2, b2⟩
    have z2 := b2.size
    try simp only [World.size_alloc] at z2
    have K0_2 := (K0_1.alloc _).belowR b2 (by first | omega | (simp; done) | (simp; omega)) (by omega)
    have K1_2 := (K1_1.alloc _).belowR b2 (by first | omega | (simp; done) | (simp; omega)) (by omega)
    have g2 := (g1.alloc (by first | omega | (simp <;> omega)) _).trans (b2.mono (by first | omega | (simp; done) | (simp; omega)))
    clear b2 g1 K0_1 K1_1
    have X0 := K0_2.cell
    have F0 := K0_2.free
    have X1 := K1_2.cell
    have F1 := K1_2.free
    replace R2 := R2.mono (show _ ≤ M + 2 by omega)
    go_wp2
    exact bodyPost_ret (v := (⟨k, f, y, s, nm, d⟩ : OpR).val') (by simp [results, Tryd.results42, go_sem, X1]) rfl ⟨⟨⟨k, f, y, s, nm, d⟩, rfl, by unfold OpSm; exact ⟨hnm, hd⟩⟩, (by (repeat (first | (with_reducible assumption) | (with_reducible refine Rd.drew ?_) | (with_reducible refine Rd.drewN ?_ _) | (with_reducible refine Rd.alloc ?_ _) | ((with_reducible refine Rd.far ?_ ?_ _); rotate_left; focus (first | omega | (simp <;> omega))))); done), (by (repeat (first | (with_reducible exact BelowR.refl _ _ _) | (with_reducible assumption) | (with_reducible refine BelowR.drew ?_) | (with_reducible refine BelowR.drewN ?_ _) | ((with_reducible refine BelowR.alloc ?_ ?_ _); rotate_left; focus (first | omega | (simp <;> omega))) | ((with_reducible refine BelowR.setCell ?_ ?_ _); rotate_left; focus (first | (left; rfl) | (right; first | omega | (simp <;> omega)))))); done)⟩
  have hb4 : (v == 4) = false := by rw [beq_eq_false_iff_ne]; exact hc4
  clear hc0 hc1 hc2 hc3 hc4
  have X0 := K0_1.cell
  have F0 := K0_1.free
  have X1 := K1_1.cell
  have F1 := K1_1.free
  replace R1 := R1.mono (show _ ≤ M + 2 by omega)
  go_wp2
  exact bodyPost_ret (v := (⟨k, f, t, s, nm, d⟩ : OpR).val') (by simp [results, Tryd.results42, go_sem, X1]) rfl ⟨⟨⟨k, f, t, s, nm, d⟩, rfl, by unfold OpSm; exact ⟨hnm, hd⟩⟩, (by (repeat (first | (with_reducible assumption) | (with_reducible refine Rd.drew ?_) | (with_reducible refine Rd.drewN ?_ _) | (with_reducible refine Rd.alloc ?_ _) | ((with_reducible refine Rd.far ?_ ?_ _); rotate_left; focus (first | omega | (simp <;> omega))))); done), (by (repeat (first | (with_reducible exact BelowR.refl _ _ _) | (with_reducible assumption) | (with_reducible refine BelowR.drew ?_) | (with_reducible refine BelowR.drewN ?_ _) | ((with_reducible refine BelowR.alloc ?_ ?_ _); rotate_left; focus (first | omega | (simp <;> omega))) | ((with_reducible refine BelowR.setCell ?_ ?_ _); rotate_left; focus (first | (left; rfl) | (right; first | omega | (simp <;> omega)))))); done)⟩
end Go.Proofs.YtkoefklgfkhmpaaDoor
