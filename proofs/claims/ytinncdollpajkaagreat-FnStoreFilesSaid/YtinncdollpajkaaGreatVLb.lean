import Derived.Test.YtinncdollpajkaaGreatVGD2
import Derived.Deep.Cut
set_option linter.unusedVariables false
set_option linter.unusedSimpArgs false
set_option maxHeartbeats 8000000
namespace Go.Proofs.YtinncdollpajkaaGreat
open Go.RowKit
set_option maxRecDepth 100000
attribute [local go_sem high] zA zu zy zO zK zX zx zk zn zq zi zo yQ zC yf zD
theorem SG (r M : Nat) (o l m : Int) (w : World) (hR : Rd w r M) (hM : M ≤ 30000000) (hst : xH o l m) :
  Calls Tryz.prog 102 #[.pointer (some ⟨r, 0, none⟩), .agg #[.int .i64 o, .int .i64 l, .int .i64 m]] w fun e w' => (∃ o' l' m' : Int, e = .returned (.agg #[.int .i64 o', .int .i64 l', .int .i64 m'])) ∧ Rd w' r (M + 5) ∧ zl w.heap.size r w w' := by
 have hr := hR.lt
 have hl0 := hst.2.1
 have hl1 := hst.2.2.1
 go_enter Tryz.func102, Tryz.ntmps102
 have K0_0 : Bk ((w.alloc (.cells #[.int .i64 o, .int .i64 l, .int .i64 m] 24)).alloc (.cells #[.int .i64 0, .int .i64 0, .int .i64 0] 24)) w.heap.size 24 #[.int .i64 o, .int .i64 l, .int .i64 m] := tBk
 have K1_0 : Bk ((w.alloc (.cells #[.int .i64 o, .int .i64 l, .int .i64 m] 24)).alloc (.cells #[.int .i64 0, .int .i64 0, .int .i64 0] 24)) (w.heap.size + 1) 24 #[.int .i64 0, .int .i64 0, .int .i64 0] := tBk
 have R0 := (hR.alloc (.cells #[.int .i64 o, .int .i64 l, .int .i64 m] 24)).alloc (.cells #[.int .i64 0, .int .i64 0, .int .i64 0] 24)
 have g0 : zl w.heap.size r w ((w.alloc (.cells #[.int .i64 o, .int .i64 l, .int .i64 m] 24)).alloc (.cells #[.int .i64 0, .int .i64 0, .int .i64 0] 24)) := yK zH r
 go_upto_region 1 with (fail)
 generalize (w.alloc (.cells #[.int .i64 o, .int .i64 l, .int .i64 m] 24)).alloc (.cells #[.int .i64 0, .int .i64 0, .int .i64 0] 24) = w0 at *
 have z0 := K1_0.lt
 go_wp2_with fail
 refine (pick_any r M 40 _ R0 (by omega) (by omega) (by omega)).mono ?_
 rintro e w1 ⟨⟨k, rfl, hk0, hk1⟩, R1, b1⟩
 have z1 := b1.size
 try simp only [World.size_alloc, World.size_setCell, World.size_drew] at z1
 have K0_1 := K0_0.zN b1 (by first | omega | (simp; done) | (simp; omega)) (by omega)
 have K1_1 := K1_0.zN b1 (by first | omega | (simp; done) | (simp; omega)) (by omega)
 have g1 := g0.trans (b1.mono (by first | omega | (simp; done) | (simp; omega)))
 clear b1 g0 K0_0 K1_0
 have zz1 := K1_1.lt
 by_cases h0 : k = 0
 ·subst h0
  have hr1 := R1.lt
  have s1 := Sl.list w1 [.int .i64 (-1), .int .i64 2] 3 w1.heap.size 2 rfl rfl (by omega)
  go_wp2_with fail
  refine (mP r _ [(-1), 2] (some ⟨w1.heap.size, 0, none⟩) 2 _ (R1.alloc _) (by omega) s1 (by simp) (by simp) (by rintro g off ⟨⟩; omega)).mono ?_
  rintro e w2 ⟨⟨y, hy, rfl⟩, R2, b2⟩
  have z2 := b2.size
  try simp only [World.size_alloc, World.size_setCell, World.size_drew] at z2
  have K0_2 := (K0_1.alloc _).zN b2 (by first | omega | (simp; done) | (simp; omega)) (by omega)
  have K1_2 := (K1_1.alloc _).zN b2 (by first | omega | (simp; done) | (simp; omega)) (by omega)
  have g2 := (g1.alloc (by first | omega | (simp <;> omega)) _).trans (b2.mono (by first | omega | (simp; done) | (simp; omega)))
  clear b2 g1 K0_1 K1_1
  clear s1 hy
  have hX2 := K0_2.cell
  have hF2 := K0_2.free
  have K0_3 := K0_2.set 0 (.int .i64 y)
  have K1_3 := K1_2.far (p := ⟨w.heap.size, 0, none⟩) (by show w.heap.size + 1 ≠ w.heap.size; omega) (.int .i64 y)
  have R3 := R2.far (p := ⟨w.heap.size, 0, none⟩) (by show r < w.heap.size; omega) (.int .i64 y)
  have g3 := g2.setCell (p := ⟨w.heap.size, 0, none⟩) (.inr (Nat.le_refl _)) (.int .i64 y)
  simp only [List.setIfInBounds_toArray, List.set_cons_zero, List.set_cons_succ] at K0_3
  go_upto_region 8 with (fail)
  generalize w2.setCell ⟨w.heap.size, 0, none⟩ (.int .i64 y) = W at *
  clear K0_2 K1_2 R2 g2 hX2 hF2
  have hX := K0_3.cell
  have hF := K1_3.free
  have hY := K1_3.cell
  go_wp2
  have Q := (((K1_3.set 0 (.int .i64 y)).set 1 (.int .i64 l)).set 2 (.int .i64 m)).cell
  have R9 : Rd (((W.setCell ⟨w.heap.size + 1, 0, none⟩ (.int .i64 y)).setCell ⟨w.heap.size + 1, 1, none⟩ (.int .i64 l)).setCell ⟨w.heap.size + 1, 2, none⟩ (.int .i64 m)) r (M + 5) := Rd.far (Rd.far (Rd.far (R3.mono (by omega)) (by show r < w.heap.size + 1; omega) _) (by show r < w.heap.size + 1; omega) _) (by show r < w.heap.size + 1; omega) _
  have g9 : zl w.heap.size r w (((W.setCell ⟨w.heap.size + 1, 0, none⟩ (.int .i64 y)).setCell ⟨w.heap.size + 1, 1, none⟩ (.int .i64 l)).setCell ⟨w.heap.size + 1, 2, none⟩ (.int .i64 m)) := zl.setCell (zl.setCell (zl.setCell g3 (.inr (by show w.heap.size ≤ w.heap.size + 1; omega)) _) (.inr (by show w.heap.size ≤ w.heap.size + 1; omega)) _) (.inr (by show w.heap.size ≤ w.heap.size + 1; omega)) _
  exact bodyPost_ret (v := .agg #[.int .i64 y, .int .i64 l, .int .i64 m]) (by simp [results, Tryz.results102, go_sem, Q]) rfl ⟨⟨y, l, m, rfl⟩, R9, g9⟩
 have hkb0 : (k == 0) = false := by rw [beq_eq_false_iff_ne]; exact h0
 by_cases h1 : k = 1
 ·subst h1
  have hr1 := R1.lt
  have s1 := Sl.list w1 [.int .i64 0, .int .i64 9, .int .i64 (-1), .int .i64 9223372036854775807] 3 w1.heap.size 4 rfl rfl (by omega)
  go_wp2_with fail
  refine (mP r _ [0, 9, (-1), 9223372036854775807] (some ⟨w1.heap.size, 0, none⟩) 4 _ (R1.alloc _) (by omega) s1 (by simp) (by simp) (by rintro g off ⟨⟩; omega)).mono ?_
  rintro e w2 ⟨⟨y, hy, rfl⟩, R2, b2⟩
  have z2 := b2.size
  try simp only [World.size_alloc, World.size_setCell, World.size_drew] at z2
  have K0_2 := (K0_1.alloc _).zN b2 (by first | omega | (simp; done) | (simp; omega)) (by omega)
  have K1_2 := (K1_1.alloc _).zN b2 (by first | omega | (simp; done) | (simp; omega)) (by omega)
  have g2 := (g1.alloc (by first | omega | (simp <;> omega)) _).trans (b2.mono (by first | omega | (simp; done) | (simp; omega)))
  clear b2 g1 K0_1 K1_1
  clear s1 hy
  have hX2 := K0_2.cell
  have hF2 := K0_2.free
  have K0_3 := K0_2.set 1 (.int .i64 y)
  have K1_3 := K1_2.far (p := ⟨w.heap.size, 1, none⟩) (by show w.heap.size + 1 ≠ w.heap.size; omega) (.int .i64 y)
  have R3 := R2.far (p := ⟨w.heap.size, 1, none⟩) (by show r < w.heap.size; omega) (.int .i64 y)
  have g3 := g2.setCell (p := ⟨w.heap.size, 1, none⟩) (.inr (Nat.le_refl _)) (.int .i64 y)
  simp only [List.setIfInBounds_toArray, List.set_cons_zero, List.set_cons_succ] at K0_3
  go_upto_region 8 with (fail)
  generalize w2.setCell ⟨w.heap.size, 1, none⟩ (.int .i64 y) = W at *
  clear K0_2 K1_2 R2 g2 hX2 hF2
  have hX := K0_3.cell
  have hF := K1_3.free
  have hY := K1_3.cell
  go_wp2
  have Q := (((K1_3.set 0 (.int .i64 o)).set 1 (.int .i64 y)).set 2 (.int .i64 m)).cell
  have R9 : Rd (((W.setCell ⟨w.heap.size + 1, 0, none⟩ (.int .i64 o)).setCell ⟨w.heap.size + 1, 1, none⟩ (.int .i64 y)).setCell ⟨w.heap.size + 1, 2, none⟩ (.int .i64 m)) r (M + 5) := Rd.far (Rd.far (Rd.far (R3.mono (by omega)) (by show r < w.heap.size + 1; omega) _) (by show r < w.heap.size + 1; omega) _) (by show r < w.heap.size + 1; omega) _
  have g9 : zl w.heap.size r w (((W.setCell ⟨w.heap.size + 1, 0, none⟩ (.int .i64 o)).setCell ⟨w.heap.size + 1, 1, none⟩ (.int .i64 y)).setCell ⟨w.heap.size + 1, 2, none⟩ (.int .i64 m)) := zl.setCell (zl.setCell (zl.setCell g3 (.inr (by show w.heap.size ≤ w.heap.size + 1; omega)) _) (.inr (by show w.heap.size ≤ w.heap.size + 1; omega)) _) (.inr (by show w.heap.size ≤ w.heap.size + 1; omega)) _
  exact bodyPost_ret (v := .agg #[.int .i64 o, .int .i64 y, .int .i64 m]) (by simp [results, Tryz.results102, go_sem, Q]) rfl ⟨⟨o, y, m, rfl⟩, R9, g9⟩
 have hkb1 : (k == 1) = false := by rw [beq_eq_false_iff_ne]; exact h1
 by_cases h2 : k = 2
 ·subst h2
  have hr1 := R1.lt
  have s1 := Sl.list w1 [.int .i64 (l + 1), .int .i64 11, .int .i64 (-1), .int .i64 (-9223372036854775808)] 3 w1.heap.size 4 rfl rfl (by omega)
  have hX1 := K0_1.cell
  go_wp2_with fail
  refine (mP r _ [(l + 1), 11, (-1), (-9223372036854775808)] (some ⟨w1.heap.size, 0, none⟩) 4 _ (R1.alloc _) (by omega) s1 (by simp) (by simp) (by rintro g off ⟨⟩; omega)).mono ?_
  rintro e w2 ⟨⟨y, hy, rfl⟩, R2, b2⟩
  have z2 := b2.size
  try simp only [World.size_alloc, World.size_setCell, World.size_drew] at z2
  have K0_2 := (K0_1.alloc _).zN b2 (by first | omega | (simp; done) | (simp; omega)) (by omega)
  have K1_2 := (K1_1.alloc _).zN b2 (by first | omega | (simp; done) | (simp; omega)) (by omega)
  have g2 := (g1.alloc (by first | omega | (simp <;> omega)) _).trans (b2.mono (by first | omega | (simp; done) | (simp; omega)))
  clear b2 g1 K0_1 K1_1
  clear s1 hy
  have hX2 := K0_2.cell
  have hF2 := K0_2.free
  have K0_3 := K0_2.set 2 (.int .i64 y)
  have K1_3 := K1_2.far (p := ⟨w.heap.size, 2, none⟩) (by show w.heap.size + 1 ≠ w.heap.size; omega) (.int .i64 y)
  have R3 := R2.far (p := ⟨w.heap.size, 2, none⟩) (by show r < w.heap.size; omega) (.int .i64 y)
  have g3 := g2.setCell (p := ⟨w.heap.size, 2, none⟩) (.inr (Nat.le_refl _)) (.int .i64 y)
  simp only [List.setIfInBounds_toArray, List.set_cons_zero, List.set_cons_succ] at K0_3
  go_upto_region 8 with (fail)
  generalize w2.setCell ⟨w.heap.size, 2, none⟩ (.int .i64 y) = W at *
  clear K0_2 K1_2 R2 g2 hX2 hF2
  have hX := K0_3.cell
  have hF := K1_3.free
  have hY := K1_3.cell
  go_wp2
  have Q := (((K1_3.set 0 (.int .i64 o)).set 1 (.int .i64 l)).set 2 (.int .i64 y)).cell
  have R9 : Rd (((W.setCell ⟨w.heap.size + 1, 0, none⟩ (.int .i64 o)).setCell ⟨w.heap.size + 1, 1, none⟩ (.int .i64 l)).setCell ⟨w.heap.size + 1, 2, none⟩ (.int .i64 y)) r (M + 5) := Rd.far (Rd.far (Rd.far (R3.mono (by omega)) (by show r < w.heap.size + 1; omega) _) (by show r < w.heap.size + 1; omega) _) (by show r < w.heap.size + 1; omega) _
  have g9 : zl w.heap.size r w (((W.setCell ⟨w.heap.size + 1, 0, none⟩ (.int .i64 o)).setCell ⟨w.heap.size + 1, 1, none⟩ (.int .i64 l)).setCell ⟨w.heap.size + 1, 2, none⟩ (.int .i64 y)) := zl.setCell (zl.setCell (zl.setCell g3 (.inr (by show w.heap.size ≤ w.heap.size + 1; omega)) _) (.inr (by show w.heap.size ≤ w.heap.size + 1; omega)) _) (.inr (by show w.heap.size ≤ w.heap.size + 1; omega)) _
  exact bodyPost_ret (v := .agg #[.int .i64 o, .int .i64 l, .int .i64 y]) (by simp [results, Tryz.results102, go_sem, Q]) rfl ⟨⟨o, l, y, rfl⟩, R9, g9⟩
 have hkb2 : (k == 2) = false := by rw [beq_eq_false_iff_ne]; exact h2
 have hX := K0_1.cell
 have hF := K1_1.free
 have hY := K1_1.cell
 go_wp2
 have Q := (((K1_1.set 0 (.int .i64 o)).set 1 (.int .i64 l)).set 2 (.int .i64 m)).cell
 have R9 : Rd (((w1.setCell ⟨w.heap.size + 1, 0, none⟩ (.int .i64 o)).setCell ⟨w.heap.size + 1, 1, none⟩ (.int .i64 l)).setCell ⟨w.heap.size + 1, 2, none⟩ (.int .i64 m)) r (M + 5) := Rd.far (Rd.far (Rd.far (R1.mono (by omega)) (by show r < w.heap.size + 1; omega) _) (by show r < w.heap.size + 1; omega) _) (by show r < w.heap.size + 1; omega) _
 have g9 : zl w.heap.size r w (((w1.setCell ⟨w.heap.size + 1, 0, none⟩ (.int .i64 o)).setCell ⟨w.heap.size + 1, 1, none⟩ (.int .i64 l)).setCell ⟨w.heap.size + 1, 2, none⟩ (.int .i64 m)) := zl.setCell (zl.setCell (zl.setCell g1 (.inr (by show w.heap.size ≤ w.heap.size + 1; omega)) _) (.inr (by show w.heap.size ≤ w.heap.size + 1; omega)) _) (.inr (by show w.heap.size ≤ w.heap.size + 1; omega)) _
 exact bodyPost_ret (v := .agg #[.int .i64 o, .int .i64 l, .int .i64 m]) (by simp [results, Tryz.results102, go_sem, Q]) rfl ⟨⟨o, l, m, rfl⟩, R9, g9⟩
end Go.Proofs.YtinncdollpajkaaGreat
