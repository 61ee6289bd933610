import Derived.Test.YtinncdollpajkaaGreatVGD1
import Derived.Test.YtinncdollpajkaaGreatVGR
import Derived.Deep.RegionHeld3
set_option linter.unusedVariables false
set_option linter.unusedSimpArgs false
set_option maxHeartbeats 8000000
namespace Go.Proofs.YtinncdollpajkaaGreat
open Go.RowKit
set_option maxRecDepth 100000
attribute [local go_sem high] zA zu zy zO zK zX zx zk zn zq zi zo yQ zC yf zD
def TW (x : OpR) : Prop := x.nm.length ≤ 100 ∧ x.d.length ≤ 100
abbrev OpR.val' (x : OpR) : Value := .agg #[.int .i64 x.k, .string ⟨x.nm.toArray⟩, .int .i64 x.f, .int .i64 x.t, .int .i64 x.s, .string ⟨x.d.toArray⟩]
def QQ (r M : Nat) (w : World) (e : Ending) (w' : World) : Prop := (∃ x : OpR, e = .returned x.val' ∧ TW x) ∧ Rd w' r M ∧ zl w.heap.size r w w'
theorem OQ (r M : Nat) (so sl sm : Int) (w : World) (hR : Rd w r M) (hM : M ≤ 30000000) (hst : 0 ≤ sl ∧ sl ≤ 8) :
  Calls Tryz.prog 64 #[.pointer (some ⟨r, 0, none⟩), .agg #[.int .i64 so, .int .i64 sl, .int .i64 sm]] w (QQ r (M + 100) w) := by
 have hr := hR.lt
 have K0_0 := (Bk.new w #[.int .i64 so, .int .i64 sl, .int .i64 sm] 24).alloc (.cells #[.int .i64 0, .string ⟨#[]⟩, .int .i64 0, .int .i64 0, .int .i64 0, .string ⟨#[]⟩] 54)
 have K1_0 := Bk.newAt (w.alloc (.cells #[.int .i64 so, .int .i64 sl, .int .i64 sm] 24)) #[.int .i64 0, .string ⟨#[]⟩, .int .i64 0, .int .i64 0, .int .i64 0, .string ⟨#[]⟩] 54 (n := w.heap.size + 1) (by simp)
 have R0 := (hR.alloc (.cells #[.int .i64 so, .int .i64 sl, .int .i64 sm] 24)).alloc (.cells #[.int .i64 0, .string ⟨#[]⟩, .int .i64 0, .int .i64 0, .int .i64 0, .string ⟨#[]⟩] 54)
 have g0 : zl w.heap.size r w ((w.alloc (.cells #[.int .i64 so, .int .i64 sl, .int .i64 sm] 24)).alloc (.cells #[.int .i64 0, .string ⟨#[]⟩, .int .i64 0, .int .i64 0, .int .i64 0, .string ⟨#[]⟩] 54)) := yK zH r
 have s0 := Sl.list ((w.alloc (.cells #[.int .i64 so, .int .i64 sl, .int .i64 sm] 24)).alloc (.cells #[.int .i64 0, .string ⟨#[]⟩, .int .i64 0, .int .i64 0, .int .i64 0, .string ⟨#[]⟩] 54)) [.int .i64 0, .int .i64 0, .int .i64 1, .int .i64 2, .int .i64 2, .int .i64 3, .int .i64 4] 3 (w.heap.size + 2) 7 (by simp) rfl (by omega)
 go_enter Tryz.func64, Tryz.ntmps64
 go_wp2_with fail
 refine (mP r M [0, 0, 1, 2, 2, 3, 4] (some ⟨w.heap.size + 2, 0, none⟩) 7 _ (R0.alloc _) (by omega) s0 (by simp) (by simp) (by rintro g off ⟨⟩; omega)).mono ?_
 rintro e w1 ⟨⟨k, hk, rfl⟩, R1, b1⟩
 have z1 := b1.size
 try simp only [World.size_alloc, World.size_setCell, World.size_drew] at z1
 have K0_1 := (K0_0.alloc _).zN b1 (by first | omega | (simp; done) | (simp; omega)) (by omega)
 have K1_1 := (K1_0.alloc _).zN b1 (by first | omega | (simp; done) | (simp; omega)) (by omega)
 have g1 := (g0.alloc (by first | omega | (simp <;> omega)) _).trans (b1.mono (by first | omega | (simp; done) | (simp; omega)))
 clear b1 g0 K0_0 K1_0
 clear s0
 have s1 := Sl.list w1 [sv [97], sv [98], sv [99], sv [97, 98], sv [108, 111, 110, 103], sv [122]] 9 w1.heap.size 6 rfl rfl (by omega)
 go_wp2_with fail
 refine (Qh r _ [[97], [98], [99], [97, 98], [108, 111, 110, 103], [122]] (some ⟨w1.heap.size, 0, none⟩) 6 _ (R1.alloc _) (by omega) s1 (by simp) (by simp) (by rintro g off ⟨⟩; omega)).mono ?_
 rintro e w2 ⟨⟨nm, hnm, rfl⟩, R2, b2⟩
 have z2 := b2.size
 try simp only [World.size_alloc, World.size_setCell, World.size_drew] at z2
 have K0_2 := (K0_1.alloc _).zN b2 (by first | omega | (simp; done) | (simp; omega)) (by omega)
 have K1_2 := (K1_1.alloc _).zN b2 (by first | omega | (simp; done) | (simp; omega)) (by omega)
 have g2 := (g1.alloc (by first | omega | (simp <;> omega)) _).trans (b2.mono (by first | omega | (simp; done) | (simp; omega)))
 clear b2 g1 K0_1 K1_1
 clear s1
 have hnm2 : nm.length ≤ 4 := by
  simp at hnm
  rcases hnm with h | h | h | h | h | h <;> rw [h] <;> simp
 have hk2 : k = 0 ∨ k = 1 ∨ k = 2 ∨ k = 3 ∨ k = 4 := by
  simp at hk
  omega
 clear hnm hk
 have K2_2 := Bk.new w2 #[.int .i64 k, .string ⟨nm.toArray⟩, .int .i64 0, .int .i64 0, .int .i64 0, .string ⟨#[]⟩] 54
 replace K0_2 := K0_2.alloc (.cells #[.int .i64 k, .string ⟨nm.toArray⟩, .int .i64 0, .int .i64 0, .int .i64 0, .string ⟨#[]⟩] 54)
 replace K1_2 := K1_2.alloc (.cells #[.int .i64 k, .string ⟨nm.toArray⟩, .int .i64 0, .int .i64 0, .int .i64 0, .string ⟨#[]⟩] 54)
 replace R2 := R2.alloc (.cells #[.int .i64 k, .string ⟨nm.toArray⟩, .int .i64 0, .int .i64 0, .int .i64 0, .string ⟨#[]⟩] 54)
 replace g2 := g2.alloc (by omega) (.cells #[.int .i64 k, .string ⟨nm.toArray⟩, .int .i64 0, .int .i64 0, .int .i64 0, .string ⟨#[]⟩] 54)
 have X2 := K2_2.cell
 by_cases hk4 : k = 4
 ·subst hk4
  clear X2
  have X2 := K2_2.cell
  have X1 := K1_2.cell
  have F1 := K1_2.free
  have F2 := K2_2.free
  replace R2 := R2.mono (show _ ≤ M + 100 by omega)
  go_wp2
  exact bodyPost_ret (v := (⟨4, 0, 0, 0, nm, []⟩ : OpR).val') (by simp [results, Tryz.results64, go_sem, X1]) rfl ⟨⟨⟨4, 0, 0, 0, nm, []⟩, rfl, by unfold TW; constructor <;> simp <;> omega⟩, (by (repeat (first | (with_reducible assumption) | (with_reducible refine Rd.drew ?_) | (with_reducible refine Rd.drewN ?_ _) | (with_reducible refine Rd.alloc ?_ _) | ((with_reducible refine Rd.far ?_ ?_ _); rotate_left; focus (first | omega | (simp <;> omega))))); done), (by (repeat (first | (with_reducible exact zl.refl _ _ _) | (with_reducible assumption) | (with_reducible refine zl.drew ?_) | (with_reducible refine zl.drewN ?_ _) | ((with_reducible refine zl.alloc ?_ ?_ _); rotate_left; focus (first | omega | (simp <;> omega))) | ((with_reducible refine zl.setCell ?_ ?_ _); rotate_left; focus (first | (left; rfl) | (right; first | omega | (simp <;> omega)))))); done)⟩
 have hk4b : (k != 4) = true := by simpa using hk4
 go_wp2_with fail
 refine (pick_any r _ 20 _ R2 (by omega) (by omega) (by omega)).mono ?_
 rintro e w3 ⟨⟨s, rfl, hs0, hs1⟩, R3, b3⟩
 have z3 := b3.size
 try simp only [World.size_alloc, World.size_setCell, World.size_drew] at z3
 have K0_3 := K0_2.zN b3 (by first | omega | (simp; done) | (simp; omega)) (by omega)
 have K1_3 := K1_2.zN b3 (by first | omega | (simp; done) | (simp; omega)) (by omega)
 have K2_3 := K2_2.zN b3 (by first | omega | (simp; done) | (simp; omega)) (by omega)
 have g3 := g2.trans (b3.mono (by first | omega | (simp; done) | (simp; omega)))
 clear b3 g2 K0_2 K1_2 K2_2
 have hs2 : s ≤ 19 := by omega
 clear hs1 X2
 have Xs3 := K2_3.cell
 have Fs3 := K2_3.free
 replace K2_3 := K2_3.set 4 (.int .i64 (2 + s))
 replace K0_3 := K0_3.far (p := ⟨w2.heap.size, 4, none⟩) (by show _ ≠ _; simp; omega) (.int .i64 (2 + s))
 replace K1_3 := K1_3.far (p := ⟨w2.heap.size, 4, none⟩) (by show _ ≠ _; simp; omega) (.int .i64 (2 + s))
 replace R3 := R3.far (p := ⟨w2.heap.size, 4, none⟩) (by show _ < _; simp; omega) (.int .i64 (2 + s))
 replace g3 := g3.setCell (p := ⟨w2.heap.size, 4, none⟩) (.inr (by show _ ≤ _; simp; omega)) (.int .i64 (2 + s))
 have X2 := K2_3.cell
 by_cases hk3 : k = 3
 ·subst hk3
  clear X2
  have X2 := K2_3.cell
  have X1 := K1_3.cell
  have F1 := K1_3.free
  have F2 := K2_3.free
  replace R3 := R3.mono (show _ ≤ M + 100 by omega)
  go_wp2
  exact bodyPost_ret (v := (⟨3, 0, 0, 2 + s, nm, []⟩ : OpR).val') (by simp [results, Tryz.results64, go_sem, X1]) rfl ⟨⟨⟨3, 0, 0, 2 + s, nm, []⟩, rfl, by unfold TW; constructor <;> simp <;> omega⟩, (by (repeat (first | (with_reducible assumption) | (with_reducible refine Rd.drew ?_) | (with_reducible refine Rd.drewN ?_ _) | (with_reducible refine Rd.alloc ?_ _) | ((with_reducible refine Rd.far ?_ ?_ _); rotate_left; focus (first | omega | (simp <;> omega))))); done), (by (repeat (first | (with_reducible exact zl.refl _ _ _) | (with_reducible assumption) | (with_reducible refine zl.drew ?_) | (with_reducible refine zl.drewN ?_ _) | ((with_reducible refine zl.alloc ?_ ?_ _); rotate_left; focus (first | omega | (simp <;> omega))) | ((with_reducible refine zl.setCell ?_ ?_ _); rotate_left; focus (first | (left; rfl) | (right; first | omega | (simp <;> omega)))))); done)⟩
 have X0 := K0_3.cell
 have hk2c : k ≤ 2 := by omega
 go_wp2_with fail
 refine (QL r _ 24 so sl sm _ R3 (by omega) (by omega) hst).mono ?_
 rintro e w4 ⟨⟨d, rfl, hd⟩, R4, b4⟩
 have z4 := b4.size
 try simp only [World.size_alloc, World.size_setCell, World.size_drew] at z4
 have K0_4 := K0_3.zN b4 (by first | omega | (simp; done) | (simp; omega)) (by omega)
 have K1_4 := K1_3.zN b4 (by first | omega | (simp; done) | (simp; omega)) (by omega)
 have K2_4 := K2_3.zN b4 (by first | omega | (simp; done) | (simp; omega)) (by omega)
 have g4 := g3.trans (b4.mono (by first | omega | (simp; done) | (simp; omega)))
 clear b4 g3 K0_3 K1_3 K2_3
 clear X2 X0
 have Xs4 := K2_4.cell
 have Fs4 := K2_4.free
 replace K2_4 := K2_4.set 5 (.string ⟨d.toArray⟩)
 replace K0_4 := K0_4.far (p := ⟨w2.heap.size, 5, none⟩) (by show _ ≠ _; simp; omega) (.string ⟨d.toArray⟩)
 replace K1_4 := K1_4.far (p := ⟨w2.heap.size, 5, none⟩) (by show _ ≠ _; simp; omega) (.string ⟨d.toArray⟩)
 replace R4 := R4.far (p := ⟨w2.heap.size, 5, none⟩) (by show _ < _; simp; omega) (.string ⟨d.toArray⟩)
 replace g4 := g4.setCell (p := ⟨w2.heap.size, 5, none⟩) (.inr (by show _ ≤ _; simp; omega)) (.string ⟨d.toArray⟩)
 have X2 := K2_4.cell
 by_cases hk22 : k = 2
 ·subst hk22
  go_wp2_with fail
  refine (pick_any r _ 12 _ R4 (by omega) (by omega) (by omega)).mono ?_
  rintro e w5 ⟨⟨f, rfl, hf0, hf1⟩, R5, b5⟩
  have z5 := b5.size
  try simp only [World.size_alloc, World.size_setCell, World.size_drew] at z5
  have K0_5 := K0_4.zN b5 (by first | omega | (simp; done) | (simp; omega)) (by omega)
  have K1_5 := K1_4.zN b5 (by first | omega | (simp; done) | (simp; omega)) (by omega)
  have K2_5 := K2_4.zN b5 (by first | omega | (simp; done) | (simp; omega)) (by omega)
  have g5 := g4.trans (b5.mono (by first | omega | (simp; done) | (simp; omega)))
  clear b5 g4 K0_4 K1_4 K2_4
  have hf2 : f ≤ 11 := by omega
  clear hf1 X2
  have Xs5 := K2_5.cell
  have Fs5 := K2_5.free
  replace K2_5 := K2_5.set 2 (.int .i64 f)
  replace K0_5 := K0_5.far (p := ⟨w2.heap.size, 2, none⟩) (by show _ ≠ _; simp; omega) (.int .i64 f)
  replace K1_5 := K1_5.far (p := ⟨w2.heap.size, 2, none⟩) (by show _ ≠ _; simp; omega) (.int .i64 f)
  replace R5 := R5.far (p := ⟨w2.heap.size, 2, none⟩) (by show _ < _; simp; omega) (.int .i64 f)
  replace g5 := g5.setCell (p := ⟨w2.heap.size, 2, none⟩) (.inr (by show _ ≤ _; simp; omega)) (.int .i64 f)
  have X5 : (w5.setCell ⟨w2.heap.size, 2, none⟩ (.int .i64 f)).cell? ⟨w2.heap.size, 2, none⟩ = some (.int .i64 f) := K2_5.cell 2
  have X5' := K2_5.cell
  have F5' := K2_5.free
  go_wp2_with fail
  go_region_held3 (fun w' => w'.cell? ⟨w2.heap.size, 2, none⟩ = some (.int .i64 f)) (first | exact X5 | exact X6 | exact (K2_6.set 3 _).cell 2) ((go_at_call 65; refine (pick_any r _ 8 _ (Rd.drew R5) (by omega) (by omega) (by omega)).mono ?_; rintro e w6 ⟨⟨q, rfl, hq0, hq1⟩, R6, b6⟩; have z6 := b6.size; (try simp only [World.size_alloc, World.size_setCell, World.size_drew] at z6); have K0_6 := Bk.zN (by exact K0_5) b6 (by first | omega | (simp <;> omega)) (by omega); have K1_6 := Bk.zN (by exact K1_5) b6 (by first | omega | (simp <;> omega)) (by omega); have K2_6 := Bk.zN (by exact K2_5) b6 (by first | omega | (simp <;> omega)) (by omega); have g6 := (zl.drew g5).trans (b6.mono (by first | omega | (simp <;> omega))); have X6 : w6.cell? ⟨w2.heap.size, 2, none⟩ = some (.int .i64 f) := K2_6.cell 2; have X6' := K2_6.cell; have F6' := K2_6.free))
  all_goals
   have K2f := K2_6.set 3 (.int .i64 (f + q))
   have K1f := K1_6.far (p := ⟨w2.heap.size, 3, none⟩) (by show _ ≠ _; simp; omega) (.int .i64 (f + q))
   have X2 := K2f.cell
   have X1 := K1f.cell
   have F1 := K1f.free
   have X1b := K1_6.cell
   have F1b := K1_6.free
   have F2 := K2f.free
   replace R6 := R6.mono (show _ ≤ M + 100 by omega)
   go_wp2
   exact bodyPost_ret (v := (⟨2, f, f + q, 2 + s, nm, d⟩ : OpR).val') (by simp [results, Tryz.results64, go_sem, X1, X1b]) rfl ⟨⟨⟨2, f, f + q, 2 + s, nm, d⟩, rfl, by unfold TW; constructor <;> simp <;> omega⟩, (by (repeat (first | (with_reducible assumption) | (with_reducible refine Rd.drew ?_) | (with_reducible refine Rd.drewN ?_ _) | (with_reducible refine Rd.alloc ?_ _) | ((with_reducible refine Rd.far ?_ ?_ _); rotate_left; focus (first | omega | (simp <;> omega))))); done), (by (repeat (first | (with_reducible exact zl.refl _ _ _) | (with_reducible assumption) | (with_reducible refine zl.drew ?_) | (with_reducible refine zl.drewN ?_ _) | ((with_reducible refine zl.alloc ?_ ?_ _); rotate_left; focus (first | omega | (simp <;> omega))) | ((with_reducible refine zl.setCell ?_ ?_ _); rotate_left; focus (first | (left; rfl) | (right; first | omega | (simp <;> omega)))))); done)⟩
 ·skip
  have hk2d : (k == 2) = false := by rw [beq_eq_false_iff_ne]; exact hk22
  have hk01 : k = 0 ∨ k = 1 := by omega
  clear X2
  rcases hk01 with hk0 | hk1
  ·subst hk0
   have X2 := K2_4.cell
   have X1 := K1_4.cell
   have F1 := K1_4.free
   have F2 := K2_4.free
   replace R4 := R4.mono (show _ ≤ M + 100 by omega)
   go_wp2
   exact bodyPost_ret (v := (⟨0, 0, 0, 2 + s, nm, d⟩ : OpR).val') (by simp [results, Tryz.results64, go_sem, X1]) rfl ⟨⟨⟨0, 0, 0, 2 + s, nm, d⟩, rfl, by unfold TW; constructor <;> simp <;> omega⟩, (by (repeat (first | (with_reducible assumption) | (with_reducible refine Rd.drew ?_) | (with_reducible refine Rd.drewN ?_ _) | (with_reducible refine Rd.alloc ?_ _) | ((with_reducible refine Rd.far ?_ ?_ _); rotate_left; focus (first | omega | (simp <;> omega))))); done), (by (repeat (first | (with_reducible exact zl.refl _ _ _) | (with_reducible assumption) | (with_reducible refine zl.drew ?_) | (with_reducible refine zl.drewN ?_ _) | ((with_reducible refine zl.alloc ?_ ?_ _); rotate_left; focus (first | omega | (simp <;> omega))) | ((with_reducible refine zl.setCell ?_ ?_ _); rotate_left; focus (first | (left; rfl) | (right; first | omega | (simp <;> omega)))))); done)⟩
  ·subst hk1
   have X2 := K2_4.cell
   have X1 := K1_4.cell
   have F1 := K1_4.free
   have F2 := K2_4.free
   replace R4 := R4.mono (show _ ≤ M + 100 by omega)
   go_wp2
   exact bodyPost_ret (v := (⟨1, 0, 0, 2 + s, nm, d⟩ : OpR).val') (by simp [results, Tryz.results64, go_sem, X1]) rfl ⟨⟨⟨1, 0, 0, 2 + s, nm, d⟩, rfl, by unfold TW; constructor <;> simp <;> omega⟩, (by (repeat (first | (with_reducible assumption) | (with_reducible refine Rd.drew ?_) | (with_reducible refine Rd.drewN ?_ _) | (with_reducible refine Rd.alloc ?_ _) | ((with_reducible refine Rd.far ?_ ?_ _); rotate_left; focus (first | omega | (simp <;> omega))))); done), (by (repeat (first | (with_reducible exact zl.refl _ _ _) | (with_reducible assumption) | (with_reducible refine zl.drew ?_) | (with_reducible refine zl.drewN ?_ _) | ((with_reducible refine zl.alloc ?_ ?_ _); rotate_left; focus (first | omega | (simp <;> omega))) | ((with_reducible refine zl.setCell ?_ ?_ _); rotate_left; focus (first | (left; rfl) | (right; first | omega | (simp <;> omega)))))); done)⟩
theorem Q4 (r M : Nat) (so sl sm : Int) (w : World) (hR : Rd w r M) (hM : M ≤ 30000000) (hst : xH so sl sm) :
  Calls Tryz.prog 64 #[.pointer (some ⟨r, 0, none⟩), .agg #[.int .i64 so, .int .i64 sl, .int .i64 sm]] w (QQ r (M + 100) w) :=
 OQ r M so sl sm w hR hM ⟨by have := hst.2.1; omega, hst.2.2.1⟩
end Go.Proofs.YtinncdollpajkaaGreat
