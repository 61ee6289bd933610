/- Walks: draws of the arguments of MakeContainer. -/
import Derived.Test.YtfonokhafdflcaaGreatLb
import Derived.Test.YtfonokhafdflcaaGreatGD1
import Derived.Deep.Cut
namespace Go.Proofs.YtfonokhafdflcaaGreat
open Go.RowKit
set_option linter.unusedSimpArgs false
set_option linter.unusedVariables false
set_option maxRecDepth 100000
attribute [local go_sem high] run_index_S binOp_eql_S binOp_neq_S append_S toList_S size_S run_slice_S run_slice_from_S run_slice_to_S wrap64_byteAt wrap64_byteAt_mul bits_or_bytes convU conv1_some convU2 conv2_some
set_option maxHeartbeats 2000000 in
theorem drawMakeContainer_any (bs : Bs) (A : Option Addr) (cap : Nat) (w : World) (hs : Sl w A bs.length cap 1 (bs.map u8v)) :
    Calls Tryz.prog 6 #[.slice A bs.length cap] w fun e w' => (∃ (o l m : Int) (dict d : Bs) (size : Int), e = .returned (.tuple #[.agg #[.int .i64 o, .int .i64 l, .int .i64 m], sv dict, sv d, .int .i64 size]) ∧ dict.length ≤ 40 ∧ d.length ≤ 66 ∧ -1 ≤ size ∧ size ≤ 65) ∧ Below w.heap.size w w' := by
  go_enter Tryz.func6, Tryz.ntmps6
  have hZ0 := Bk.new w #[.int .i64 0, .int .i64 0, .int .i64 0] 24
  have gz : Below w.heap.size w (w.alloc (.cells #[.int .i64 0, .int .i64 0, .int .i64 0] 24)) := (by repeat (first | (with_reducible exact Below.refl _ _) | (with_reducible assumption) | (with_reducible refine Below.drew ?_) | (with_reducible refine Below.alloc ?_ (by first | omega | (simp <;> omega)) _) | (with_reducible refine Below.setCell ?_ (by first | omega | (simp <;> omega)) _) | (with_reducible refine belowN ?_ _)))
  have hs0 := hs.below gz
  go_upto_region 1 with (fail)
  generalize w.alloc (.cells #[.int .i64 0, .int .i64 0, .int .i64 0] 24) = w0 at *
  have z0 := hZ0.lt
  go_wp2_with fail
  refine (l9Open_any bs A cap _ hs0).mono ?_
  rintro e w1 ⟨rfl, R1, hb1⟩
  have z1 := hb1.size
  have K0_1 := hZ0.below hb1 z0
  have g1 : BelowR w.heap.size w0.heap.size w w1 := below_toR (gz.trans (hb1.mono (by omega))) _
  clear hb1 hs hs0 hZ0 gz
  generalize hr0 : w0.heap.size = r at *
  have hrl := R1.lt
  go_wp2_with fail
  refine (l5Setup_any _ _ _ R1 (by omega)).mono ?_
  rintro e w2 ⟨⟨o, l, m, dict, rfl, hst, hdl⟩, R2, b2⟩
  have z2 := b2.size
  try simp only [World.size_alloc, World.size_setCell, World.size_drew] at z2
  have K0_2 := K0_1.belowR b2 (by first | omega | (simp; done) | (simp; omega)) (by omega)
  have g2 := g1.trans (b2.mono (by first | omega | (simp; done) | (simp; omega)))
  clear b2 g1 K0_1
  have K1_3 := Bk.new w2 #[.int .i64 o, .int .i64 l, .int .i64 m] 24
  have K0_3 := K0_2.alloc (.cells #[.int .i64 o, .int .i64 l, .int .i64 m] 24)
  have R3 := R2.alloc (.cells #[.int .i64 o, .int .i64 l, .int .i64 m] 24)
  have g3 := g2.alloc (by omega) (.cells #[.int .i64 o, .int .i64 l, .int .i64 m] 24)
  have z3 : w2.heap.size < (w2.alloc (.cells #[.int .i64 o, .int .i64 l, .int .i64 m] 24)).heap.size := by simp
  clear R2 g2 K0_2
  go_upto_region 3 with (fail)
  generalize w2.alloc (.cells #[.int .i64 o, .int .i64 l, .int .i64 m] 24) = w3 at *
  have hX3 := K1_3.cell
  go_wp2_with fail
  refine (l5Wild_any r _ 60 o l m _ R3 (by omega) (by omega) hst).mono ?_
  rintro e w4 ⟨⟨d, rfl, hd⟩, R4, b4⟩
  have z4 := b4.size
  try simp only [World.size_alloc, World.size_setCell, World.size_drew] at z4
  have K0_4 := K0_3.belowR b4 (by first | omega | (simp; done) | (simp; omega)) (by omega)
  have K1_4 := K1_3.belowR b4 (by first | omega | (simp; done) | (simp; omega)) (by omega)
  have g4 := g3.trans (b4.mono (by first | omega | (simp; done) | (simp; omega)))
  clear b4 g3 K0_3 K1_3
  clear hX3
  go_wp2_with fail
  refine (pick_any _ _ 24 _ R4 (by omega) (by omega) (by omega)).mono ?_
  rintro e w5 ⟨⟨v, rfl, hv0, hv1⟩, R5, b5⟩
  have z5 := b5.size
  try simp only [World.size_alloc, World.size_setCell, World.size_drew] at z5
  have K0_5 := K0_4.belowR b5 (by first | omega | (simp; done) | (simp; omega)) (by omega)
  have K1_5 := K1_4.belowR b5 (by first | omega | (simp; done) | (simp; omega)) (by omega)
  have g5 := g4.trans (b5.mono (by first | omega | (simp; done) | (simp; omega)))
  clear b5 g4 K0_4 K1_4
  have hwv := wrapI (2 + v) (by omega) (by omega)
  go_wp2_with fail
  refine (pick_any _ _ 16 _ R5 (by omega) (by omega) (by omega)).mono ?_
  rintro e w6 ⟨⟨k, rfl, hk0, hk1⟩, R6, b6⟩
  have z6 := b6.size
  try simp only [World.size_alloc, World.size_setCell, World.size_drew] at z6
  have K0_6 := K0_5.belowR b6 (by first | omega | (simp; done) | (simp; omega)) (by omega)
  have K1_6 := K1_5.belowR b6 (by first | omega | (simp; done) | (simp; omega)) (by omega)
  have g6 := g5.trans (b6.mono (by first | omega | (simp; done) | (simp; omega)))
  clear b6 g5 K0_5 K1_5
  by_cases hv : k = 0
  · subst hv
    have hr1 := R6.lt
    have s1 := Sl.list w6 [.int .i64 0, .int .i64 1, .int .i64 64, .int .i64 65, .int .i64 (-1)] 3 w6.heap.size 5 rfl rfl (by omega)
    go_wp2_with fail
    refine (num_any r _ [0, 1, 64, 65, (-1)] (some ⟨w6.heap.size, 0, none⟩) 5 _ (R6.alloc _) (by omega) s1 (by simp) (by simp) (by rintro g off ⟨⟩; omega)).mono ?_
    rintro e w7 ⟨⟨y, hy, rfl⟩, R7, b7⟩
    have z7 := b7.size
    try simp only [World.size_alloc, World.size_setCell, World.size_drew] at z7
    have K0_7 := (K0_6.alloc _).belowR b7 (by first | omega | (simp; done) | (simp; omega)) (by omega)
    have K1_7 := (K1_6.alloc _).belowR b7 (by first | omega | (simp; done) | (simp; omega)) (by omega)
    have g7 := (g6.alloc (by first | omega | (simp <;> omega)) _).trans (b7.mono (by first | omega | (simp; done) | (simp; omega)))
    clear b7 g6 K0_6 K1_6
    have hy1 : -1 ≤ y ∧ y ≤ 65 := by simp at hy; omega
    clear s1 hy
    replace R7 := R7.mono (show _ ≤ 30000 by omega)
    have hX2 := K1_7.cell
    go_wp2_with fail
    refine (l1Bad_any r _ o l m _ R7 (by omega) hst).mono ?_
    rintro e w8 ⟨⟨o', l', m', rfl⟩, R8, b8⟩
    have z8 := b8.size
    try simp only [World.size_alloc, World.size_setCell, World.size_drew] at z8
    have K0_8 := K0_7.belowR b8 (by first | omega | (simp; done) | (simp; omega)) (by omega)
    have g8 := g7.trans (b8.mono (by first | omega | (simp; done) | (simp; omega)))
    clear b8 g7 K0_7
    clear hX2
    have hF := K0_8.free
    have hY := K0_8.cell
    go_wp2
    have Q := (((K0_8.set 0 (.int .i64 o')).set 1 (.int .i64 l')).set 2 (.int .i64 m')).cell
    have g9 : BelowR w.heap.size r w (((w8.setCell ⟨w.heap.size, 0, none⟩ (.int .i64 o')).setCell ⟨w.heap.size, 1, none⟩ (.int .i64 l')).setCell ⟨w.heap.size, 2, none⟩ (.int .i64 m')) := BelowR.setCell (BelowR.setCell (BelowR.setCell g8 (.inr (Nat.le_refl _)) _) (.inr (Nat.le_refl _)) _) (.inr (Nat.le_refl _)) _
    exact bodyPost_ret (v := .tuple #[.agg #[.int .i64 o', .int .i64 l', .int .i64 m'], sv dict, sv d, .int .i64 y]) (by simp [results, Tryz.results6, go_sem, Q]) rfl ⟨⟨o', l', m', dict, d, y, rfl, by omega, by omega, by omega, by omega⟩, g9.below (by omega)⟩
  · have hvb : (k == 0) = false := by rw [beq_eq_false_iff_ne]; exact hv
    have R7 := R6.mono (show _ ≤ 30000 by omega)
    have K0_7 := K0_6
    have K1_7 := K1_6
    have g7 := g6
    have hX2 := K1_7.cell
    go_wp2_with fail
    refine (l1Bad_any r _ o l m _ R7 (by omega) hst).mono ?_
    rintro e w8 ⟨⟨o', l', m', rfl⟩, R8, b8⟩
    have z8 := b8.size
    try simp only [World.size_alloc, World.size_setCell, World.size_drew] at z8
    have K0_8 := K0_7.belowR b8 (by first | omega | (simp; done) | (simp; omega)) (by omega)
    have g8 := g7.trans (b8.mono (by first | omega | (simp; done) | (simp; omega)))
    clear b8 g7 K0_7
    clear hX2
    have hF := K0_8.free
    have hY := K0_8.cell
    go_wp2
    have Q := (((K0_8.set 0 (.int .i64 o')).set 1 (.int .i64 l')).set 2 (.int .i64 m')).cell
    have g9 : BelowR w.heap.size r w (((w8.setCell ⟨w.heap.size, 0, none⟩ (.int .i64 o')).setCell ⟨w.heap.size, 1, none⟩ (.int .i64 l')).setCell ⟨w.heap.size, 2, none⟩ (.int .i64 m')) := BelowR.setCell (BelowR.setCell (BelowR.setCell g8 (.inr (Nat.le_refl _)) _) (.inr (Nat.le_refl _)) _) (.inr (Nat.le_refl _)) _
    exact bodyPost_ret (v := .tuple #[.agg #[.int .i64 o', .int .i64 l', .int .i64 m'], sv dict, sv d, .int .i64 (2 + v)]) (by simp [results, Tryz.results6, go_sem, Q]) rfl ⟨⟨o', l', m', dict, d, (2 + v), rfl, by omega, by omega, by omega, by omega⟩, g9.below (by omega)⟩
end Go.Proofs.YtfonokhafdflcaaGreat
