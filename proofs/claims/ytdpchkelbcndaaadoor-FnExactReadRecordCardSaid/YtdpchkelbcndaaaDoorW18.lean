/- The law of operations parsed. -/
import Derived.Test.YtdpchkelbcndaaaDoorW17
namespace Go.Proofs.YtdpchkelbcndaaaDoor
open Go.RowKit
set_option linter.unusedVariables false
set_option maxRecDepth 100000
attribute [local go_sem high] run_index_S binOp_eql_S binOp_neq_S append_S toList_S size_S run_slice_S run_slice_from_S run_slice_to_S wrap64_byteAt wrap64_byteAt_mul bits_or_bytes convU conv1_some convU2 conv2_some
set_option maxHeartbeats 1000000 in
theorem eqOp_same (k f t s : Int) (nm d : Bs) (w : World) :
    Calls Tryd.prog 13 #[(⟨k, f, t, s, nm, d⟩ : OpR).val, (⟨k, f, t, s, nm, d⟩ : OpR).val] w fun e w' => e = .returned (.bool true) ∧ Below w.heap.size w w' := by
  go_enter Tryd.func13, Tryd.ntmps13
  go_wp2
  go_ret
  exact ⟨rfl, (by repeat (first | (with_reducible exact Below.refl _ _) | (with_reducible assumption) | (with_reducible refine Below.drew ?_) | (with_reducible refine Below.alloc ?_ (by first | omega | (simp <;> omega)) _) | (with_reducible refine Below.setCell ?_ (by first | omega | (simp <;> omega)) _) | (with_reducible refine belowN ?_ _)))⟩
set_option maxHeartbeats 2000000 in
theorem law_ExactParseOp (l : Bs) (w : World) (m : Int) (hm : w.cell? ⟨0, 0, none⟩ = some (.int .i64 m)) (B : Nat) (hB : B ≤ w.heap.size) (hT : HasTab B w) (hE : ErrVars w) (hl : l.length ≤ 9223372036854775807) :
    Calls Tryd.prog 4 #[.string ⟨l.toArray⟩] w fun e w' => e = .returned (.bool true) ∧ Below w.heap.size w w' := by
  have h0 := lt_of_cell hm
  have c1 := fun w hs => sParseOp_any l w hs
  have c2 := fun w hB hT hE hm hs => parseOp_any l m w B hB hT hE hm hs
  have HT := Go.Lib.hid hT
  clear hT
  unfold opRes at c1 c2
  generalize (parseOpR l).getD opZ = x at *
  generalize (parseOpR l).isSome = ok at *
  obtain ⟨k, f, t, s, nm, d⟩ := x
  have hbo : (ok != ok) = false := by cases ok <;> rfl
  go_enter Tryd.func4, Tryd.ntmps4
  by_cases hlen : l.length ≤ 1048576
  · have hli : (l.length : Int) ≤ 1048576 := by omega
    go_wp2_with fail
    refine (c1 _ (by omega)).mono ?_
    rintro e w1 ⟨rfl, hb1⟩
    have hz1 := hb1.size
    go_wp2_with fail
    have K1 := Bk.new w1 (⟨k, f, t, s, nm, d⟩ : OpR).cells 29
    have g1 : Below w.heap.size w (w1.alloc (.cells (⟨k, f, t, s, nm, d⟩ : OpR).cells 29)) := (by repeat (first | (with_reducible exact Below.refl _ _) | (with_reducible assumption) | (with_reducible refine Below.drew ?_) | (with_reducible refine Below.alloc ?_ (by first | omega | (simp <;> omega)) _) | (with_reducible refine Below.setCell ?_ (by first | omega | (simp <;> omega)) _) | (with_reducible refine belowN ?_ _)))
    refine (c2 _ (by simp; omega) (Lib.TabBelow.on HT.out (g1.mono hB)) (hE.on g1) ((g1.cell (p := ⟨0, 0, none⟩) h0).trans hm) (by omega)).mono ?_
    rintro e w2 ⟨rfl, hb2⟩
    have K2 := K1.below hb2 K1.lt
    have hz2 := hb2.size
    simp only [World.size_alloc] at hz2
    have g2 := g1.trans (hb2.mono (by simp; omega))
    clear hb2 K1 g1
    have K3 := K2.alloc (.cells (⟨k, f, t, s, nm, d⟩ : OpR).cells 29)
    have X2 := K3.cell
    simp only [OpR.cells] at X2
    go_wp2_with fail
    refine (eqOp_same k f t s nm d _).mono ?_
    rintro e w3 ⟨rfl, hb3⟩
    have g3 : Below w.heap.size w (w2.alloc (.cells (⟨k, f, t, s, nm, d⟩ : OpR).cells 29)) := (by repeat (first | (with_reducible exact Below.refl _ _) | (with_reducible assumption) | (with_reducible refine Below.drew ?_) | (with_reducible refine Below.alloc ?_ (by first | omega | (simp <;> omega)) _) | (with_reducible refine Below.setCell ?_ (by first | omega | (simp <;> omega)) _) | (with_reducible refine belowN ?_ _)))
    have g4 := g3.trans (hb3.mono (by simp; omega))
    go_wp2
    go_ret
    exact ⟨rfl, g4⟩
  · have hli : (1048576 : Int) < l.length := by omega
    go_wp2
    go_ret
    exact ⟨rfl, Below.refl _ _⟩
end Go.Proofs.YtdpchkelbcndaaaDoor
