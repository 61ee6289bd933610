/- The law of parities parsed. -/
import Derived.Test.YtdpchkelbcndaaaDoorW11
namespace Go.Proofs.YtdpchkelbcndaaaDoor
open Go.RowKit
set_option linter.unusedVariables false
set_option maxRecDepth 100000
attribute [local go_sem high] run_index_S binOp_eql_S binOp_neq_S append_S toList_S size_S run_slice_S run_slice_from_S run_slice_to_S wrap64_byteAt wrap64_byteAt_mul bits_or_bytes convU conv1_some convU2 conv2_some
theorem lt_of_cell {w : World} {b off : Nat} {v : Value} (h : w.cell? ⟨b, off, none⟩ = some v) : b < w.heap.size := by
  rcases Nat.lt_or_ge b w.heap.size with h1 | h1
  · exact h1
  · simp [World.cell?, Array.getElem?_eq_none h1] at h
theorem parsePar_len (t : Bs) : ((parsePar t).getD []).length ≤ 40 := by
  unfold parsePar
  split
  · simp
  · split
    · split
      · rename_i h
        unfold parOk at h
        simp only [Bool.and_eq_true, decide_eq_true_eq] at h
        exact h.1
      · simp
    · simp
theorem SlS.of_own {w : World} {B : Nat} {A : Option Addr} {cap : Nat} {ls : List Bs} (h : w.ownsRow B 9 1 (.slice A ls.length cap) ls.length (ls.map sv)) : SlS w A cap ls := by
  obtain ⟨A', cap', hv, hs⟩ := Sl.of_own h
  injection hv with e1 e2 e3
  subst e1; subst e3
  exact hs
set_option maxHeartbeats 2000000 in
theorem law_ExactParseParity (l : Bs) (w : World) (m : Int) (hm : w.cell? ⟨0, 0, none⟩ = some (.int .i64 m)) (hl : l.length ≤ 9223372036854775807) :
    Calls Tryd.prog 3 #[.string ⟨l.toArray⟩] w fun e w' => e = .returned (.bool true) ∧ Below w.heap.size w w' := by
  have h0 := lt_of_cell hm
  have hln := parsePar_len l
  have c1 := fun w hs => sParseParity_any l w hs
  have c2 := fun w hs hm => parseParity_any l m w hs hm
  unfold ParRes at c1 c2
  generalize (parsePar l).getD [] = ls at *
  generalize (parsePar l).isSome = ok at *
  have hbo : (ok != ok) = false := by cases ok <;> rfl
  have hml : (marks 1 ls.length).length = ls.length := by simp [marks]
  go_enter Tryd.func3, Tryd.ntmps3
  by_cases hlen : l.length ≤ 1048576
  · have hli : (l.length : Int) ≤ 1048576 := by omega
    go_wp2_with fail
    refine (c1 _ (by omega)).mono ?_
    rintro e w1 ⟨A0, ca0, rfl, hown0, hb1⟩
    have hz1 := hb1.size
    have hs0 := SlS.of_own hown0
    have hm1 := (hb1.cell (p := ⟨0, 0, none⟩) h0).trans hm
    go_wp2_with fail
    refine (c2 _ (by omega) hm1).mono ?_
    rintro e w2 ⟨A1, ca1, rfl, hown1, hb2⟩
    have hz2 := hb2.size
    have hs1 := SlS.of_own hown1
    have hs02 := hs0.below hb2
    have g2 := hb1.trans (hb2.mono hz1)
    go_wp2_with fail
    refine (eqStringS_same ls A1 A0 ca1 ca0 _ hs1 hs02 (by omega)).mono ?_
    rintro e w3 ⟨rfl, hb3⟩
    have hz3 := hb3.size
    have hown3 := owns_keep hown1 hb3
    have g3 := g2.trans (hb3.mono (by omega))
    have k3 := hb2.trans (hb3.mono hz2)
    go_wp2_with fail
    refine (markStringS_any ls A1 ca1 w1.heap.size 1 _ (by omega) hown3 (by omega) (by omega)).mono ?_
    rintro e w4 ⟨rfl, hb4, hown4⟩
    have hz4 := hb4.size
    have g4 := g3.trans (hb4.mono (by omega))
    have k4 := k3.trans hb4
    rw [← hml] at hown4
    have hs4 := SlS.of_own (ls := marks 1 ls.length) (by rw [hml] at hown4 ⊢; exact hown4)
    rw [hml] at hown4
    go_wp2_with fail
    refine (heldStringS_any ls.length A1 ca1 1 _ hs4 (by omega) (by omega)).mono ?_
    rintro e w5 ⟨rfl, hb5⟩
    have hz5 := hb5.size
    have hs5 := hs4.below hb5
    have g5 := g4.trans (hb5.mono (by omega))
    have k5 := k4.trans (hb5.mono (by omega))
    have hm5 := (g5.cell (p := ⟨0, 0, none⟩) h0).trans hm
    go_wp2_with fail
    refine (c2 _ (by omega) hm5).mono ?_
    rintro e w6 ⟨A6, ca6, rfl, hown6, hb6⟩
    have hz6 := hb6.size
    have hs6 := SlS.of_own hown6
    have hs06 := hs0.below (k5.trans (hb6.mono (by omega)))
    have hs56 := hs5.below hb6
    have g6 := g5.trans (hb6.mono (by omega))
    go_wp2_with fail
    refine (eqStringS_same ls A6 A0 ca6 ca0 _ hs6 hs06 (by omega)).mono ?_
    rintro e w7 ⟨rfl, hb7⟩
    have hz7 := hb7.size
    have hs57 := hs56.below hb7
    have g7 := g6.trans (hb7.mono (by omega))
    go_wp2_with fail
    refine (heldStringS_any ls.length A1 ca1 1 _ hs57 (by omega) (by omega)).mono ?_
    rintro e w8 ⟨rfl, hb8⟩
    have g8 := g7.trans (hb8.mono (by omega))
    go_wp2
    go_ret
    exact ⟨rfl, g8⟩
  · have hli : (1048576 : Int) < l.length := by omega
    go_wp2
    go_ret
    exact ⟨rfl, Below.refl _ _⟩
end Go.Proofs.YtdpchkelbcndaaaDoor
