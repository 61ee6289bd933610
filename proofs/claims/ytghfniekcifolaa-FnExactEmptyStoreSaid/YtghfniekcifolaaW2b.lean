/- Walks: the empty store; the law on it. -/
import Derived.Test.YtghfniekcifolaaW2
namespace Go.Proofs.Ytghfniekcifolaa
open Go.RowKit
set_option linter.unusedVariables false
attribute [local go_sem high] run_index_S binOp_eql_S binOp_neq_S append_S toList_S size_S run_slice_S run_slice_from_S run_slice_to_S wrap64_byteAt wrap64_byteAt_mul bits_or_bytes convU conv1_some convU2 conv2_some
abbrev stV (o l m : Int) (d : Bs) (f : Value) : Value := .agg #[.int .i64 o, .int .i64 l, .int .i64 m, .string ⟨d.toArray⟩, f]
abbrev stZ : Value := .agg #[.int .i64 0, .int .i64 0, .int .i64 0, .string ⟨#[]⟩, .slice none 0 0]
def emptyRes (o l m : Int) (d : Bs) : Value := if fits o l m d then .tuple #[stV o l m d (.slice none 0 0), .bool true] else .tuple #[stZ, .bool false]
theorem toSetting_any (o l m : Int) (w : World) :
    Calls Try.prog 10 #[.agg #[.int .i64 o, .int .i64 l, .int .i64 m]] w fun e w' => e = .returned (.agg #[.int .i64 o, .int .i64 l, .int .i64 m]) ∧ Below w.heap.size w w' := by
  go_enter Try.func10, Try.ntmps10
  go_wp2
  exact bodyPost_ret (v := .agg #[.int .i64 o, .int .i64 l, .int .i64 m]) (by simp [results, Try.results10, go_sem]) rfl ⟨rfl, (by repeat (first | (with_reducible exact Below.refl _ _) | (with_reducible assumption) | (with_reducible refine Below.drew ?_) | (with_reducible refine Below.alloc ?_ (by simp <;> omega) _) | (with_reducible refine Below.setCell ?_ (by simp <;> omega) _) | (with_reducible refine belowN ?_ _)))⟩
theorem eqSetting_same (o l m : Int) (w : World) :
    Calls Try.prog 22 #[.agg #[.int .i64 o, .int .i64 l, .int .i64 m], .agg #[.int .i64 o, .int .i64 l, .int .i64 m]] w fun e w' => e = .returned (.bool true) ∧ Below w.heap.size w w' := by
  go_enter Try.func22, Try.ntmps22
  go_wp2
  go_ret
  exact ⟨rfl, (by repeat (first | (with_reducible exact Below.refl _ _) | (with_reducible assumption) | (with_reducible refine Below.drew ?_) | (with_reducible refine Below.alloc ?_ (by simp <;> omega) _) | (with_reducible refine Below.setCell ?_ (by simp <;> omega) _) | (with_reducible refine belowN ?_ _)))⟩
theorem eqFileS_nil (w : World) :
    Calls Try.prog 23 #[.slice none 0 0, .slice none 0 0] w fun e w' => e = .returned (.bool true) ∧ w = w' := by
  go_enter Try.func23, Try.ntmps23
  go_wp2
  refine wp_loop_rounds 1 ?_
  rw [rounds_succ]
  go_wp2
  go_ret
  exact ⟨rfl, rfl⟩
set_option maxHeartbeats 1000000 in
theorem eqStore_nil (o l m : Int) (d : Bs) (w : World) :
    Calls Try.prog 12 #[stV o l m d (.slice none 0 0), stV o l m d (.slice none 0 0)] w fun e w' => e = .returned (.bool true) ∧ Below w.heap.size w w' := by
  go_enter Try.func12, Try.ntmps12
  go_wp2_with fail
  refine (eqSetting_same _ _ _ _).mono ?_
  rintro e w1 ⟨rfl, hb1⟩
  obtain ⟨hc1, hf1⟩ := bcell hb1
  have hz1 := hb1.size
  simp only [World.size_alloc] at hz1
  go_wp2_with (go_at_call 23; refine (eqFileS_nil _).mono ?_; rintro e w2 ⟨rfl, rfl⟩)
  go_ret
  exact ⟨rfl, (((Below.refl _ _).alloc (Nat.le_refl _) _).alloc (by simp) _).trans (hb1.mono (by simp; omega))⟩
set_option maxHeartbeats 1000000 in
theorem emptyStore_any (o l m : Int) (d : Bs) (w : World) (hs : d.length ≤ 9223372036854775807) :
    Calls Try.prog 11 #[.agg #[.int .i64 o, .int .i64 l, .int .i64 m], .string ⟨d.toArray⟩] w fun e w' => e = .returned (emptyRes o l m d) ∧ Below w.heap.size w w' := by
  go_enter Try.func11, Try.ntmps11
  go_wp2_with fail
  refine (dataFits_any _ _ _ _ _ hs).mono ?_
  rintro e w1 ⟨rfl, hb1⟩
  have hz1 := hb1.size
  simp only [World.size_alloc] at hz1
  have hB1 : ∀ i, w1.cell? ⟨w.heap.size, i, none⟩ = (#[.int .i64 o, .int .i64 l, .int .i64 m] : Array Value)[i]? := box_keep (by simp) hb1 (by simp; omega)
  have hR1 : ∀ i, w1.cell? ⟨w.heap.size + 1, i, none⟩ = (#[.int .i64 0, .int .i64 0, .int .i64 0, .string ⟨#[]⟩, .slice none 0 0] : Array Value)[i]? := box_keep (by simp) hb1 (by simp)
  have hF1 : ∀ i, w1.frozen? ⟨w.heap.size + 1, i, none⟩ = false := box_free (by simp) hb1 (by simp)
  have g1 : Below w.heap.size w w1 := (((Below.refl _ _).alloc (Nat.le_refl _) _).alloc (by simp) _).trans (hb1.mono (by simp; omega))
  clear hb1
  by_cases hv : fits o l m d
  · have hd : decide (fits o l m d) = true := by simpa using hv
    have HV := Go.Lib.hid hv
    clear hv
    go_wp2
    exact bodyPost_ret (v := .tuple #[stV o l m d (.slice none 0 0), .bool true]) (by simp [results, Try.results11, go_sem, hR1]) rfl ⟨by rw [emptyRes, if_pos HV.out], (by repeat (first | (with_reducible exact Below.refl _ _) | (with_reducible assumption) | (with_reducible refine Below.drew ?_) | (with_reducible refine Below.alloc ?_ (by simp <;> omega) _) | (with_reducible refine Below.setCell ?_ (by simp <;> omega) _) | (with_reducible refine belowN ?_ _)))⟩
  · have hd : decide (fits o l m d) = false := by simpa using hv
    have HV := Go.Lib.hid hv
    clear hv
    go_wp2
    exact bodyPost_ret (v := .tuple #[stZ, .bool false]) (by simp [results, Try.results11, go_sem, hR1]) rfl ⟨by rw [emptyRes, if_neg HV.out], (by repeat (first | (with_reducible exact Below.refl _ _) | (with_reducible assumption) | (with_reducible refine Below.drew ?_) | (with_reducible refine Below.alloc ?_ (by simp <;> omega) _) | (with_reducible refine Below.setCell ?_ (by simp <;> omega) _) | (with_reducible refine belowN ?_ _)))⟩
set_option maxHeartbeats 1000000 in
theorem sEmptyStore_any (o l m : Int) (d : Bs) (w : World) (hs : d.length ≤ 9223372036854775807) :
    Calls Try.prog 9 #[.agg #[.int .i64 o, .int .i64 l, .int .i64 m], .string ⟨d.toArray⟩] w fun e w' => e = .returned (emptyRes o l m d) ∧ Below w.heap.size w w' := by
  go_enter Try.func9, Try.ntmps9
  go_wp2_with fail
  refine (l5Ready_any _ _ _ _ _ hs).mono ?_
  rintro e w1 ⟨rfl, hb1⟩
  have hz1 := hb1.size
  simp only [World.size_alloc] at hz1
  have hB1 : ∀ i, w1.cell? ⟨w.heap.size, i, none⟩ = (#[.int .i64 o, .int .i64 l, .int .i64 m] : Array Value)[i]? := box_keep (by simp) hb1 (by simp; omega)
  have hR1 : ∀ i, w1.cell? ⟨w.heap.size + 1, i, none⟩ = (#[.int .i64 0, .int .i64 0, .int .i64 0, .string ⟨#[]⟩, .slice none 0 0] : Array Value)[i]? := box_keep (by simp) hb1 (by simp)
  have hF1 : ∀ i, w1.frozen? ⟨w.heap.size + 1, i, none⟩ = false := box_free (by simp) hb1 (by simp)
  have g1 : Below w.heap.size w w1 := (((Below.refl _ _).alloc (Nat.le_refl _) _).alloc (by simp) _).trans (hb1.mono (by simp; omega))
  clear hb1
  by_cases hv : fits o l m d
  · have hd : decide (fits o l m d) = true := by simpa using hv
    have HV := Go.Lib.hid hv
    clear hv
    go_wp2
    exact bodyPost_ret (v := .tuple #[stV o l m d (.slice none 0 0), .bool true]) (by simp [results, Try.results9, go_sem, hR1]) rfl ⟨by rw [emptyRes, if_pos HV.out], (by repeat (first | (with_reducible exact Below.refl _ _) | (with_reducible assumption) | (with_reducible refine Below.drew ?_) | (with_reducible refine Below.alloc ?_ (by simp <;> omega) _) | (with_reducible refine Below.setCell ?_ (by simp <;> omega) _) | (with_reducible refine belowN ?_ _)))⟩
  · have hd : decide (fits o l m d) = false := by simpa using hv
    have HV := Go.Lib.hid hv
    clear hv
    go_wp2
    exact bodyPost_ret (v := .tuple #[stZ, .bool false]) (by simp [results, Try.results9, go_sem, hR1]) rfl ⟨by rw [emptyRes, if_neg HV.out], (by repeat (first | (with_reducible exact Below.refl _ _) | (with_reducible assumption) | (with_reducible refine Below.drew ?_) | (with_reducible refine Below.alloc ?_ (by simp <;> omega) _) | (with_reducible refine Below.setCell ?_ (by simp <;> omega) _) | (with_reducible refine belowN ?_ _)))⟩
theorem markFileS_nil (k : Int) (w : World) : Calls Try.prog 24 #[.slice none 0 0, .int .i64 k] w fun e w' => e = .returned (.int .i64 k) ∧ w = w' := by
  go_enter Try.func24, Try.ntmps24
  go_wp2
  refine wp_loop_rounds 1 ?_
  rw [rounds_succ]
  go_wp2
  go_ret
  exact ⟨rfl, rfl⟩
theorem heldFileS_nil (k : Int) (w : World) : Calls Try.prog 25 #[.slice none 0 0, .int .i64 k] w fun e w' => e = .returned (.int .i64 k) ∧ w = w' := by
  go_enter Try.func25, Try.ntmps25
  go_wp2
  refine wp_loop_rounds 1 ?_
  rw [rounds_succ]
  go_wp2
  go_ret
  exact ⟨rfl, rfl⟩
theorem markStore_nil (o l m : Int) (d : Bs) (k : Int) (w : World) : Calls Try.prog 13 #[stV o l m d (.slice none 0 0), .int .i64 k] w fun e w' => e = .returned (.int .i64 k) ∧ Below w.heap.size w w' := by
  go_enter Try.func13, Try.ntmps13
  go_wp2_with (go_at_call 24; refine (markFileS_nil _ _).mono ?_; rintro e w2 ⟨rfl, rfl⟩)
  go_ret
  exact ⟨rfl, (by repeat (first | (with_reducible exact Below.refl _ _) | (with_reducible assumption) | (with_reducible refine Below.drew ?_) | (with_reducible refine Below.alloc ?_ (by simp <;> omega) _) | (with_reducible refine Below.setCell ?_ (by simp <;> omega) _) | (with_reducible refine belowN ?_ _)))⟩
theorem heldStore_nil (o l m : Int) (d : Bs) (k : Int) (w : World) (h : 0 ≤ k) : Calls Try.prog 14 #[stV o l m d (.slice none 0 0), .int .i64 k] w fun e w' => e = .returned (.int .i64 k) ∧ Below w.heap.size w w' := by
  go_enter Try.func14, Try.ntmps14
  go_wp2_with (go_at_call 25; refine (heldFileS_nil _ _).mono ?_; rintro e w2 ⟨rfl, rfl⟩)
  go_ret
  exact ⟨rfl, (by repeat (first | (with_reducible exact Below.refl _ _) | (with_reducible assumption) | (with_reducible refine Below.drew ?_) | (with_reducible refine Below.alloc ?_ (by simp <;> omega) _) | (with_reducible refine Below.setCell ?_ (by simp <;> omega) _) | (with_reducible refine belowN ?_ _)))⟩
set_option maxHeartbeats 2000000 in
theorem law_ExactEmptyStore (o l m : Int) (d : Bs) (w : World) (hs : d.length ≤ 9223372036854775807) :
    Calls Try.prog 4 #[.agg #[.int .i64 o, .int .i64 l, .int .i64 m], .string ⟨d.toArray⟩] w fun e w' => e = .returned (.bool true) ∧ Below w.heap.size w w' := by
  go_enter Try.func4, Try.ntmps4
  by_cases hl : d.length ≤ 1048576
  · obtain ⟨V, b, hV, hVo⟩ : ∃ (V : Value) (b : Bool), emptyRes o l m d = .tuple #[V, .bool b] ∧ ∃ o l m d, V = stV o l m d (.slice none 0 0) := by
      by_cases h : fits o l m d
      · exact ⟨_, _, by rw [emptyRes, if_pos h], o, l, m, d, rfl⟩
      · exact ⟨_, _, by rw [emptyRes, if_neg h], 0, 0, 0, [], by simp⟩
    have HV := Go.Lib.hid hV
    clear hV
    obtain ⟨o1, l1, m1, d1, rfl⟩ := hVo
    have c2 := fun w => sEmptyStore_any o l m d w hs
    have c4 := fun w => emptyStore_any o l m d w hs
    rw [HV.out] at c2 c4
    have C2 := Go.Lib.hid c2
    have C4 := Go.Lib.hid c4
    clear c2 c4 HV
    go_wp2_with fail
    refine (toSetting_any _ _ _ _).mono ?_
    rintro e w1 ⟨rfl, hb1⟩
    have hz1 := hb1.size
    simp only [World.size_alloc] at hz1
    have X0_1 := box_keep (box_new _ _ _) hb1 (by simp)
    have L0_1 : w.heap.size < w1.heap.size := by omega
    have g1 : Below w.heap.size w w1 := ((Below.refl _ _).alloc (Nat.le_refl _) _).trans (hb1.mono (by simp))
    clear hb1
    go_wp2_with fail
    refine (C2.out _).mono ?_
    rintro e w2 ⟨rfl, hb2⟩
    have hz2 := hb2.size
    have X0_2 := box_keep X0_1 hb2 L0_1
    have L0_2 : w.heap.size < w2.heap.size := by omega
    have g2 : Below w.heap.size w w2 := g1.trans (hb2.mono (by omega))
    clear hb2 X0_1 L0_1 g1
    go_wp2_with fail
    refine (toSetting_any _ _ _ _).mono ?_
    rintro e w3 ⟨rfl, hb3⟩
    have hz3 := hb3.size
    simp only [World.size_alloc] at hz3
    have X0_3 := box_keep (box_past X0_2 L0_2 _) hb3 (by simp; omega)
    have X1_3 := box_keep (box_new _ _ _) hb3 (by simp)
    have L0_3 : w.heap.size < w3.heap.size := by omega
    have L1_3 : w2.heap.size < w3.heap.size := by omega
    have g3 : Below w.heap.size w w3 := (g2.alloc (by omega) _).trans (hb3.mono (by simp; omega))
    clear hb3 X0_2 L0_2 g2
    go_wp2_with fail
    refine (C4.out _).mono ?_
    rintro e w4 ⟨rfl, hb4⟩
    have hz4 := hb4.size
    have X0_4 := box_keep X0_3 hb4 L0_3
    have X1_4 := box_keep X1_3 hb4 L1_3
    have L0_4 : w.heap.size < w4.heap.size := by omega
    have L1_4 : w2.heap.size < w4.heap.size := by omega
    have g4 : Below w.heap.size w w4 := g3.trans (hb4.mono (by omega))
    clear hb4 X0_3 X1_3 L0_3 L1_3 g3
    go_wp2_with fail
    refine (eqStore_nil _ _ _ _ _).mono ?_
    rintro e w5 ⟨rfl, hb5⟩
    have hz5 := hb5.size
    simp only [World.size_alloc] at hz5
    have X0_5 := box_keep (box_past X0_4 L0_4 _) hb5 (by simp; omega)
    have X1_5 := box_keep (box_past X1_4 L1_4 _) hb5 (by simp; omega)
    have X2_5 := box_keep (box_new _ _ _) hb5 (by simp)
    have L0_5 : w.heap.size < w5.heap.size := by omega
    have L1_5 : w2.heap.size < w5.heap.size := by omega
    have L2_5 : w4.heap.size < w5.heap.size := by omega
    have g5 : Below w.heap.size w w5 := (g4.alloc (by omega) _).trans (hb5.mono (by simp; omega))
    clear hb5 X0_4 X1_4 L0_4 L1_4 g4
    go_wp2_with fail
    refine (markStore_nil _ _ _ _ _ _).mono ?_
    rintro e w6 ⟨rfl, hb6⟩
    have hz6 := hb6.size
    have X0_6 := box_keep X0_5 hb6 L0_5
    have X1_6 := box_keep X1_5 hb6 L1_5
    have X2_6 := box_keep X2_5 hb6 L2_5
    have L0_6 : w.heap.size < w6.heap.size := by omega
    have L1_6 : w2.heap.size < w6.heap.size := by omega
    have L2_6 : w4.heap.size < w6.heap.size := by omega
    have g6 : Below w.heap.size w w6 := g5.trans (hb6.mono (by omega))
    clear hb6 X0_5 X1_5 X2_5 L0_5 L1_5 L2_5 g5
    go_wp2_with fail
    refine (heldStore_nil _ _ _ _ _ _ (by decide)).mono ?_
    rintro e w7 ⟨rfl, hb7⟩
    have hz7 := hb7.size
    have X0_7 := box_keep X0_6 hb7 L0_6
    have X1_7 := box_keep X1_6 hb7 L1_6
    have X2_7 := box_keep X2_6 hb7 L2_6
    have L0_7 : w.heap.size < w7.heap.size := by omega
    have L1_7 : w2.heap.size < w7.heap.size := by omega
    have L2_7 : w4.heap.size < w7.heap.size := by omega
    have g7 : Below w.heap.size w w7 := g6.trans (hb7.mono (by omega))
    clear hb7 X0_6 X1_6 X2_6 L0_6 L1_6 L2_6 g6
    go_wp2_with fail
    refine (toSetting_any _ _ _ _).mono ?_
    rintro e w8 ⟨rfl, hb8⟩
    have hz8 := hb8.size
    have X0_8 := box_keep X0_7 hb8 L0_7
    have X1_8 := box_keep X1_7 hb8 L1_7
    have X2_8 := box_keep X2_7 hb8 L2_7
    have L0_8 : w.heap.size < w8.heap.size := by omega
    have L1_8 : w2.heap.size < w8.heap.size := by omega
    have L2_8 : w4.heap.size < w8.heap.size := by omega
    have g8 : Below w.heap.size w w8 := g7.trans (hb8.mono (by omega))
    clear hb8 X0_7 X1_7 X2_7 L0_7 L1_7 L2_7 g7
    go_wp2_with fail
    refine (C4.out _).mono ?_
    rintro e w9 ⟨rfl, hb9⟩
    have hz9 := hb9.size
    have X0_9 := box_keep X0_8 hb9 L0_8
    have X1_9 := box_keep X1_8 hb9 L1_8
    have X2_9 := box_keep X2_8 hb9 L2_8
    have L0_9 : w.heap.size < w9.heap.size := by omega
    have L1_9 : w2.heap.size < w9.heap.size := by omega
    have L2_9 : w4.heap.size < w9.heap.size := by omega
    have g9 : Below w.heap.size w w9 := g8.trans (hb9.mono (by omega))
    clear hb9 X0_8 X1_8 X2_8 L0_8 L1_8 L2_8 g8
    go_wp2_with fail
    refine (eqStore_nil _ _ _ _ _).mono ?_
    rintro e w10 ⟨rfl, hb10⟩
    have hz10 := hb10.size
    simp only [World.size_alloc] at hz10
    have X0_10 := box_keep (box_past X0_9 L0_9 _) hb10 (by simp; omega)
    have X1_10 := box_keep (box_past X1_9 L1_9 _) hb10 (by simp; omega)
    have X2_10 := box_keep (box_past X2_9 L2_9 _) hb10 (by simp; omega)
    have X3_10 := box_keep (box_new _ _ _) hb10 (by simp)
    have L0_10 : w.heap.size < w10.heap.size := by omega
    have L1_10 : w2.heap.size < w10.heap.size := by omega
    have L2_10 : w4.heap.size < w10.heap.size := by omega
    have L3_10 : w9.heap.size < w10.heap.size := by omega
    have g10 : Below w.heap.size w w10 := (g9.alloc (by omega) _).trans (hb10.mono (by simp; omega))
    clear hb10 X0_9 X1_9 X2_9 L0_9 L1_9 L2_9 g9
    go_wp2_with fail
    refine (heldStore_nil _ _ _ _ _ _ (by decide)).mono ?_
    rintro e w11 ⟨rfl, hb11⟩
    have hz11 := hb11.size
    have X0_11 := box_keep X0_10 hb11 L0_10
    have X1_11 := box_keep X1_10 hb11 L1_10
    have X2_11 := box_keep X2_10 hb11 L2_10
    have X3_11 := box_keep X3_10 hb11 L3_10
    have L0_11 : w.heap.size < w11.heap.size := by omega
    have L1_11 : w2.heap.size < w11.heap.size := by omega
    have L2_11 : w4.heap.size < w11.heap.size := by omega
    have L3_11 : w9.heap.size < w11.heap.size := by omega
    have g11 : Below w.heap.size w w11 := g10.trans (hb11.mono (by omega))
    clear hb11 X0_10 X1_10 X2_10 X3_10 L0_10 L1_10 L2_10 L3_10 g10
    go_wp2
    go_ret
    exact ⟨rfl, g11⟩
  · go_wp2
    go_ret
    exact ⟨rfl, (by repeat (first | (with_reducible exact Below.refl _ _) | (with_reducible assumption) | (with_reducible refine Below.drew ?_) | (with_reducible refine Below.alloc ?_ (by simp <;> omega) _) | (with_reducible refine Below.setCell ?_ (by simp <;> omega) _) | (with_reducible refine belowN ?_ _)))⟩
end Go.Proofs.Ytghfniekcifolaa
