/- Walks: the text of an operation. -/
import Derived.Test.YtkoefklgfkhmpaaDoorW3
import Derived.Test.YtkoefklgfkhmpaaDoorW1b
import Derived.Test.YtkoefklgfkhmpaaDoorShelf
import Derived.Test.YtkoefklgfkhmpaaDoorFmt
import Derived.Lib.AppendIntMem
namespace Go.Proofs.YtkoefklgfkhmpaaDoor
open Go.RowKit
set_option linter.unusedVariables false
attribute [local go_sem high] run_index_S binOp_eql_S binOp_neq_S append_S toList_S size_S run_slice_S run_slice_from_S run_slice_to_S wrap64_byteAt wrap64_byteAt_mul bits_or_bytes convU conv1_some convU2 conv2_some
abbrev HasTab (B : Nat) (w : World) : Prop := Lib.TabBelow Tryd.prog B w "internal/strconv.uint64pow10" .u64 Lib.pow10Tab
theorem below_grow (w : World) (k : Nat) (os : Array Obj) : Below w.heap.size w (Go.Sort.grow (w.drewN k) os) :=
  ⟨rfl, rfl, rfl, by simp [Go.Sort.grow], fun i hi => by simp [Go.Sort.grow, Array.getElem?_append, hi]⟩
theorem itoa_any (n : Int) (w : World) (B : Nat) (hB : B ≤ w.heap.size) (hT : HasTab B w) (h0 : -9223372036854775808 ≤ n) (h1 : n ≤ 9223372036854775807) :
    Calls Tryd.prog 25 #[.int .i64 n] w fun e w' => e = .returned (.string ⟨(Lib.itoa n).toArray⟩) ∧ Below w.heap.size w w' :=
  (Tryd.strconv_Itoa n h0 h1 w hT.here).mono fun e w' ⟨he, k, os, hw⟩ => ⟨he, by rw [hw]; exact below_grow _ _ _⟩
set_option maxHeartbeats 2000000 in
theorem formatOp_any (k f t s : Int) (nm d : Bs) (w : World) (B : Nat) (hB : B ≤ w.heap.size) (hT : HasTab B w) (hn : nm.length ≤ 9223372036854775807) (hd : d.length ≤ 9223372036854775807) :
    Calls Tryd.prog 11 #[.agg #[.int .i64 k, .string ⟨nm.toArray⟩, .int .i64 f, .int .i64 t, .int .i64 s, .string ⟨d.toArray⟩]] w fun e w' => e = .returned (.string ⟨(fmtOp k nm f t s d).toArray⟩) ∧ Below w.heap.size w w' := by
  have HT := Go.Lib.hid hT
  clear hT
  have HFM : Hid (fmtOp k nm f t s d = fmtOp k nm f t s d) := rfl
  go_enter Tryd.func11, Tryd.ntmps11
  go_wp2_with fail
  refine (opValid_any _ _ _ _ _ _ _ hn hd).mono ?_
  rintro e w1 ⟨rfl, hb1⟩
  have hz1 := hb1.size
  simp only [World.size_alloc] at hz1
  have X0_1 := box_keep (box_new _ _ _) hb1 (by simp)
  have L0_1 : w.heap.size < w1.heap.size := by omega
  have g1 : Below w.heap.size w w1 := ((Below.refl _ _).alloc (Nat.le_refl _) _).trans (hb1.mono (by simp))
  clear hb1
  by_cases hv : opOk k nm f t s d
  · have hdv : decide (opOk k nm f t s d) = true := by simpa using hv
    have hv' := hv
    obtain ⟨ho1, ho2, ho3⟩ := hv'
    have hl := nameV_len ho1
    have hs0 : 0 ≤ s := by omega
    have hs1 : s ≤ 64 := by omega
    have h4 : d.length ≤ 4000 := by omega
    obtain ⟨hl1, hl2⟩ := hl
    have hi1 := Lib.itoa_length_le s (by omega) (by omega)
    have hx1 := fmtHex_len d
    have hx2 := orDash_len (fmtHex d)
    have HV := Go.Lib.hid hv
    have H3 := Go.Lib.hid ho3
    clear hv ho1 ho2 ho3
    go_wp2_with fail
    refine (itoa_any _ _ B (by omega) (HT.out.on (g1.mono hB)) (by omega) (by omega)).mono ?_
    rintro e w2 ⟨rfl, hb2⟩
    have hz2 := hb2.size
    have X0_2 := box_keep X0_1 hb2 L0_1
    have L0_2 : w.heap.size < w2.heap.size := by omega
    have g2 : Below w.heap.size w w2 := g1.trans (hb2.mono (by omega))
    clear hb2 X0_1 L0_1 g1
    go_wp2_with fail
    refine (formatHex_any _ _ h4).mono ?_
    rintro e w3 ⟨rfl, hb3⟩
    have hz3 := hb3.size
    have X0_3 := box_keep X0_2 hb3 L0_2
    have L0_3 : w.heap.size < w3.heap.size := by omega
    have g3 : Below w.heap.size w w3 := g2.trans (hb3.mono (by omega))
    clear hb3 X0_2 L0_2 g2
    go_wp2_with fail
    refine (orDash_any _ _).mono ?_
    rintro e w' ⟨rfl, rfl⟩
    have hTG : ∀ d os, HasTab B (Go.Sort.grow (redrawn w3 d) os) := fun d os => HT.out.on ((g3.mono hB).trans ((below_regrown w3 d os).mono (by omega)))
    have hBG : ∀ d os, B ≤ (Go.Sort.grow (redrawn w3 d) os).heap.size := fun d os => Nat.le_trans (by omega) (below_regrown w3 d os).size
    have hG := box_class X0_3 L0_3
    by_cases k0 : k = 0
    · have hk : (k == 0) = true := by simpa using k0
      have K := Go.Lib.hid k0
      clear k0
      go_wp2
      go_ret
      exact ⟨ret_S (by rw [fmtOp, if_pos HV.out, if_pos K.out]; simp), g3⟩
    have hk0 : (k == 0) = false := by simpa using k0
    have K0 := Go.Lib.hid k0
    clear k0
    by_cases k0 : k = 1
    · have hk : (k == 1) = true := by simpa using k0
      have K := Go.Lib.hid k0
      clear k0
      go_wp2
      go_ret
      exact ⟨ret_S (by rw [fmtOp, if_pos HV.out, if_neg K0.out, if_pos K.out]; simp), g3⟩
    have hk1 : (k == 1) = false := by simpa using k0
    have K1 := Go.Lib.hid k0
    clear k0
    by_cases k0 : k = 2
    · have hk : (k == 2) = true := by simpa using k0
      have hft : 0 ≤ f ∧ f ≤ t ∧ t ≤ 2000 := by have := H3.out; omega
      obtain ⟨hf0, hft1, hft2⟩ := hft
      have hi2 := Lib.itoa_length_le f (by omega) (by omega)
      have hi3 := Lib.itoa_length_le t (by omega) (by omega)
      have K := Go.Lib.hid k0
      clear k0
      go_wp2_with fail
      refine wp_region_quiet_below (by kernel_rfl) (by kernel_rfl) ?_
      repeat (go_big_quiet_step ((first | (go_at_call 25; exact Calls.regrown_of (itoa_any _ _ B (hBG _ _) (hTG _ _) (by omega) (by omega))))))
      refine wpQuiet_nil ?_
      intro w5 hw2
      have hb5 : Below _ _ w5 := below_of_class hw2
      clear hw2
      go_wp2
      go_ret
      exact ⟨ret_S (by rw [fmtOp, if_pos HV.out, if_neg K0.out, if_neg K1.out, if_pos K.out]; simp), g3.trans (hb5.mono (by omega))⟩
    have hk2 : (k == 2) = false := by simpa using k0
    have K2 := Go.Lib.hid k0
    clear k0
    by_cases k0 : k = 3
    · have hk : (k == 3) = true := by simpa using k0
      have K := Go.Lib.hid k0
      clear k0
      go_wp2
      go_ret
      exact ⟨ret_S (by rw [fmtOp, if_pos HV.out, if_neg K0.out, if_neg K1.out, if_neg K2.out, if_pos K.out]; simp), g3⟩
    have hk3 : (k == 3) = false := by simpa using k0
    have K3 := Go.Lib.hid k0
    clear k0
    go_wp2
    go_ret
    exact ⟨ret_S (by rw [fmtOp, if_pos HV.out, if_neg K0.out, if_neg K1.out, if_neg K2.out, if_neg K3.out]; simp), g3⟩
  · have hdv : decide (opOk k nm f t s d) = false := by simpa using hv
    have HV := Go.Lib.hid hv
    clear hv
    go_wp2
    go_ret
    exact ⟨by rw [fmtOp, if_neg HV.out]; rfl, g1⟩
theorem l3Some_b (l : Bs) (w : World) :
    Calls Tryd.prog 29 #[.string ⟨l.toArray⟩] w fun e w' => e = .returned (.string ⟨(orDash l).toArray⟩) ∧ Below w.heap.size w w' :=
  (l3Some_any l w).mono fun e w' ⟨he, hw⟩ => ⟨he, by subst hw; exact Below.refl _ _⟩
set_option maxHeartbeats 2000000 in
theorem sFormatOp_any (k f t s : Int) (nm d : Bs) (w : World) (hn : nm.length ≤ 9223372036854775807) (hd : d.length ≤ 9223372036854775807) :
    Calls Tryd.prog 13 #[.agg #[.int .i64 k, .string ⟨nm.toArray⟩, .int .i64 f, .int .i64 t, .int .i64 s, .string ⟨d.toArray⟩]] w fun e w' => e = .returned (.string ⟨(fmtOp k nm f t s d).toArray⟩) ∧ Below w.heap.size w w' := by
  go_enter Tryd.func13, Tryd.ntmps13
  go_wp2_with fail
  refine (sOpValid_any _ _ _ _ _ _ _ hn hd).mono ?_
  rintro e w1 ⟨rfl, hb1⟩
  have hz1 := hb1.size
  simp only [World.size_alloc] at hz1
  have X0_1 := box_keep (box_new _ _ _) hb1 (by simp)
  have L0_1 : w.heap.size < w1.heap.size := by omega
  have g1 : Below w.heap.size w w1 := ((Below.refl _ _).alloc (Nat.le_refl _) _).trans (hb1.mono (by simp))
  clear hb1
  by_cases hv : opOk k nm f t s d
  · have hdv : decide (opOk k nm f t s d) = true := by simpa using hv
    have hv' := hv
    obtain ⟨ho1, ho2, ho3⟩ := hv'
    have hl := nameV_len ho1
    have hs0 : 0 ≤ s := by omega
    have hs1 : s ≤ 64 := by omega
    have h4 : d.length ≤ 4000 := by omega
    obtain ⟨hl1, hl2⟩ := hl
    have hi1 := Lib.itoa_length_le s (by omega) (by omega)
    have hx1 := fmtHex_len d
    have hx2 := orDash_len (fmtHex d)
    have HV := Go.Lib.hid hv
    have H3 := Go.Lib.hid ho3
    clear hv ho1 ho2 ho3
    have hG := box_class X0_1 L0_1
    go_wp2_with fail
    refine wp_region_quiet_below (by kernel_rfl) (by kernel_rfl) ?_
    repeat (go_big_quiet_step ((first | (go_at_call 28; exact Calls.regrown_of (l9Dec_int _ _ (by omega) (by omega))) | (go_at_call 30; exact Calls.regrown_of (sFormatHex_any _ _ h4)) | (go_at_call 29; exact Calls.regrown_of (l3Some_b _ _)))))
    refine wpQuiet_nil ?_
    intro w2 hw2
    have hb2 : Below _ _ w2 := below_of_class hw2
    clear hw2
    have hz2 := hb2.size
    have X0_2 := box_keep X0_1 hb2 L0_1
    have L0_2 : w.heap.size < w2.heap.size := by omega
    have g2 : Below w.heap.size w w2 := g1.trans (hb2.mono (by omega))
    clear hb2 X0_1 L0_1 g1 hG
    have hG := box_class X0_2 L0_2
    by_cases k0 : k = 0
    · have hk : (k == 0) = true := by simpa using k0
      have K := Go.Lib.hid k0
      clear k0
      go_wp2
      go_ret
      exact ⟨ret_S (by rw [fmtOp, if_pos HV.out, if_pos K.out]; simp), g2⟩
    have hk0 : (k == 0) = false := by simpa using k0
    have K0 := Go.Lib.hid k0
    clear k0
    by_cases k0 : k = 1
    · have hk : (k == 1) = true := by simpa using k0
      have K := Go.Lib.hid k0
      clear k0
      go_wp2
      go_ret
      exact ⟨ret_S (by rw [fmtOp, if_pos HV.out, if_neg K0.out, if_pos K.out]; simp), g2⟩
    have hk1 : (k == 1) = false := by simpa using k0
    have K1 := Go.Lib.hid k0
    clear k0
    by_cases k0 : k = 2
    · have hk : (k == 2) = true := by simpa using k0
      have hft : 0 ≤ f ∧ f ≤ t ∧ t ≤ 2000 := by have := H3.out; omega
      obtain ⟨hf0, hft1, hft2⟩ := hft
      have hi2 := Lib.itoa_length_le f (by omega) (by omega)
      have hi3 := Lib.itoa_length_le t (by omega) (by omega)
      have K := Go.Lib.hid k0
      clear k0
      go_wp2_with fail
      refine wp_region_quiet_below (by kernel_rfl) (by kernel_rfl) ?_
      repeat (go_big_quiet_step (((go_at_call 28; exact Calls.regrown_of (l9Dec_int _ _ (by omega) (by omega))))))
      refine wpQuiet_nil ?_
      intro w5 hw2
      have hb5 : Below _ _ w5 := below_of_class hw2
      clear hw2
      go_wp2
      go_ret
      exact ⟨ret_S (by rw [fmtOp, if_pos HV.out, if_neg K0.out, if_neg K1.out, if_pos K.out]; simp), g2.trans (hb5.mono (by omega))⟩
    have hk2 : (k == 2) = false := by simpa using k0
    have K2 := Go.Lib.hid k0
    clear k0
    by_cases k0 : k = 3
    · have hk : (k == 3) = true := by simpa using k0
      have K := Go.Lib.hid k0
      clear k0
      go_wp2_with fail
      refine wp_region_quiet_below (by kernel_rfl) (by kernel_rfl) ?_
      repeat (go_big_quiet_step (((go_at_call 28; exact Calls.regrown_of (l9Dec_int _ _ (by omega) (by omega))))))
      refine wpQuiet_nil ?_
      intro w5 hw2
      have hb5 : Below _ _ w5 := below_of_class hw2
      clear hw2
      go_wp2
      go_ret
      exact ⟨ret_S (by rw [fmtOp, if_pos HV.out, if_neg K0.out, if_neg K1.out, if_neg K2.out, if_pos K.out]; simp), g2.trans (hb5.mono (by omega))⟩
    have hk3 : (k == 3) = false := by simpa using k0
    have K3 := Go.Lib.hid k0
    clear k0
    go_wp2
    go_ret
    exact ⟨ret_S (by rw [fmtOp, if_pos HV.out, if_neg K0.out, if_neg K1.out, if_neg K2.out, if_neg K3.out]; simp), g2⟩
  · have hdv : decide (opOk k nm f t s d) = false := by simpa using hv
    have HV := Go.Lib.hid hv
    clear hv
    go_wp2
    go_ret
    exact ⟨by rw [fmtOp, if_neg HV.out]; rfl, g1⟩
end Go.Proofs.YtkoefklgfkhmpaaDoor
