/- Walks: what is known after a code of any kind; the least code with a word. -/
import Derived.Test.YtgcjfddkgbigoaaS5
namespace Go.Proofs.Ytgcjfddkgbigoaa
open Go.RowKit
set_option linter.unusedVariables false
set_option maxRecDepth 100000
attribute [local go_sem high] run_index_S binOp_eql_S binOp_neq_S append_S toList_S size_S run_slice_S run_slice_from_S run_slice_to_S wrap64_byteAt wrap64_byteAt_mul bits_or_bytes convU conv1_some convU2 conv2_some
theorem l2Step_any (K : Kn) (A : Option Addr) (cap : Nat) (c : Int) (w : World) (hk : K.ok) (hs : Sl w A K.ps.length cap 2 (psV K.ps)) (hc : c ≠ K.cl → K.fol c = true) :
    Calls Try.prog 141 #[knV K A cap, .int .i64 c] w (KnRes (K.step c) w) := by
  have hp := hk.lm
  obtain ⟨hp1, hp2, hp3, hp4⟩ := hp
  by_cases he : c = K.cl
  · have HS : K.step c = K.cleared := if_pos he
    rw [HS]
    have hd : (c == pow2 K.l) = true := by simpa [Kn.cl] using he
    clear he hc HS
    go_enter Try.func141, Try.ntmps141
    go_wp2_with fail
    refine (l1Clear_any _ _ _ _ hp1 hp2).mono ?_
    rintro e w1 ⟨rfl, hb1⟩
    have hz1 := hb1.size
    simp only [World.size_alloc] at hz1
    have hK1 : Bk w1 w.heap.size 127 (knC K A cap) := (Bk.alloc (Bk.new _ _ _) _).below hb1 (by simp; omega)
    have hR1 : Bk w1 (w.heap.size + 1) 127 knZ := (Bk.newAt _ _ _ (by simp)).below hb1 (by simp)
    have g1 : Below w.heap.size w w1 := ((by repeat (first | (with_reducible exact Below.refl _ _) | (with_reducible assumption) | (with_reducible refine Below.drew ?_) | (with_reducible refine Below.alloc ?_ (by first | omega | (simp <;> omega)) _) | (with_reducible refine Below.setCell ?_ (by first | omega | (simp <;> omega)) _) | (with_reducible refine belowN ?_ _))) : Below w.heap.size w ((w.alloc (.cells (knC K A cap) 127)).alloc (.cells knZ 127))).trans (hb1.mono (by simp; omega))
    clear hb1
    have hX := hK1.cell
    go_wp2_with fail
    refine (l2Cleared_any K A cap _ hk (hs.below g1)).mono ?_
    rintro e w2 ⟨A2, cap2, rfl, hown, hb2⟩
    have hz2 := hb2.size
    have g2 := g1.trans (hb2.mono (by omega))
    have hR2 := hR1.below hb2 (by omega)
    have hQ := hR2.cell
    have hF := hR2.free
    clear hX
    go_wp2_with fail
    refine bodyPost_ret (v := knV K.cleared A2 cap2) (by simp [results, Try.results141, go_sem, hQ]) rfl ⟨A2, cap2, rfl, ?_, (by repeat (first | (with_reducible exact Below.refl _ _) | (with_reducible assumption) | (with_reducible refine Below.drew ?_) | (with_reducible refine Below.alloc ?_ (by first | omega | (simp <;> omega)) _) | (with_reducible refine Below.setCell ?_ (by first | omega | (simp <;> omega)) _) | (with_reducible refine belowN ?_ _)))⟩
    refine own_mono (B := w1.heap.size) ?_ (by omega)
    iterate 6 refine ownsRow_setCell_below ?_ (by simp; omega) _
    exact hown
  · have HS : K.step c = K.after c := if_neg he
    rw [HS]
    have hf := hc he
    have hd : (c == pow2 K.l) = false := by simpa [Kn.cl] using he
    clear he hc HS
    go_enter Try.func141, Try.ntmps141
    go_wp2_with fail
    refine (l1Clear_any _ _ _ _ hp1 hp2).mono ?_
    rintro e w1 ⟨rfl, hb1⟩
    have hz1 := hb1.size
    simp only [World.size_alloc] at hz1
    have hK1 : Bk w1 w.heap.size 127 (knC K A cap) := (Bk.alloc (Bk.new _ _ _) _).below hb1 (by simp; omega)
    have hR1 : Bk w1 (w.heap.size + 1) 127 knZ := (Bk.newAt _ _ _ (by simp)).below hb1 (by simp)
    have g1 : Below w.heap.size w w1 := ((by repeat (first | (with_reducible exact Below.refl _ _) | (with_reducible assumption) | (with_reducible refine Below.drew ?_) | (with_reducible refine Below.alloc ?_ (by first | omega | (simp <;> omega)) _) | (with_reducible refine Below.setCell ?_ (by first | omega | (simp <;> omega)) _) | (with_reducible refine belowN ?_ _))) : Below w.heap.size w ((w.alloc (.cells (knC K A cap) 127)).alloc (.cells knZ 127))).trans (hb1.mono (by simp; omega))
    clear hb1
    have hX := hK1.cell
    go_wp2_with fail
    refine (l2After_any K A cap c _ hk (hs.below g1) hf).mono ?_
    generalize K.after c = K2 at *
    rintro e w2 ⟨A2, cap2, rfl, hown, hb2⟩
    have hz2 := hb2.size
    have g2 := g1.trans (hb2.mono (by omega))
    have hR2 := hR1.below hb2 (by omega)
    have hQ := hR2.cell
    have hF := hR2.free
    clear hX
    go_wp2_with fail
    refine bodyPost_ret (v := knV K2 A2 cap2) (by simp [results, Try.results141, go_sem, hQ]) rfl ⟨A2, cap2, rfl, ?_, (by repeat (first | (with_reducible exact Below.refl _ _) | (with_reducible assumption) | (with_reducible refine Below.drew ?_) | (with_reducible refine Below.alloc ?_ (by first | omega | (simp <;> omega)) _) | (with_reducible refine Below.setCell ?_ (by first | omega | (simp <;> omega)) _) | (with_reducible refine belowN ?_ _)))⟩
    refine own_mono (B := w1.heap.size) ?_ (by omega)
    iterate 6 refine ownsRow_setCell_below ?_ (by simp; omega) _
    exact hown
theorem find_first (K : Kn) (x : Bs) (hx : ¬ (x.length = 1 ∧ headI x < K.cl)) (i : Nat) (hi : i < K.cands.length) (hj : ∀ j, (h : j < i) → K.any (K.cl + 2 + (j : Int)) ≠ x) (he : K.any (K.cl + 2 + (i : Int)) = x) : K.find x = K.cl + 2 + (i : Int) := by
  unfold Kn.find
  rw [if_neg hx]
  have : K.cands.findIdx? (fun y => decide (y = x)) = some i := by
    rw [List.findIdx?_eq_some_iff_getElem]
    refine ⟨hi, by simpa [Kn.cands] using he, fun j hji => ?_⟩
    have := hj j hji
    simpa [Kn.cands] using this
  rw [this]
theorem find_none (K : Kn) (x : Bs) (hx : ¬ (x.length = 1 ∧ headI x < K.cl)) (hj : ∀ j, (h : j < K.cands.length) → K.any (K.cl + 2 + (j : Int)) ≠ x) : K.find x = -1 := by
  unfold Kn.find
  rw [if_neg hx]
  have : K.cands.findIdx? (fun y => decide (y = x)) = none := by
    rw [List.findIdx?_eq_none_iff]
    intro y hy
    obtain ⟨j, hjl, rfl⟩ := List.getElem_of_mem hy
    have := hj j hjl
    simpa [Kn.cands] using this
  rw [this]
theorem l2Find_any (K : Kn) (A : Option Addr) (cap : Nat) (x : Bs) (w : World) (hk : K.ok) (hs : Sl w A K.ps.length cap 2 (psV K.ps)) (hl : x.length ≤ 100000) :
    Calls Try.prog 130 #[knV K A cap, .string ⟨x.toArray⟩] w fun e w' => e = .returned (.int .i64 (K.find x)) ∧ Below w.heap.size w w' := by
  have hbd := hk.bd
  have hgr := K.great_bd hk
  have hp := hk.lm
  obtain ⟨hp1, hp2, hp3, hp4⟩ := hp
  have hpp := pow2_bd K.l hp1 hp2
  obtain ⟨hpp1, hpp2⟩ := hpp
  have HC := Go.Lib.hid (K.cands_length)
  have HCL : Go.RowKit.Hid (K.cl = pow2 K.l) := rfl
  have hx1 := byteAt_nonneg x 0
  have hx2 := byteAt_le x 0
  have hwx : IntKind.i64.wrap (byteAt x 0) = byteAt x 0 := IntWalk.i64_in _ (by omega)
  by_cases hone : x.length = 1 ∧ headI x < K.cl
  · have HX : Go.RowKit.Hid (K.find x = byteAt x 0) := by show _ = _; unfold Kn.find; rw [if_pos hone, headI_eq]
    rw [headI_eq] at hone
    obtain ⟨h1, h2⟩ := hone
    have h2 : byteAt x 0 < pow2 K.l := h2
    have h0x : 0 < x.length := by omega
    have hl1 : ((x.length : Int) == 1) = true := by simp; omega
    clear h1
    go_enter Try.func130, Try.ntmps130
    go_wp2_with fail
    have hG := box_class (box_new w (knC K A cap) 127) (by simp)
    refine wp_region_quiet_below (by kernel_rfl) (by kernel_rfl) ?_
    repeat (go_big_quiet_step ((go_at_call 104; exact Calls.regrown_of (l1Clear_any _ _ _ _ hp1 hp2))))
    refine wpQuiet_nil ?_
    intro w2 hw2
    have hb2 : Below _ _ w2 := below_of_class hw2
    clear hw2
    go_wp2
    go_ret
    exact ⟨ret_int HX.out.symm, ((Below.refl _ _).alloc (Nat.le_refl _) _).trans (hb2.mono (by simp))⟩
  · have HN := Go.Lib.hid hone
    rw [headI_eq] at hone
    have key : ((x.length : Int) == 1) = false ∨ (((x.length : Int) == 1) = true ∧ ¬ byteAt x 0 < pow2 K.l ∧ 0 < x.length) := by
      by_cases h1 : x.length = 1
      · right
        refine ⟨by simp; omega, fun h => hone ⟨h1, h⟩, by omega⟩
      · left; simp; omega
    clear hone
    go_enter Try.func130, Try.ntmps130
    rcases key with hl1 | ⟨hl1, h2, h0x⟩
    all_goals
      go_wp2_with fail
      have hG := box_class (box_new w (knC K A cap) 127) (by simp)
      refine wp_region_quiet_below (by kernel_rfl) (by kernel_rfl) ?_
      repeat (go_big_quiet_step ((go_at_call 104; exact Calls.regrown_of (l1Clear_any _ _ _ _ hp1 hp2))))
      refine wpQuiet_nil ?_
      intro w2 hw2
      have hb2 : Below _ _ w2 := below_of_class hw2
      clear hw2
      have hz2 := hb2.size
      simp only [World.size_alloc] at hz2
      have hX2 : ∀ i, w2.cell? ⟨w.heap.size, i, none⟩ = (knC K A cap)[i]? := box_keep (box_new _ _ _) hb2 (by simp)
      have g2 : Below w.heap.size w w2 := ((Below.refl _ _).alloc (Nat.le_refl _) _).trans (hb2.mono (by simp))
      clear hG hb2 hl1
      go_wp2_with fail
      refine (l1End_any _ _ _ _ hp1 hp2).mono ?_
      rintro e w3 ⟨rfl, hb3⟩
      have hz3 := hb3.size
      have hX3 := box_keep hX2 hb3 (by omega)
      have g3 := g2.trans (hb3.mono (by omega))
      clear hb3 hX2 g2
      go_wp2
      go_loopw [5] (fun v wr => ∃ i : Nat, i ≤ K.cands.length ∧ v = .int .i64 (pow2 K.l + 2 + i) ∧ (∀ j, (h : j < i) → K.any (pow2 K.l + 2 + (j : Int)) ≠ x) ∧ Below w.heap.size w wr ∧ w.heap.size < wr.heap.size ∧ ∀ i, wr.cell? ⟨w.heap.size, i, none⟩ = (knC K A cap)[i]?) (fun v _ => K.cands.length + 70000 - (intOf v).toNat)
      case atStart => exact ⟨0, by omega, by go_num, fun j h => by omega, (by repeat (first | (with_reducible exact Below.refl _ _) | (with_reducible assumption) | (with_reducible refine Below.drew ?_) | (with_reducible refine Below.alloc ?_ (by first | omega | (simp <;> omega)) _) | (with_reducible refine Below.setCell ?_ (by first | omega | (simp <;> omega)) _) | (with_reducible refine belowN ?_ _))), by first | omega | (simp; omega), hX3⟩
      case round =>
        obtain ⟨i, hi, rfl, hj, hb, hz, hX⟩ := hrel
        have HJ := Go.Lib.hid hj
        clear hj
        have hi2 : i ≤ 5000 := by have := HC.out; omega
        go_wp2_with fail
        refine (l2Greatest_any _ _ _ _ hk).mono ?_
        rintro e w4 ⟨rfl, hb4⟩
        have hz4 := hb4.size
        have hX4 := box_keep hX hb4 hz
        have g4 := hb.trans (hb4.mono (by omega))
        clear hb4 hX hb
        by_cases hlt : i < K.cands.length
        · have hle : pow2 K.l + 2 + (i : Int) ≤ K.great := by have := HC.out; have := HCL.out; omega
          have hfol := K.cands_fol i hlt
          rw [HCL.out] at hfol
          have HF : Go.RowKit.Hid (K.any (pow2 K.l + 2 + (i : Int)) = x → K.find x = pow2 K.l + 2 + (i : Int)) := fun he => find_first K x HN.out i hlt (fun j hji => HJ.out j hji) he
          have HJ2 : Go.RowKit.Hid (K.any (pow2 K.l + 2 + (i : Int)) ≠ x → ∀ j, (h : j < i + 1) → K.any (pow2 K.l + 2 + (j : Int)) ≠ x) := fun hne j hji => by
            rcases Nat.lt_or_ge j i with h | h
            · exact HJ.out j h
            · have : j = i := by omega
              subst this; exact hne
          have hal := K.any_len hk hfol
          obtain ⟨hal1, hal2⟩ := hal
          go_wp2_with fail
          refine (l2Any_any K A cap _ _ hk (hs.below g4) hfol).mono ?_
          rintro e w5 ⟨rfl, hb5⟩
          have hz5 := hb5.size
          have hX5 := box_keep hX4 hb5 (by omega)
          have g5 := g4.trans (hb5.mono (by omega))
          clear hb5 hX4 g4
          generalize K.any (pow2 K.l + 2 + (i : Int)) = y at *
          by_cases hyx : y = x
          · have hE := HF.out hyx
            have HE := Go.Lib.hid hE
            clear hE
            have hd : decide (y = x) = true := by simpa using hyx
            clear hyx
            go_wp2
            go_ret
            exact ⟨ret_int HE.out.symm, g5⟩
          · have hJ3 := HJ2.out hyx
            have HJ3 := Go.Lib.hid hJ3
            clear hJ3
            have hd : decide (y = x) = false := by simpa using hyx
            clear hyx
            go_wp2
            go_roundw
            case rel => exact ⟨i + 1, by omega, by go_num, HJ3.out, g5, by omega, hX5⟩
            case measure => simp [intOf]; omega
        · have hgt : ¬ pow2 K.l + 2 + (i : Int) ≤ K.great := by have := HC.out; have := HCL.out; omega
          have HE : Go.RowKit.Hid (K.find x = -1) := find_none K x HN.out (fun j hj => HJ.out j (by omega))
          go_wp2
          go_ret
          exact ⟨ret_int HE.out.symm, g4⟩
end Go.Proofs.Ytgcjfddkgbigoaa
