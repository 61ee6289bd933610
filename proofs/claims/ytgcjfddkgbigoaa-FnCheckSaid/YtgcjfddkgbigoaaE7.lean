/- Walks: the laws of the next block and of checks. -/
import Derived.Test.YtgcjfddkgbigoaaE4
import Derived.Test.YtgcjfddkgbigoaaE5
namespace Go.Proofs.Ytgcjfddkgbigoaa
open Go.RowKit
set_option linter.unusedSimpArgs false
set_option linter.unusedVariables false
set_option maxRecDepth 100000
attribute [local go_sem high] run_index_S binOp_eql_S binOp_neq_S append_S toList_S size_S run_slice_S run_slice_from_S run_slice_to_S wrap64_byteAt wrap64_byteAt_mul bits_or_bytes convU conv1_some convU2 conv2_some
theorem parseB_some' {l : Bs} {a : Int} (h : parseOk l a = true) : pbRes (parseB l a) = .returned (.tuple #[bkV (blkAt l a), .int .i64 (endAt l a), .bool true]) := pb_yes h
theorem parse_neg (l : Bs) (a : Int) (h : a < 0) : parseOk l a = false := by
  unfold parseOk headOk
  simp; intro h0; omega
theorem nextB_out {l : Bs} {a : Int} (h : ¬ (l.length ≤ 8000 ∧ 0 ≤ a)) : nextB l a = -1 := by unfold nextB; rw [if_neg h]
set_option maxHeartbeats 4000000 in
theorem law_NextBlock (bs : Bs) (A : Option Addr) (cap : Nat) (w : World) (hs : Sl w A bs.length cap 1 (bs.map u8v)) :
    Calls Try.prog 5 #[.slice A bs.length cap] w fun e w' => e = .returned (.bool true) ∧ Below w.heap.size w w' := by
  go_enter Try.func5, Try.ntmps5
  by_cases hl0 : 1048576 < bs.length
  · have hli : (1048576 : Int) < bs.length := by omega
    go_wp2
    go_ret
    exact ⟨rfl, Below.refl _ _⟩
  have hli0 : ¬ (1048576 : Int) < bs.length := by omega
  clear hl0
  go_wp2_with fail
  refine (drawNextBlock_any bs A cap _ hs).mono ?_
  rintro e w1 ⟨⟨l, a, rfl, hl, ha0, ha1⟩, g1⟩
  have z1 := g1.size
  have cI := fun w => nextBlock_any l a w (by omega) ha0 ha1
  have cS := fun w => sNextBlock_any l a w (by omega) ha0 ha1
  by_cases hq : l.length ≤ 8000 ∧ 0 ≤ a
  · obtain ⟨hq1, hq2⟩ := hq
    have hN := next_spec hq1 hq2
    have hnb := nextB_bd l a
    generalize nextB l a = N at *
    have hq3 : ¬ a < 0 := by omega
    have hq4 : ¬ (8000 : Int) < l.length := by omega
    go_wp2_with fail
    refine (cI _).mono ?_
    rintro e w2 ⟨rfl, hb2⟩
    have z2 := hb2.size
    have g2 := g1.trans (hb2.mono (by omega))
    clear hb2 g1
    go_wp2_with fail
    refine (cS _).mono ?_
    rintro e w3 ⟨rfl, hb3⟩
    have z3 := hb3.size
    have g3 := g2.trans (hb3.mono (by omega))
    clear hb3 g2 cI cS
    obtain ⟨kn, hkn⟩ : ∃ k : Nat, a = k := Int.eq_ofNat_of_zero_le hq2
    subst hkn
    have H2 : Go.RowKit.Hid (∀ i : Int, (kn : Int) ≤ i → i < (if N < 0 then (l.length : Int) else N) → parseOk l i = false) := by
      intro i h0 h1
      rcases hN with ⟨h2, h3⟩ | ⟨h2, h3, h4, h5⟩
      · rw [if_pos (by omega)] at h1; exact h3 i h0 h1
      · rw [if_neg (by omega)] at h1; exact h5 i h0 h1
    have H3 : Go.RowKit.Hid (parseOk l N = decide (0 ≤ N)) := by
      show _ = _
      rcases hN with ⟨h2, h3⟩ | ⟨h2, h3, h4, h5⟩
      · rw [h2, parse_neg l (-1) (by omega)]; rfl
      · rw [h4]; simp; omega
    have H4 : N = -1 ∨ (kn : Int) ≤ N ∧ N < l.length := by
      rcases hN with ⟨h2, h3⟩ | ⟨h2, h3, h4, h5⟩
      · exact .inl h2
      · exact .inr ⟨h2, h3⟩
    clear hN hnb
    rcases H4 with rfl | ⟨h40, h41⟩
    · rw [if_pos (by omega)] at H2
      have hP := parse_neg l (-1) (by omega)
      clear H3
      have cP := fun w => iParse_no l (-1) w (by omega) (by omega) (by omega) hP
      clear hP
      go_wp2
      go_loopw [7] (fun i wr => ∃ j : Nat, i = .int .i64 j ∧ kn ≤ j ∧ Below w.heap.size w wr) (fun i _ => l.length - (intOf i).toNat)
      case atStart => exact ⟨kn, rfl, by omega, (by repeat (first | (with_reducible exact Below.refl _ _) | (with_reducible assumption) | (with_reducible refine Below.drew ?_) | (with_reducible refine Below.alloc ?_ (by first | omega | (simp <;> omega)) _) | (with_reducible refine Below.setCell ?_ (by first | omega | (simp <;> omega)) _) | (with_reducible refine belowN ?_ _)))⟩
      case round =>
        obtain ⟨j, rfl, hj, hb⟩ := hrel
        have hws := hb.size
        clear g3
        by_cases hlt : j < l.length
        · have hji : (j : Int) < l.length := by omega
          have hp := H2.out j (by omega) (by omega)
          have cQ := fun w => iParse_no l j w (by omega) (by omega) (by omega) hp
          clear hp
          go_wp2_with fail
          refine (cQ _).mono ?_
          rintro e w4 ⟨rfl, hb4⟩
          have z4 := hb4.size
          have g4 := hb.trans (hb4.mono (by omega))
          clear hb4 hb
          go_wp2
          go_roundw
          case rel => exact ⟨j + 1, by go_num, by omega, (by repeat (first | (with_reducible exact Below.refl _ _) | (with_reducible assumption) | (with_reducible refine Below.drew ?_) | (with_reducible refine Below.alloc ?_ (by first | omega | (simp <;> omega)) _) | (with_reducible refine Below.setCell ?_ (by first | omega | (simp <;> omega)) _) | (with_reducible refine belowN ?_ _)))⟩
          case measure => simp [intOf]; omega
        · have hji : ¬ (j : Int) < l.length := by omega
          go_wp2_with fail
          refine (cP _).mono ?_
          rintro e w4 ⟨rfl, hb4⟩
          have z4 := hb4.size
          have g4 := hb.trans (hb4.mono (by omega))
          clear hb4 hb
          go_wp2
          go_ret
          exact ⟨ret_bool (by first | rfl | simp), (by repeat (first | (with_reducible exact Below.refl _ _) | (with_reducible assumption) | (with_reducible refine Below.drew ?_) | (with_reducible refine Below.alloc ?_ (by first | omega | (simp <;> omega)) _) | (with_reducible refine Below.setCell ?_ (by first | omega | (simp <;> omega)) _) | (with_reducible refine belowN ?_ _)))⟩
    · rw [if_neg (by omega)] at H2
      obtain ⟨n, rfl⟩ := Int.eq_ofNat_of_zero_le (by omega : 0 ≤ N)
      have hP : parseOk l n = true := by rw [H3.out]; simp
      clear H3
      have hpb := parse_bd hP
      obtain ⟨_, hpb1, hpb2, hbok⟩ := hpb
      have cP := fun w => iParse_yes l n w (by omega) (by omega) (by omega) hP
      clear hP hbok
      generalize blkAt l n = B at *
      generalize endAt l n = E at *
      have hd1 : ((n : Int) != -1) = true := by first | (simp; done) | (simp; omega)
      go_wp2
      go_loopw [7] (fun i wr => ∃ j : Nat, i = .int .i64 j ∧ kn ≤ j ∧ j ≤ n ∧ Below w.heap.size w wr) (fun i _ => n - (intOf i).toNat)
      case atStart => exact ⟨kn, rfl, by omega, by omega, (by repeat (first | (with_reducible exact Below.refl _ _) | (with_reducible assumption) | (with_reducible refine Below.drew ?_) | (with_reducible refine Below.alloc ?_ (by first | omega | (simp <;> omega)) _) | (with_reducible refine Below.setCell ?_ (by first | omega | (simp <;> omega)) _) | (with_reducible refine belowN ?_ _)))⟩
      case round =>
        obtain ⟨j, rfl, hj, hj2, hb⟩ := hrel
        have hws := hb.size
        clear g3
        by_cases hlt : j < n
        · have hji : (j : Int) < n := by omega
          have hp := H2.out j (by omega) (by omega)
          have cQ := fun w => iParse_no l j w (by omega) (by omega) (by omega) hp
          clear hp
          go_wp2_with fail
          refine (cQ _).mono ?_
          rintro e w4 ⟨rfl, hb4⟩
          have z4 := hb4.size
          have g4 := hb.trans (hb4.mono (by omega))
          clear hb4 hb
          go_wp2
          go_roundw
          case rel => exact ⟨j + 1, by go_num, by omega, by omega, (by repeat (first | (with_reducible exact Below.refl _ _) | (with_reducible assumption) | (with_reducible refine Below.drew ?_) | (with_reducible refine Below.alloc ?_ (by first | omega | (simp <;> omega)) _) | (with_reducible refine Below.setCell ?_ (by first | omega | (simp <;> omega)) _) | (with_reducible refine belowN ?_ _)))⟩
          case measure => simp [intOf]; omega
        · have hji : ¬ (j : Int) < n := by omega
          go_wp2_with fail
          refine (cP _).mono ?_
          rintro e w4 ⟨rfl, hb4⟩
          have z4 := hb4.size
          have g4 := hb.trans (hb4.mono (by omega))
          clear hb4 hb
          go_wp2
          go_ret
          exact ⟨ret_bool (by first | rfl | simp), (by repeat (first | (with_reducible exact Below.refl _ _) | (with_reducible assumption) | (with_reducible refine Below.drew ?_) | (with_reducible refine Below.alloc ?_ (by first | omega | (simp <;> omega)) _) | (with_reducible refine Below.setCell ?_ (by first | omega | (simp <;> omega)) _) | (with_reducible refine belowN ?_ _)))⟩
  · have hN := nextB_out hq
    rw [hN] at cI cS
    clear hN
    go_wp2_with fail
    refine (cI _).mono ?_
    rintro e w2 ⟨rfl, hb2⟩
    have z2 := hb2.size
    have g2 := g1.trans (hb2.mono (by omega))
    clear hb2 g1
    go_wp2_with fail
    refine (cS _).mono ?_
    rintro e w3 ⟨rfl, hb3⟩
    have z3 := hb3.size
    have g3 := g2.trans (hb3.mono (by omega))
    clear hb3 g2
    by_cases ha : a < 0
    · go_wp2_with fail
      refine (cS _).mono ?_
      rintro e w4 ⟨rfl, hb4⟩
      have z4 := hb4.size
      have g4 := g3.trans (hb4.mono (by omega))
      clear hb4 g3
      go_wp2
      go_ret
      exact ⟨ret_bool (by first | rfl | simp), (by repeat (first | (with_reducible exact Below.refl _ _) | (with_reducible assumption) | (with_reducible refine Below.drew ?_) | (with_reducible refine Below.alloc ?_ (by first | omega | (simp <;> omega)) _) | (with_reducible refine Below.setCell ?_ (by first | omega | (simp <;> omega)) _) | (with_reducible refine belowN ?_ _)))⟩
    · have ha2 : 0 ≤ a := by omega
      have hq4 : (8000 : Int) < l.length := by omega
      go_wp2_with fail
      refine (cS _).mono ?_
      rintro e w4 ⟨rfl, hb4⟩
      have z4 := hb4.size
      have g4 := g3.trans (hb4.mono (by omega))
      clear hb4 g3
      go_wp2
      go_ret
      exact ⟨ret_bool (by first | rfl | simp), (by repeat (first | (with_reducible exact Below.refl _ _) | (with_reducible assumption) | (with_reducible refine Below.drew ?_) | (with_reducible refine Below.alloc ?_ (by first | omega | (simp <;> omega)) _) | (with_reducible refine Below.setCell ?_ (by first | omega | (simp <;> omega)) _) | (with_reducible refine belowN ?_ _)))⟩
end Go.Proofs.Ytgcjfddkgbigoaa
