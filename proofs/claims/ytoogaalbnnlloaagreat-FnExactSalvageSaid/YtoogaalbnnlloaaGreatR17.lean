/- The law of Salvage. -/
import Derived.Test.YtoogaalbnnlloaaGreatR16
import Derived.Test.YtoogaalbnnlloaaGreatW2b
import Derived.Deep.Cut
namespace Go.Proofs.YtoogaalbnnlloaaGreat
open Go.RowKit
set_option linter.unusedVariables false
set_option linter.unusedSimpArgs false
set_option maxRecDepth 100000
attribute [local go_sem high] run_index_S binOp_eql_S binOp_neq_S append_S toList_S size_S run_slice_S run_slice_from_S run_slice_to_S wrap64_byteAt wrap64_byteAt_mul bits_or_bytes convU conv1_some convU2 conv2_some
set_option maxHeartbeats 2000000 in
theorem law_ExactSalvage (o l m : Int) (dict t : Bs) (w : World) (hd : dict.length ≤ 9223372036854775807) (ht : t.length ≤ 9223372036854775807) :
    Calls Tryz.prog 4 #[.agg #[.int .i64 o, .int .i64 l, .int .i64 m], sv dict, sv t] w fun e w' => e = .returned (.bool true) ∧ Below w.heap.size w w' := by
  by_cases h1 : dict.length ≤ 1048576
  case neg =>
    have hdd : (1048576 : Int) < dict.length := by omega
    go_enter Tryz.func4, Tryz.ntmps4
    go_wp2
    go_ret
    exact ⟨rfl, (by repeat (first | (with_reducible exact Below.refl _ _) | (with_reducible assumption) | (with_reducible refine Below.drew ?_) | (with_reducible refine Below.alloc ?_ (by first | omega | (simp <;> omega)) _) | (with_reducible refine Below.setCell ?_ (by first | omega | (simp <;> omega)) _) | (with_reducible refine belowN ?_ _)))⟩
  have hdd : ¬ (1048576 : Int) < dict.length := by omega
  by_cases h2 : t.length ≤ 1048576
  case neg =>
    have htt : (1048576 : Int) < t.length := by omega
    go_enter Tryz.func4, Tryz.ntmps4
    go_wp2
    go_ret
    exact ⟨rfl, (by repeat (first | (with_reducible exact Below.refl _ _) | (with_reducible assumption) | (with_reducible refine Below.drew ?_) | (with_reducible refine Below.alloc ?_ (by first | omega | (simp <;> omega)) _) | (with_reducible refine Below.setCell ?_ (by first | omega | (simp <;> omega)) _) | (with_reducible refine belowN ?_ _)))⟩
  have htt : ¬ (1048576 : Int) < t.length := by omega
  have cS := fun w => toSetting_any o l m w
  have cP := fun w => sSalvage_any o l m dict t w hd (by omega)
  have cG := fun w => salvage_any o l m dict t w hd (by omega)
  have hpl := pcsB_len o l m dict t
  unfold PcRes at cP cG
  generalize pcsB o l m dict t = ps at *
  have CE : Go.RowKit.Hid (∀ w A B ca cb, Sl w A ps.length ca 2 (pcsV ps) → Sl w B ps.length cb 2 (pcsV ps) → Calls Tryz.prog 22 #[.slice A ps.length ca, .slice B ps.length cb] w fun e w' => e = .returned (.bool true) ∧ Below w.heap.size w w') := fun w A B ca cb h1 h2 => eqPieceS_same ps A B ca cb w h1 h2 (by omega)
  have CM : Go.RowKit.Hid (∀ A cap B w, w.ownsRow B 33 2 (.slice A ps.length cap) ps.length (pcsV ps) → B ≤ w.heap.size → Calls Tryz.prog 23 #[.slice A ps.length cap, .int .i64 ((1 : Nat) : Int)] w fun e w' => e = .returned (.int .i64 ((1 + 2 * ps.length : Nat) : Int)) ∧ w'.ownsRow B 33 2 (.slice A ps.length cap) ps.length (mkV 1 ps.length) ∧ Below B w w') := fun A cap B w h h2 => markPieceS_any ps 1 A cap B w h h2 (by omega) (by omega)
  have CH : Go.RowKit.Hid (∀ A cap w, Sl w A ps.length cap 2 (mkV 1 ps.length) → Calls Tryz.prog 24 #[.slice A ps.length cap, .int .i64 ((1 : Nat) : Int)] w fun e w' => e = .returned (.int .i64 ((1 + 2 * ps.length : Nat) : Int)) ∧ Below w.heap.size w w') := fun A cap w h => heldPieceS_any ps.length 1 A cap w h (by omega) (by omega)
  obtain ⟨n, hn⟩ : ∃ n, ps.length = n := ⟨_, rfl⟩
  obtain ⟨q, hq⟩ : ∃ q : Nat, 1 + 2 * n = q := ⟨_, rfl⟩
  rw [hn] at cP cG CE CM CH hpl
  rw [hq] at CM CH
  have hq0 : ¬ (q : Int) < 0 := by omega
  clear hd ht h1 h2 hn
  go_enter Tryz.func4, Tryz.ntmps4
  have hK0 : Bk (w.alloc (.cells #[.int .i64 o, .int .i64 l, .int .i64 m] 36)) w.heap.size 36 #[.int .i64 o, .int .i64 l, .int .i64 m] := (by (repeat (first | (with_reducible assumption) | (with_reducible exact Bk.new _ _ _) | (with_reducible refine Bk.newAt _ _ _ (by simp; done)) | (with_reducible refine Bk.drew ?_) | (with_reducible refine Bk.drewN ?_ _) | (with_reducible refine Bk.alloc ?_ _))); done)
  have g0 : Below w.heap.size w (w.alloc (.cells #[.int .i64 o, .int .i64 l, .int .i64 m] 36)) := (by repeat (first | (with_reducible exact Below.refl _ _) | (with_reducible assumption) | (with_reducible refine Below.drew ?_) | (with_reducible refine Below.alloc ?_ (by first | omega | (simp <;> omega)) _) | (with_reducible refine Below.setCell ?_ (by first | omega | (simp <;> omega)) _) | (with_reducible refine belowN ?_ _)))
  go_upto_region 1 with (fail)
  generalize w.alloc (.cells #[.int .i64 o, .int .i64 l, .int .i64 m] 36) = w0 at *
  have hX0 := hK0.cell
  have hz0 := hK0.lt
  go_wp2_with fail
  refine (cS _).mono ?_
  rintro e w1 ⟨rfl, hb1⟩
  have hz1 := hb1.size
  have hK1 := hK0.below hb1 hz0
  have g1 := g0.trans (hb1.mono (by omega))
  clear hb1 hK0 g0 hX0
  go_wp2_with fail
  refine (cP _).mono ?_
  rintro e w2 ⟨A2, c2, rfl, o2, hb2⟩
  have hz2 := hb2.size
  have hK2 := hK1.below hb2 (by omega)
  have g2 := g1.trans (hb2.mono (by omega))
  have s2 := own_Sl o2
  clear hb2 hK1 g1 o2
  have hX2 := hK2.cell
  go_wp2_with fail
  refine (cS _).mono ?_
  rintro e w3 ⟨rfl, hb3⟩
  have hz3 := hb3.size
  have hK3 := hK2.below hb3 (by omega)
  have g3 := g2.trans (hb3.mono (by omega))
  have s3 := s2.below hb3
  clear hb3 hK2 g2 s2 hX2
  go_wp2_with fail
  refine (cG _).mono ?_
  rintro e w4 ⟨A4, c4, rfl, o4, hb4⟩
  have hz4 := hb4.size
  have HK4 : Go.RowKit.Hid (∀ wr, Below w3.heap.size w3 wr → Bk wr w.heap.size 36 #[.int .i64 o, .int .i64 l, .int .i64 m] ∧ Sl wr A2 n c2 2 (pcsV ps) ∧ Below w.heap.size w wr) := fun wr h => ⟨hK3.below h (by omega), s3.below h, g3.trans (h.mono (by omega))⟩
  have s4 := own_Sl o4
  have t4 := (HK4.out w4 hb4).2.1
  clear hK3 g3 s3
  go_wp2_with fail
  refine (CE.out _ _ _ _ _ s4 t4).mono ?_
  rintro e w5 ⟨rfl, hb5⟩
  have hz5 := hb5.size
  have o5 := owns_keep o4 hb5
  have b5 := hb4.trans (hb5.mono (by omega))
  clear hb5 hb4 o4 s4 t4
  go_wp2_with fail
  refine (CM.out _ _ _ _ o5 (by omega)).mono ?_
  rintro e w6 ⟨rfl, o6, hb6⟩
  have hz6 := hb6.size
  have b6 := b5.trans hb6
  have s6 := own_Sl o6
  clear hb6 b5 o5
  go_wp2_with fail
  refine (CH.out _ _ _ s6).mono ?_
  rintro e w7 ⟨rfl, hb7⟩
  have hz7 := hb7.size
  have s7 := s6.below hb7
  have b7 := b6.trans (hb7.mono (by omega))
  have hX7 := (HK4.out w7 b7).1.cell
  clear hb7 b6 o6 s6
  go_wp2_with fail
  refine (cS _).mono ?_
  rintro e w8 ⟨rfl, hb8⟩
  have hz8 := hb8.size
  have s8 := s7.below hb8
  have b8 := b7.trans (hb8.mono (by omega))
  clear hb8 b7 s7 hX7
  go_wp2_with fail
  refine (cG _).mono ?_
  rintro e w9 ⟨A9, c9, rfl, o9, hb9⟩
  have hz9 := hb9.size
  have s9 := s8.below hb9
  have b9 := b8.trans (hb9.mono (by omega))
  have u9 := own_Sl o9
  have t9 := (HK4.out w9 b9).2.1
  clear hb9 b8 s8 o9
  go_wp2_with fail
  refine (CE.out _ _ _ _ _ u9 t9).mono ?_
  rintro e w10 ⟨rfl, hb10⟩
  have s10 := s9.below hb10
  have b10 := b9.trans (hb10.mono (by omega))
  clear hb10 b9 s9 u9 t9
  go_wp2_with fail
  refine (CH.out _ _ _ s10).mono ?_
  rintro e w11 ⟨rfl, hb11⟩
  have b11 := b10.trans (hb11.mono (by have := b10.size; omega))
  have gw := (HK4.out w11 b11).2.2
  go_wp2
  go_ret
  exact ⟨rfl, gw⟩
end Go.Proofs.YtoogaalbnnlloaaGreat
