/- Walks: drawing data. -/
import Derived.Test.YtgcjfddkgbigoaaD2
import Derived.Test.YtgcjfddkgbigoaaW2
import Derived.Deep.DeepCutAuto
namespace Go.Proofs.Ytgcjfddkgbigoaa
open Go.RowKit
set_option linter.unusedSimpArgs false
set_option linter.unusedVariables false
set_option maxRecDepth 100000
attribute [local go_sem high] run_index_S binOp_eql_S binOp_neq_S append_S toList_S size_S run_slice_S run_slice_from_S run_slice_to_S wrap64_byteAt wrap64_byteAt_mul bits_or_bytes convU conv1_some convU2 conv2_some
theorem pow2_ge {l : Int} (h0 : 1 ≤ l) (h1 : l ≤ 8) : 2 ≤ pow2 l ∧ pow2 l ≤ 256 := by
  unfold pow2
  have ll : l = 1 ∨ l = 2 ∨ l = 3 ∨ l = 4 ∨ l = 5 ∨ l = 6 ∨ l = 7 ∨ l = 8 := by omega
  rcases ll with e | e | e | e | e | e | e | e <;> rw [e] <;> decide
set_option maxHeartbeats 8000000 in
theorem l1Data_any (r M most : Nat) (so sl sm : Int) (w : World) (hR : Rd w r M) (hM : M ≤ 50000000) (hmost : most ≤ 10000) (hst : stOk so sl sm) :
    Calls Try.prog 96 #[.pointer (some ⟨r, 0, none⟩), .agg #[.int .i64 so, .int .i64 sl, .int .i64 sm], .int .i64 (most : Int)] w fun e w' => (∃ d : Bs, e = .returned (sv d) ∧ d.length ≤ most) ∧ Rd w' r (M + 4 + 3 * most) ∧ BelowR w.heap.size r w w' := by
  have hr := hR.lt
  obtain ⟨i, hi, hz0, hz1, hz2⟩ := info_parts info_u8
  have hp := pow2_ge hst.2.1 hst.2.2.1
  obtain ⟨hp1, hp2⟩ := hp
  have cC := fun w => l1Clear_any so sl sm w (by have := hst.2.1; omega) (by have := hst.2.2.1; omega)
  clear hst
  generalize pow2 sl = cl at *
  have K0_0 := Bk.new w #[.int .i64 so, .int .i64 sl, .int .i64 sm] 69
  have R0 := hR.alloc (.cells #[.int .i64 so, .int .i64 sl, .int .i64 sm] 69)
  have g0 : BelowR w.heap.size r w (w.alloc (.cells #[.int .i64 so, .int .i64 sl, .int .i64 sm] 69)) := below_toR (by repeat (first | (with_reducible exact Below.refl _ _) | (with_reducible assumption) | (with_reducible refine Below.drew ?_) | (with_reducible refine Below.alloc ?_ (by first | omega | (simp <;> omega)) _) | (with_reducible refine Below.setCell ?_ (by first | omega | (simp <;> omega)) _) | (with_reducible refine belowN ?_ _))) r
  go_enter Try.func96, Try.ntmps96
  go_wp2_with (at_make; go_must (refine wpList_make_own _ rfl _ _ 22 rfl (w.heap.size + 1) 5 i (.int .u8 0) 1 Try.underlying22 hi hz0 hz1 _ _ _ most rfl rfl (by omega) (by rw [hz2]; omega) (by unfold maxLen; omega) (by first | omega | (simp; done)) ?_); intro w1 O0_1 hg1; have K0_1 : Bk w1 w.heap.size 69 #[.int .i64 so, .int .i64 sl, .int .i64 sm] := K0_0.grown hg1 (by simp); have X1 := K0_1.cell; simp only [World.size_alloc] at O0_1)
  have R1 : Rd w1 r M := R0.grown hg1 (by simp)
  have g1 : BelowR w.heap.size r w w1 := g0.trans (below_toR ((Below.refl w.heap.size _).grown hg1 (by simp) (by simp)) r)
  have z1 := hg1.size
  simp only [World.size_alloc] at z1
  clear hg1 R0 K0_0 g0
  refine (cC _).mono ?_
  rintro e w2 ⟨rfl, hb2⟩
  have z2 := hb2.size
  have R2 := R1.keep hb2
  have K0_2 := K0_1.below hb2 (by omega)
  have O0_2 := owns_keep O0_1 hb2
  have g2 := g1.trans (below_toR (hb2.mono (by omega)) r)
  clear hb2 R1 K0_1 O0_1 g1 X1
  have s2 := Sl.list w2 [.int .i64 2, .int .i64 3, .int .i64 cl, .int .i64 1] 3 w2.heap.size 4 rfl rfl (by omega)
  go_wp2_with fail
  refine (num_any r M [2, 3, cl, 1] (some ⟨w2.heap.size, 0, none⟩) 4 _ (R2.alloc _) (by omega) s2 (by simp) (by simp) (by rintro g off ⟨⟩; omega)).mono ?_
  rintro e w3 ⟨⟨pt, hpt, rfl⟩, R3, b3⟩
  have z3 := b3.size
  try simp only [World.size_alloc, World.size_setCell, World.size_drew] at z3
  have K0_3 := (K0_2.alloc _).belowR b3 (by first | omega | (simp; done) | (simp; omega)) (by omega)
  have O0_3 := ownsR_keep (World.ownsRow.alloc O0_2 _) b3 (by omega)
  have g3 := (g2.alloc (by first | omega | (simp <;> omega)) _).trans (b3.mono (by first | omega | (simp; done) | (simp; omega)))
  clear b3 g2 K0_2 O0_2
  have hpt1 : 1 ≤ pt ∧ pt ≤ 256 := by
    simp at hpt
    omega
  clear hpt s2
  have X3 := K0_3.cell
  go_wp2_with fail
  refine (cC _).mono ?_
  rintro e w4 ⟨rfl, hb4⟩
  have z4 := hb4.size
  have R4 := R3.keep hb4
  have K0_4 := K0_3.below hb4 (by omega)
  have O0_4 := owns_keep O0_3 hb4
  have g4 := g3.trans (below_toR (hb4.mono (by omega)) r)
  clear hb4 R3 K0_3 O0_3 g3 X3
  by_cases hmn : pt ≤ cl
  · obtain ⟨part, hpart, hpt_1, hpart2⟩ : ∃ part : Int, pt = part ∧ 1 ≤ part ∧ part ≤ 256 := ⟨_, rfl, by omega, by omega⟩
    subst hpart
    go_wp2_with fail
    refine (pick_any r _ 7 _ R4 (by omega) (by omega) (by omega)).mono ?_
    rintro e w5 ⟨⟨pd, rfl, hpd0, hpd1⟩, R5, b5⟩
    have z5 := b5.size
    try simp only [World.size_alloc, World.size_setCell, World.size_drew] at z5
    have K0_5 := K0_4.belowR b5 (by first | omega | (simp; done) | (simp; omega)) (by omega)
    have O0_5 := ownsR_keep O0_4 b5 (by omega)
    have g5 := g4.trans (b5.mono (by first | omega | (simp; done) | (simp; omega)))
    clear b5 g4 K0_4 O0_4
    obtain ⟨pn, rfl⟩ := Int.eq_ofNat_of_zero_le hpd0
    have hpn : pn ≤ 6 := by omega
    clear hpd0 hpd1
    go_wp2_with fail
    refine (pick_any r _ 4 _ R5 (by omega) (by omega) (by omega)).mono ?_
    rintro e w6 ⟨⟨mode, rfl, hmd0, hmd1⟩, R6, b6⟩
    have z6 := b6.size
    try simp only [World.size_alloc, World.size_setCell, World.size_drew] at z6
    have K0_6 := K0_5.belowR b6 (by first | omega | (simp; done) | (simp; omega)) (by omega)
    have O0_6 := ownsR_keep O0_5 b6 (by omega)
    have g6 := g5.trans (b6.mono (by first | omega | (simp; done) | (simp; omega)))
    clear b6 g5 K0_5 O0_5
    have hmd2 : mode ≤ 3 := by omega
    clear hmd1
    go_wp2_with fail
    refine (pick_any r _ _ _ R6 (by omega) (by omega) (by omega)).mono ?_
    rintro e w7 ⟨⟨n0, rfl, hn0, hn1⟩, R7, b7⟩
    have z7 := b7.size
    try simp only [World.size_alloc, World.size_setCell, World.size_drew] at z7
    have K0_7 := K0_6.belowR b7 (by first | omega | (simp; done) | (simp; omega)) (by omega)
    have O0_7 := ownsR_keep O0_6 b7 (by omega)
    have g7 := g6.trans (b7.mono (by first | omega | (simp; done) | (simp; omega)))
    clear b7 g6 K0_6 O0_6
    obtain ⟨n, rfl⟩ := Int.eq_ofNat_of_zero_le hn0
    have hnm : n ≤ most := by omega
    clear hn0 hn1
    go_wp2
    go_loopw [7, 11] (fun v a wr => ∃ (kk c : Nat) (out : Bs), a = .int .i64 (kk : Int) ∧ c + kk = n ∧ Go.RowKit.Hid (out.length = c) ∧ wr.ownsRow (w.heap.size + 1) 5 1 v out.length (out.map u8v) ∧ Rd wr r (M + 4 + 3 * c) ∧ BelowR w.heap.size r w wr ∧ Bk wr w.heap.size 69 #[.int .i64 so, .int .i64 sl, .int .i64 sm]) (fun _ a _ => (intOf a).toNat)
    case atStart => exact ⟨n, 0, [], rfl, by omega, rfl, O0_7, R7.mono (by omega), g7, K0_7⟩
    case round =>
      obtain ⟨kk, c, out, rfl, hck, HOL, O0_7, R7, g7, K0_7⟩ := hrel
      obtain ⟨A7, cap7, rfl, _⟩ := Sl.of_own O0_7
      have hol2 : out.length = c := HOL.out
      have hol3 : out.length ≤ most := by omega
      have z7 : w.heap.size + 1 ≤ wr.heap.size := K0_7.lt
      clear hol2
      by_cases hk : 0 < kk
      · have hki : (0 : Int) < kk := by omega
        obtain ⟨w7, hw7⟩ : ∃ w7, wr = w7 := ⟨_, rfl⟩
        subst hw7
        go_wp2_with fail
        refine (pick_any r _ 256 _ R7 (by omega) (by omega) (by omega)).mono ?_
        rintro e w8 ⟨⟨x, rfl, hx0, hx1⟩, R8, b8⟩
        have z8 := b8.size
        try simp only [World.size_alloc, World.size_setCell, World.size_drew] at z8
        have K0_8 := K0_7.belowR b8 (by first | omega | (simp; done) | (simp; omega)) (by omega)
        have O0_8 := ownsR_keep O0_7 b8 (by omega)
        have g8 := g7.trans (b8.mono (by first | omega | (simp; done) | (simp; omega)))
        clear b8 g7 K0_7 O0_7
        have hx2 := tmod_bd x pt hx0 hpt_1
        have hx3 : x % pt ≤ 255 := by omega
        have hx4 := hx2.1
        clear hx1 hx2
        have hpz : pt ≠ 0 := by omega
        obtain ⟨y, hy, hy0, hy1⟩ : ∃ y : Int, x % pt = y ∧ 0 ≤ y ∧ y ≤ 255 := ⟨_, rfl, hx4, hx3⟩
        clear hx3 hx4
        by_cases hmode0 : mode = 0
        · subst hmode0
          by_cases hL0 : 0 < out.length
          · have hL0i : (0 : Int) < out.length := by omega
            go_wp2_with fail
            refine (pick_any r _ 4 _ R8 (by omega) (by omega) (by omega)).mono ?_
            rintro e w9 ⟨⟨q, rfl, hq0, hq1⟩, R9, b9⟩
            have z9 := b9.size
            try simp only [World.size_alloc, World.size_setCell, World.size_drew] at z9
            have K0_9 := K0_8.belowR b9 (by first | omega | (simp; done) | (simp; omega)) (by omega)
            have O0_9 := ownsR_keep O0_8 b9 (by omega)
            have g9 := g8.trans (b9.mono (by first | omega | (simp; done) | (simp; omega)))
            clear b9 g8 K0_8 O0_8
            clear hq1
            by_cases hq : 0 < q
            · skip
              obtain ⟨gq, capq, hv, hq1, hq2⟩ := O0_9.form (by omega)
              injection hv with e1 e2 e3
              subst e1; subst e3
              have hidx : out.length - 1 < out.length := by omega
              have hcell : w9.cell? ⟨gq, out.length - 1, none⟩ = some (.int .u8 (out[out.length - 1].toNat : Int)) := (O0_9.cellAt (out.length - 1) (by omega)).trans (by simp [hidx])
              have hb0 : 0 ≤ (out[out.length - 1].toNat : Int) := by omega
              have hb1 : (out[out.length - 1].toNat : Int) ≤ 255 := by have := out[out.length - 1].toNat_lt; omega
              generalize (out[out.length - 1].toNat : Int) = b at *
              have hsub : (out.length : Int) - 1 = ((out.length - 1 : Nat) : Int) := by omega
              have hm1 : out.length + 1 ≤ maxLen := by unfold maxLen; omega
              have hm2 : (out.length + 1) * 1 ≤ 140737488355328 := by omega
              have hlt := O0_9.lt
              go_wp2_with (at_builtin; go_must (refine wpList_append_own _ rfl _ _ 22 rfl (w.heap.size + 1) 5 i _ 1 1 Try.underlying22 hi hz0 hz1 hz2 rfl (by omega) _ _ _ rfl (O0_9.alloc _) ⟨w9.heap.size, 0, none⟩ 1 1 [.int .u8 b] rfl rfl ?_ ?_ hm1 hm2 ?_ ?_))
              try (case refine_1 => first | exact cell_one_new _ _ _ | omega | (simp <;> omega; done) | (simp [Value.oneCell']; done))
              try (case refine_2 => first | exact cell_one_new _ _ _ | omega | (simp <;> omega; done) | (simp [Value.oneCell']; done))
              try (case refine_3 => first | exact cell_one_new _ _ _ | omega | (simp <;> omega; done) | (simp [Value.oneCell']; done))
              intro v10 w10 O0_10 hg10 _
              have g10 := appR g9 hg10 (by omega) (fun q hq => by have := (hlt q hq).1; omega)
              have R10 := (R9.app hg10 (fun q hq => by have := (hlt q hq).1; omega)).mono (show _ ≤ M + 4 + 3 * (c + 1) by omega)
              have K0_10 : Bk w10 w.heap.size 69 #[.int .i64 so, .int .i64 sl, .int .i64 sm] := (K0_9.alloc _).grown hg10 (fun q hq => by have := (hlt q hq).1; omega)
              go_wp2
              go_roundw
              case rel => exact ⟨kk - 1, c + 1, out ++ [UInt8.ofNat (b).toNat], by go_num, by omega, by show _ = _; have := HOL.out; simp; omega, snoc_own O0_10 hb0 hb1, R10, g10, K0_10⟩
              case measure => simp [intOf]; omega
            · skip
              have hm1 : out.length + 1 ≤ maxLen := by unfold maxLen; omega
              have hm2 : (out.length + 1) * 1 ≤ 140737488355328 := by omega
              have hlt := O0_9.lt
              go_wp2_with (at_builtin; go_must (refine wpList_append_own _ rfl _ _ 22 rfl (w.heap.size + 1) 5 i _ 1 1 Try.underlying22 hi hz0 hz1 hz2 rfl (by omega) _ _ _ rfl (O0_9.alloc _) ⟨w9.heap.size, 0, none⟩ 1 1 [.int .u8 y] rfl rfl ?_ ?_ hm1 hm2 ?_ ?_))
              try (case refine_1 => first | exact cell_one_new _ _ _ | omega | (simp <;> omega; done) | (simp [Value.oneCell']; done))
              try (case refine_2 => first | exact cell_one_new _ _ _ | omega | (simp <;> omega; done) | (simp [Value.oneCell']; done))
              try (case refine_3 => first | exact cell_one_new _ _ _ | omega | (simp <;> omega; done) | (simp [Value.oneCell']; done))
              intro v10 w10 O0_10 hg10 _
              have g10 := appR g9 hg10 (by omega) (fun q hq => by have := (hlt q hq).1; omega)
              have R10 := (R9.app hg10 (fun q hq => by have := (hlt q hq).1; omega)).mono (show _ ≤ M + 4 + 3 * (c + 1) by omega)
              have K0_10 : Bk w10 w.heap.size 69 #[.int .i64 so, .int .i64 sl, .int .i64 sm] := (K0_9.alloc _).grown hg10 (fun q hq => by have := (hlt q hq).1; omega)
              go_wp2
              go_roundw
              case rel => exact ⟨kk - 1, c + 1, out ++ [UInt8.ofNat (y).toNat], by go_num, by omega, by show _ = _; have := HOL.out; simp; omega, snoc_own O0_10 hy0 hy1, R10, g10, K0_10⟩
              case measure => simp [intOf]; omega
          · have hL0i : ¬ (0 : Int) < out.length := by omega
            have hm1 : out.length + 1 ≤ maxLen := by unfold maxLen; omega
            have hm2 : (out.length + 1) * 1 ≤ 140737488355328 := by omega
            have hlt := O0_8.lt
            go_wp2_with (at_builtin; go_must (refine wpList_append_own _ rfl _ _ 22 rfl (w.heap.size + 1) 5 i _ 1 1 Try.underlying22 hi hz0 hz1 hz2 rfl (by omega) _ _ _ rfl (O0_8.alloc _) ⟨w8.heap.size, 0, none⟩ 1 1 [.int .u8 y] rfl rfl ?_ ?_ hm1 hm2 ?_ ?_))
            try (case refine_1 => first | exact cell_one_new _ _ _ | omega | (simp <;> omega; done) | (simp [Value.oneCell']; done))
            try (case refine_2 => first | exact cell_one_new _ _ _ | omega | (simp <;> omega; done) | (simp [Value.oneCell']; done))
            try (case refine_3 => first | exact cell_one_new _ _ _ | omega | (simp <;> omega; done) | (simp [Value.oneCell']; done))
            intro v9 w9 O0_9 hg9 _
            have g9 := appR g8 hg9 (by omega) (fun q hq => by have := (hlt q hq).1; omega)
            have R9 := (R8.app hg9 (fun q hq => by have := (hlt q hq).1; omega)).mono (show _ ≤ M + 4 + 3 * (c + 1) by omega)
            have K0_9 : Bk w9 w.heap.size 69 #[.int .i64 so, .int .i64 sl, .int .i64 sm] := (K0_8.alloc _).grown hg9 (fun q hq => by have := (hlt q hq).1; omega)
            go_wp2
            go_roundw
            case rel => exact ⟨kk - 1, c + 1, out ++ [UInt8.ofNat (y).toNat], by go_num, by omega, by show _ = _; have := HOL.out; simp; omega, snoc_own O0_9 hy0 hy1, R9, g9, K0_9⟩
            case measure => simp [intOf]; omega
        by_cases hmode1 : mode = 1
        · subst hmode1
          by_cases hL1 : 1 + pn ≤ out.length
          · have hL1i : (1 : Int) + pn ≤ out.length := by omega
            go_wp2_with fail
            refine (pick_any r _ 10 _ R8 (by omega) (by omega) (by omega)).mono ?_
            rintro e w9 ⟨⟨q, rfl, hq0, hq1⟩, R9, b9⟩
            have z9 := b9.size
            try simp only [World.size_alloc, World.size_setCell, World.size_drew] at z9
            have K0_9 := K0_8.belowR b9 (by first | omega | (simp; done) | (simp; omega)) (by omega)
            have O0_9 := ownsR_keep O0_8 b9 (by omega)
            have g9 := g8.trans (b9.mono (by first | omega | (simp; done) | (simp; omega)))
            clear b9 g8 K0_8 O0_8
            clear hq1
            by_cases hq : 0 < q
            · skip
              obtain ⟨gq, capq, hv, hq1, hq2⟩ := O0_9.form (by omega)
              injection hv with e1 e2 e3
              subst e1; subst e3
              have hidx : out.length - (1 + pn) < out.length := by omega
              have hcell : w9.cell? ⟨gq, out.length - (1 + pn), none⟩ = some (.int .u8 (out[out.length - (1 + pn)].toNat : Int)) := (O0_9.cellAt (out.length - (1 + pn)) (by omega)).trans (by simp [hidx])
              have hb0 : 0 ≤ (out[out.length - (1 + pn)].toNat : Int) := by omega
              have hb1 : (out[out.length - (1 + pn)].toNat : Int) ≤ 255 := by have := out[out.length - (1 + pn)].toNat_lt; omega
              generalize (out[out.length - (1 + pn)].toNat : Int) = b at *
              have hsub : (out.length : Int) - (1 + (pn : Int)) = ((out.length - (1 + pn) : Nat) : Int) := by omega
              have hm1 : out.length + 1 ≤ maxLen := by unfold maxLen; omega
              have hm2 : (out.length + 1) * 1 ≤ 140737488355328 := by omega
              have hlt := O0_9.lt
              go_wp2_with (at_builtin; go_must (refine wpList_append_own _ rfl _ _ 22 rfl (w.heap.size + 1) 5 i _ 1 1 Try.underlying22 hi hz0 hz1 hz2 rfl (by omega) _ _ _ rfl (O0_9.alloc _) ⟨w9.heap.size, 0, none⟩ 1 1 [.int .u8 b] rfl rfl ?_ ?_ hm1 hm2 ?_ ?_))
              try (case refine_1 => first | exact cell_one_new _ _ _ | omega | (simp <;> omega; done) | (simp [Value.oneCell']; done))
              try (case refine_2 => first | exact cell_one_new _ _ _ | omega | (simp <;> omega; done) | (simp [Value.oneCell']; done))
              try (case refine_3 => first | exact cell_one_new _ _ _ | omega | (simp <;> omega; done) | (simp [Value.oneCell']; done))
              intro v10 w10 O0_10 hg10 _
              have g10 := appR g9 hg10 (by omega) (fun q hq => by have := (hlt q hq).1; omega)
              have R10 := (R9.app hg10 (fun q hq => by have := (hlt q hq).1; omega)).mono (show _ ≤ M + 4 + 3 * (c + 1) by omega)
              have K0_10 : Bk w10 w.heap.size 69 #[.int .i64 so, .int .i64 sl, .int .i64 sm] := (K0_9.alloc _).grown hg10 (fun q hq => by have := (hlt q hq).1; omega)
              go_wp2
              go_roundw
              case rel => exact ⟨kk - 1, c + 1, out ++ [UInt8.ofNat (b).toNat], by go_num, by omega, by show _ = _; have := HOL.out; simp; omega, snoc_own O0_10 hb0 hb1, R10, g10, K0_10⟩
              case measure => simp [intOf]; omega
            · skip
              have hm1 : out.length + 1 ≤ maxLen := by unfold maxLen; omega
              have hm2 : (out.length + 1) * 1 ≤ 140737488355328 := by omega
              have hlt := O0_9.lt
              go_wp2_with (at_builtin; go_must (refine wpList_append_own _ rfl _ _ 22 rfl (w.heap.size + 1) 5 i _ 1 1 Try.underlying22 hi hz0 hz1 hz2 rfl (by omega) _ _ _ rfl (O0_9.alloc _) ⟨w9.heap.size, 0, none⟩ 1 1 [.int .u8 y] rfl rfl ?_ ?_ hm1 hm2 ?_ ?_))
              try (case refine_1 => first | exact cell_one_new _ _ _ | omega | (simp <;> omega; done) | (simp [Value.oneCell']; done))
              try (case refine_2 => first | exact cell_one_new _ _ _ | omega | (simp <;> omega; done) | (simp [Value.oneCell']; done))
              try (case refine_3 => first | exact cell_one_new _ _ _ | omega | (simp <;> omega; done) | (simp [Value.oneCell']; done))
              intro v10 w10 O0_10 hg10 _
              have g10 := appR g9 hg10 (by omega) (fun q hq => by have := (hlt q hq).1; omega)
              have R10 := (R9.app hg10 (fun q hq => by have := (hlt q hq).1; omega)).mono (show _ ≤ M + 4 + 3 * (c + 1) by omega)
              have K0_10 : Bk w10 w.heap.size 69 #[.int .i64 so, .int .i64 sl, .int .i64 sm] := (K0_9.alloc _).grown hg10 (fun q hq => by have := (hlt q hq).1; omega)
              go_wp2
              go_roundw
              case rel => exact ⟨kk - 1, c + 1, out ++ [UInt8.ofNat (y).toNat], by go_num, by omega, by show _ = _; have := HOL.out; simp; omega, snoc_own O0_10 hy0 hy1, R10, g10, K0_10⟩
              case measure => simp [intOf]; omega
          · have hL1i : ¬ (1 : Int) + pn ≤ out.length := by omega
            have hm1 : out.length + 1 ≤ maxLen := by unfold maxLen; omega
            have hm2 : (out.length + 1) * 1 ≤ 140737488355328 := by omega
            have hlt := O0_8.lt
            go_wp2_with (at_builtin; go_must (refine wpList_append_own _ rfl _ _ 22 rfl (w.heap.size + 1) 5 i _ 1 1 Try.underlying22 hi hz0 hz1 hz2 rfl (by omega) _ _ _ rfl (O0_8.alloc _) ⟨w8.heap.size, 0, none⟩ 1 1 [.int .u8 y] rfl rfl ?_ ?_ hm1 hm2 ?_ ?_))
            try (case refine_1 => first | exact cell_one_new _ _ _ | omega | (simp <;> omega; done) | (simp [Value.oneCell']; done))
            try (case refine_2 => first | exact cell_one_new _ _ _ | omega | (simp <;> omega; done) | (simp [Value.oneCell']; done))
            try (case refine_3 => first | exact cell_one_new _ _ _ | omega | (simp <;> omega; done) | (simp [Value.oneCell']; done))
            intro v9 w9 O0_9 hg9 _
            have g9 := appR g8 hg9 (by omega) (fun q hq => by have := (hlt q hq).1; omega)
            have R9 := (R8.app hg9 (fun q hq => by have := (hlt q hq).1; omega)).mono (show _ ≤ M + 4 + 3 * (c + 1) by omega)
            have K0_9 : Bk w9 w.heap.size 69 #[.int .i64 so, .int .i64 sl, .int .i64 sm] := (K0_8.alloc _).grown hg9 (fun q hq => by have := (hlt q hq).1; omega)
            go_wp2
            go_roundw
            case rel => exact ⟨kk - 1, c + 1, out ++ [UInt8.ofNat (y).toNat], by go_num, by omega, by show _ = _; have := HOL.out; simp; omega, snoc_own O0_9 hy0 hy1, R9, g9, K0_9⟩
            case measure => simp [intOf]; omega
        have hm0b : (mode == 0) = false := by rw [beq_eq_false_iff_ne]; exact hmode0
        have hm1b : (mode == 1) = false := by rw [beq_eq_false_iff_ne]; exact hmode1
        clear hmode0 hmode1
        have hm1 : out.length + 1 ≤ maxLen := by unfold maxLen; omega
        have hm2 : (out.length + 1) * 1 ≤ 140737488355328 := by omega
        have hlt := O0_8.lt
        go_wp2_with (at_builtin; go_must (refine wpList_append_own _ rfl _ _ 22 rfl (w.heap.size + 1) 5 i _ 1 1 Try.underlying22 hi hz0 hz1 hz2 rfl (by omega) _ _ _ rfl (O0_8.alloc _) ⟨w8.heap.size, 0, none⟩ 1 1 [.int .u8 y] rfl rfl ?_ ?_ hm1 hm2 ?_ ?_))
        try (case refine_1 => first | exact cell_one_new _ _ _ | omega | (simp <;> omega; done) | (simp [Value.oneCell']; done))
        try (case refine_2 => first | exact cell_one_new _ _ _ | omega | (simp <;> omega; done) | (simp [Value.oneCell']; done))
        try (case refine_3 => first | exact cell_one_new _ _ _ | omega | (simp <;> omega; done) | (simp [Value.oneCell']; done))
        intro v9 w9 O0_9 hg9 _
        have g9 := appR g8 hg9 (by omega) (fun q hq => by have := (hlt q hq).1; omega)
        have R9 := (R8.app hg9 (fun q hq => by have := (hlt q hq).1; omega)).mono (show _ ≤ M + 4 + 3 * (c + 1) by omega)
        have K0_9 : Bk w9 w.heap.size 69 #[.int .i64 so, .int .i64 sl, .int .i64 sm] := (K0_8.alloc _).grown hg9 (fun q hq => by have := (hlt q hq).1; omega)
        go_wp2
        go_roundw
        case rel => exact ⟨kk - 1, c + 1, out ++ [UInt8.ofNat (y).toNat], by go_num, by omega, by show _ = _; have := HOL.out; simp; omega, snoc_own O0_9 hy0 hy1, R9, g9, K0_9⟩
        case measure => simp [intOf]; omega
      · have hcv := conv_own O0_7
        have hki : ¬ (0 : Int) < kk := by omega
        go_wp2
        go_ret
        exact ⟨⟨out, rfl, hol3⟩, R7.mono (by omega), g7⟩
  · obtain ⟨part, hpart, hpt_1, hpart2⟩ : ∃ part : Int, cl = part ∧ 1 ≤ part ∧ part ≤ 256 := ⟨_, rfl, by omega, by omega⟩
    subst hpart
    go_wp2_with fail
    refine (pick_any r _ 7 _ R4 (by omega) (by omega) (by omega)).mono ?_
    rintro e w5 ⟨⟨pd, rfl, hpd0, hpd1⟩, R5, b5⟩
    have z5 := b5.size
    try simp only [World.size_alloc, World.size_setCell, World.size_drew] at z5
    have K0_5 := K0_4.belowR b5 (by first | omega | (simp; done) | (simp; omega)) (by omega)
    have O0_5 := ownsR_keep O0_4 b5 (by omega)
    have g5 := g4.trans (b5.mono (by first | omega | (simp; done) | (simp; omega)))
    clear b5 g4 K0_4 O0_4
    obtain ⟨pn, rfl⟩ := Int.eq_ofNat_of_zero_le hpd0
    have hpn : pn ≤ 6 := by omega
    clear hpd0 hpd1
    go_wp2_with fail
    refine (pick_any r _ 4 _ R5 (by omega) (by omega) (by omega)).mono ?_
    rintro e w6 ⟨⟨mode, rfl, hmd0, hmd1⟩, R6, b6⟩
    have z6 := b6.size
    try simp only [World.size_alloc, World.size_setCell, World.size_drew] at z6
    have K0_6 := K0_5.belowR b6 (by first | omega | (simp; done) | (simp; omega)) (by omega)
    have O0_6 := ownsR_keep O0_5 b6 (by omega)
    have g6 := g5.trans (b6.mono (by first | omega | (simp; done) | (simp; omega)))
    clear b6 g5 K0_5 O0_5
    have hmd2 : mode ≤ 3 := by omega
    clear hmd1
    go_wp2_with fail
    refine (pick_any r _ _ _ R6 (by omega) (by omega) (by omega)).mono ?_
    rintro e w7 ⟨⟨n0, rfl, hn0, hn1⟩, R7, b7⟩
    have z7 := b7.size
    try simp only [World.size_alloc, World.size_setCell, World.size_drew] at z7
    have K0_7 := K0_6.belowR b7 (by first | omega | (simp; done) | (simp; omega)) (by omega)
    have O0_7 := ownsR_keep O0_6 b7 (by omega)
    have g7 := g6.trans (b7.mono (by first | omega | (simp; done) | (simp; omega)))
    clear b7 g6 K0_6 O0_6
    obtain ⟨n, rfl⟩ := Int.eq_ofNat_of_zero_le hn0
    have hnm : n ≤ most := by omega
    clear hn0 hn1
    go_wp2
    go_loopw [7, 11] (fun v a wr => ∃ (kk c : Nat) (out : Bs), a = .int .i64 (kk : Int) ∧ c + kk = n ∧ Go.RowKit.Hid (out.length = c) ∧ wr.ownsRow (w.heap.size + 1) 5 1 v out.length (out.map u8v) ∧ Rd wr r (M + 4 + 3 * c) ∧ BelowR w.heap.size r w wr ∧ Bk wr w.heap.size 69 #[.int .i64 so, .int .i64 sl, .int .i64 sm]) (fun _ a _ => (intOf a).toNat)
    case atStart => exact ⟨n, 0, [], rfl, by omega, rfl, O0_7, R7.mono (by omega), g7, K0_7⟩
    case round =>
      obtain ⟨kk, c, out, rfl, hck, HOL, O0_7, R7, g7, K0_7⟩ := hrel
      obtain ⟨A7, cap7, rfl, _⟩ := Sl.of_own O0_7
      have hol2 : out.length = c := HOL.out
      have hol3 : out.length ≤ most := by omega
      have z7 : w.heap.size + 1 ≤ wr.heap.size := K0_7.lt
      clear hol2
      by_cases hk : 0 < kk
      · have hki : (0 : Int) < kk := by omega
        obtain ⟨w7, hw7⟩ : ∃ w7, wr = w7 := ⟨_, rfl⟩
        subst hw7
        go_wp2_with fail
        refine (pick_any r _ 256 _ R7 (by omega) (by omega) (by omega)).mono ?_
        rintro e w8 ⟨⟨x, rfl, hx0, hx1⟩, R8, b8⟩
        have z8 := b8.size
        try simp only [World.size_alloc, World.size_setCell, World.size_drew] at z8
        have K0_8 := K0_7.belowR b8 (by first | omega | (simp; done) | (simp; omega)) (by omega)
        have O0_8 := ownsR_keep O0_7 b8 (by omega)
        have g8 := g7.trans (b8.mono (by first | omega | (simp; done) | (simp; omega)))
        clear b8 g7 K0_7 O0_7
        have hx2 := tmod_bd x cl hx0 hpt_1
        have hx3 : x % cl ≤ 255 := by omega
        have hx4 := hx2.1
        clear hx1 hx2
        have hpz : cl ≠ 0 := by omega
        obtain ⟨y, hy, hy0, hy1⟩ : ∃ y : Int, x % cl = y ∧ 0 ≤ y ∧ y ≤ 255 := ⟨_, rfl, hx4, hx3⟩
        clear hx3 hx4
        by_cases hmode0 : mode = 0
        · subst hmode0
          by_cases hL0 : 0 < out.length
          · have hL0i : (0 : Int) < out.length := by omega
            go_wp2_with fail
            refine (pick_any r _ 4 _ R8 (by omega) (by omega) (by omega)).mono ?_
            rintro e w9 ⟨⟨q, rfl, hq0, hq1⟩, R9, b9⟩
            have z9 := b9.size
            try simp only [World.size_alloc, World.size_setCell, World.size_drew] at z9
            have K0_9 := K0_8.belowR b9 (by first | omega | (simp; done) | (simp; omega)) (by omega)
            have O0_9 := ownsR_keep O0_8 b9 (by omega)
            have g9 := g8.trans (b9.mono (by first | omega | (simp; done) | (simp; omega)))
            clear b9 g8 K0_8 O0_8
            clear hq1
            by_cases hq : 0 < q
            · skip
              obtain ⟨gq, capq, hv, hq1, hq2⟩ := O0_9.form (by omega)
              injection hv with e1 e2 e3
              subst e1; subst e3
              have hidx : out.length - 1 < out.length := by omega
              have hcell : w9.cell? ⟨gq, out.length - 1, none⟩ = some (.int .u8 (out[out.length - 1].toNat : Int)) := (O0_9.cellAt (out.length - 1) (by omega)).trans (by simp [hidx])
              have hb0 : 0 ≤ (out[out.length - 1].toNat : Int) := by omega
              have hb1 : (out[out.length - 1].toNat : Int) ≤ 255 := by have := out[out.length - 1].toNat_lt; omega
              generalize (out[out.length - 1].toNat : Int) = b at *
              have hsub : (out.length : Int) - 1 = ((out.length - 1 : Nat) : Int) := by omega
              have hm1 : out.length + 1 ≤ maxLen := by unfold maxLen; omega
              have hm2 : (out.length + 1) * 1 ≤ 140737488355328 := by omega
              have hlt := O0_9.lt
              go_wp2_with (at_builtin; go_must (refine wpList_append_own _ rfl _ _ 22 rfl (w.heap.size + 1) 5 i _ 1 1 Try.underlying22 hi hz0 hz1 hz2 rfl (by omega) _ _ _ rfl (O0_9.alloc _) ⟨w9.heap.size, 0, none⟩ 1 1 [.int .u8 b] rfl rfl ?_ ?_ hm1 hm2 ?_ ?_))
              try (case refine_1 => first | exact cell_one_new _ _ _ | omega | (simp <;> omega; done) | (simp [Value.oneCell']; done))
              try (case refine_2 => first | exact cell_one_new _ _ _ | omega | (simp <;> omega; done) | (simp [Value.oneCell']; done))
              try (case refine_3 => first | exact cell_one_new _ _ _ | omega | (simp <;> omega; done) | (simp [Value.oneCell']; done))
              intro v10 w10 O0_10 hg10 _
              have g10 := appR g9 hg10 (by omega) (fun q hq => by have := (hlt q hq).1; omega)
              have R10 := (R9.app hg10 (fun q hq => by have := (hlt q hq).1; omega)).mono (show _ ≤ M + 4 + 3 * (c + 1) by omega)
              have K0_10 : Bk w10 w.heap.size 69 #[.int .i64 so, .int .i64 sl, .int .i64 sm] := (K0_9.alloc _).grown hg10 (fun q hq => by have := (hlt q hq).1; omega)
              go_wp2
              go_roundw
              case rel => exact ⟨kk - 1, c + 1, out ++ [UInt8.ofNat (b).toNat], by go_num, by omega, by show _ = _; have := HOL.out; simp; omega, snoc_own O0_10 hb0 hb1, R10, g10, K0_10⟩
              case measure => simp [intOf]; omega
            · skip
              have hm1 : out.length + 1 ≤ maxLen := by unfold maxLen; omega
              have hm2 : (out.length + 1) * 1 ≤ 140737488355328 := by omega
              have hlt := O0_9.lt
              go_wp2_with (at_builtin; go_must (refine wpList_append_own _ rfl _ _ 22 rfl (w.heap.size + 1) 5 i _ 1 1 Try.underlying22 hi hz0 hz1 hz2 rfl (by omega) _ _ _ rfl (O0_9.alloc _) ⟨w9.heap.size, 0, none⟩ 1 1 [.int .u8 y] rfl rfl ?_ ?_ hm1 hm2 ?_ ?_))
              try (case refine_1 => first | exact cell_one_new _ _ _ | omega | (simp <;> omega; done) | (simp [Value.oneCell']; done))
              try (case refine_2 => first | exact cell_one_new _ _ _ | omega | (simp <;> omega; done) | (simp [Value.oneCell']; done))
              try (case refine_3 => first | exact cell_one_new _ _ _ | omega | (simp <;> omega; done) | (simp [Value.oneCell']; done))
              intro v10 w10 O0_10 hg10 _
              have g10 := appR g9 hg10 (by omega) (fun q hq => by have := (hlt q hq).1; omega)
              have R10 := (R9.app hg10 (fun q hq => by have := (hlt q hq).1; omega)).mono (show _ ≤ M + 4 + 3 * (c + 1) by omega)
              have K0_10 : Bk w10 w.heap.size 69 #[.int .i64 so, .int .i64 sl, .int .i64 sm] := (K0_9.alloc _).grown hg10 (fun q hq => by have := (hlt q hq).1; omega)
              go_wp2
              go_roundw
              case rel => exact ⟨kk - 1, c + 1, out ++ [UInt8.ofNat (y).toNat], by go_num, by omega, by show _ = _; have := HOL.out; simp; omega, snoc_own O0_10 hy0 hy1, R10, g10, K0_10⟩
              case measure => simp [intOf]; omega
          · have hL0i : ¬ (0 : Int) < out.length := by omega
            have hm1 : out.length + 1 ≤ maxLen := by unfold maxLen; omega
            have hm2 : (out.length + 1) * 1 ≤ 140737488355328 := by omega
            have hlt := O0_8.lt
            go_wp2_with (at_builtin; go_must (refine wpList_append_own _ rfl _ _ 22 rfl (w.heap.size + 1) 5 i _ 1 1 Try.underlying22 hi hz0 hz1 hz2 rfl (by omega) _ _ _ rfl (O0_8.alloc _) ⟨w8.heap.size, 0, none⟩ 1 1 [.int .u8 y] rfl rfl ?_ ?_ hm1 hm2 ?_ ?_))
            try (case refine_1 => first | exact cell_one_new _ _ _ | omega | (simp <;> omega; done) | (simp [Value.oneCell']; done))
            try (case refine_2 => first | exact cell_one_new _ _ _ | omega | (simp <;> omega; done) | (simp [Value.oneCell']; done))
            try (case refine_3 => first | exact cell_one_new _ _ _ | omega | (simp <;> omega; done) | (simp [Value.oneCell']; done))
            intro v9 w9 O0_9 hg9 _
            have g9 := appR g8 hg9 (by omega) (fun q hq => by have := (hlt q hq).1; omega)
            have R9 := (R8.app hg9 (fun q hq => by have := (hlt q hq).1; omega)).mono (show _ ≤ M + 4 + 3 * (c + 1) by omega)
            have K0_9 : Bk w9 w.heap.size 69 #[.int .i64 so, .int .i64 sl, .int .i64 sm] := (K0_8.alloc _).grown hg9 (fun q hq => by have := (hlt q hq).1; omega)
            go_wp2
            go_roundw
            case rel => exact ⟨kk - 1, c + 1, out ++ [UInt8.ofNat (y).toNat], by go_num, by omega, by show _ = _; have := HOL.out; simp; omega, snoc_own O0_9 hy0 hy1, R9, g9, K0_9⟩
            case measure => simp [intOf]; omega
        by_cases hmode1 : mode = 1
        · subst hmode1
          by_cases hL1 : 1 + pn ≤ out.length
          · have hL1i : (1 : Int) + pn ≤ out.length := by omega
            go_wp2_with fail
            refine (pick_any r _ 10 _ R8 (by omega) (by omega) (by omega)).mono ?_
            rintro e w9 ⟨⟨q, rfl, hq0, hq1⟩, R9, b9⟩
            have z9 := b9.size
            try simp only [World.size_alloc, World.size_setCell, World.size_drew] at z9
            have K0_9 := K0_8.belowR b9 (by first | omega | (simp; done) | (simp; omega)) (by omega)
            have O0_9 := ownsR_keep O0_8 b9 (by omega)
            have g9 := g8.trans (b9.mono (by first | omega | (simp; done) | (simp; omega)))
            clear b9 g8 K0_8 O0_8
            clear hq1
            by_cases hq : 0 < q
            · skip
              obtain ⟨gq, capq, hv, hq1, hq2⟩ := O0_9.form (by omega)
              injection hv with e1 e2 e3
              subst e1; subst e3
              have hidx : out.length - (1 + pn) < out.length := by omega
              have hcell : w9.cell? ⟨gq, out.length - (1 + pn), none⟩ = some (.int .u8 (out[out.length - (1 + pn)].toNat : Int)) := (O0_9.cellAt (out.length - (1 + pn)) (by omega)).trans (by simp [hidx])
              have hb0 : 0 ≤ (out[out.length - (1 + pn)].toNat : Int) := by omega
              have hb1 : (out[out.length - (1 + pn)].toNat : Int) ≤ 255 := by have := out[out.length - (1 + pn)].toNat_lt; omega
              generalize (out[out.length - (1 + pn)].toNat : Int) = b at *
              have hsub : (out.length : Int) - (1 + (pn : Int)) = ((out.length - (1 + pn) : Nat) : Int) := by omega
              have hm1 : out.length + 1 ≤ maxLen := by unfold maxLen; omega
              have hm2 : (out.length + 1) * 1 ≤ 140737488355328 := by omega
              have hlt := O0_9.lt
              go_wp2_with (at_builtin; go_must (refine wpList_append_own _ rfl _ _ 22 rfl (w.heap.size + 1) 5 i _ 1 1 Try.underlying22 hi hz0 hz1 hz2 rfl (by omega) _ _ _ rfl (O0_9.alloc _) ⟨w9.heap.size, 0, none⟩ 1 1 [.int .u8 b] rfl rfl ?_ ?_ hm1 hm2 ?_ ?_))
              try (case refine_1 => first | exact cell_one_new _ _ _ | omega | (simp <;> omega; done) | (simp [Value.oneCell']; done))
              try (case refine_2 => first | exact cell_one_new _ _ _ | omega | (simp <;> omega; done) | (simp [Value.oneCell']; done))
              try (case refine_3 => first | exact cell_one_new _ _ _ | omega | (simp <;> omega; done) | (simp [Value.oneCell']; done))
              intro v10 w10 O0_10 hg10 _
              have g10 := appR g9 hg10 (by omega) (fun q hq => by have := (hlt q hq).1; omega)
              have R10 := (R9.app hg10 (fun q hq => by have := (hlt q hq).1; omega)).mono (show _ ≤ M + 4 + 3 * (c + 1) by omega)
              have K0_10 : Bk w10 w.heap.size 69 #[.int .i64 so, .int .i64 sl, .int .i64 sm] := (K0_9.alloc _).grown hg10 (fun q hq => by have := (hlt q hq).1; omega)
              go_wp2
              go_roundw
              case rel => exact ⟨kk - 1, c + 1, out ++ [UInt8.ofNat (b).toNat], by go_num, by omega, by show _ = _; have := HOL.out; simp; omega, snoc_own O0_10 hb0 hb1, R10, g10, K0_10⟩
              case measure => simp [intOf]; omega
            · skip
              have hm1 : out.length + 1 ≤ maxLen := by unfold maxLen; omega
              have hm2 : (out.length + 1) * 1 ≤ 140737488355328 := by omega
              have hlt := O0_9.lt
              go_wp2_with (at_builtin; go_must (refine wpList_append_own _ rfl _ _ 22 rfl (w.heap.size + 1) 5 i _ 1 1 Try.underlying22 hi hz0 hz1 hz2 rfl (by omega) _ _ _ rfl (O0_9.alloc _) ⟨w9.heap.size, 0, none⟩ 1 1 [.int .u8 y] rfl rfl ?_ ?_ hm1 hm2 ?_ ?_))
              try (case refine_1 => first | exact cell_one_new _ _ _ | omega | (simp <;> omega; done) | (simp [Value.oneCell']; done))
              try (case refine_2 => first | exact cell_one_new _ _ _ | omega | (simp <;> omega; done) | (simp [Value.oneCell']; done))
              try (case refine_3 => first | exact cell_one_new _ _ _ | omega | (simp <;> omega; done) | (simp [Value.oneCell']; done))
              intro v10 w10 O0_10 hg10 _
              have g10 := appR g9 hg10 (by omega) (fun q hq => by have := (hlt q hq).1; omega)
              have R10 := (R9.app hg10 (fun q hq => by have := (hlt q hq).1; omega)).mono (show _ ≤ M + 4 + 3 * (c + 1) by omega)
              have K0_10 : Bk w10 w.heap.size 69 #[.int .i64 so, .int .i64 sl, .int .i64 sm] := (K0_9.alloc _).grown hg10 (fun q hq => by have := (hlt q hq).1; omega)
              go_wp2
              go_roundw
              case rel => exact ⟨kk - 1, c + 1, out ++ [UInt8.ofNat (y).toNat], by go_num, by omega, by show _ = _; have := HOL.out; simp; omega, snoc_own O0_10 hy0 hy1, R10, g10, K0_10⟩
              case measure => simp [intOf]; omega
          · have hL1i : ¬ (1 : Int) + pn ≤ out.length := by omega
            have hm1 : out.length + 1 ≤ maxLen := by unfold maxLen; omega
            have hm2 : (out.length + 1) * 1 ≤ 140737488355328 := by omega
            have hlt := O0_8.lt
            go_wp2_with (at_builtin; go_must (refine wpList_append_own _ rfl _ _ 22 rfl (w.heap.size + 1) 5 i _ 1 1 Try.underlying22 hi hz0 hz1 hz2 rfl (by omega) _ _ _ rfl (O0_8.alloc _) ⟨w8.heap.size, 0, none⟩ 1 1 [.int .u8 y] rfl rfl ?_ ?_ hm1 hm2 ?_ ?_))
            try (case refine_1 => first | exact cell_one_new _ _ _ | omega | (simp <;> omega; done) | (simp [Value.oneCell']; done))
            try (case refine_2 => first | exact cell_one_new _ _ _ | omega | (simp <;> omega; done) | (simp [Value.oneCell']; done))
            try (case refine_3 => first | exact cell_one_new _ _ _ | omega | (simp <;> omega; done) | (simp [Value.oneCell']; done))
            intro v9 w9 O0_9 hg9 _
            have g9 := appR g8 hg9 (by omega) (fun q hq => by have := (hlt q hq).1; omega)
            have R9 := (R8.app hg9 (fun q hq => by have := (hlt q hq).1; omega)).mono (show _ ≤ M + 4 + 3 * (c + 1) by omega)
            have K0_9 : Bk w9 w.heap.size 69 #[.int .i64 so, .int .i64 sl, .int .i64 sm] := (K0_8.alloc _).grown hg9 (fun q hq => by have := (hlt q hq).1; omega)
            go_wp2
            go_roundw
            case rel => exact ⟨kk - 1, c + 1, out ++ [UInt8.ofNat (y).toNat], by go_num, by omega, by show _ = _; have := HOL.out; simp; omega, snoc_own O0_9 hy0 hy1, R9, g9, K0_9⟩
            case measure => simp [intOf]; omega
        have hm0b : (mode == 0) = false := by rw [beq_eq_false_iff_ne]; exact hmode0
        have hm1b : (mode == 1) = false := by rw [beq_eq_false_iff_ne]; exact hmode1
        clear hmode0 hmode1
        have hm1 : out.length + 1 ≤ maxLen := by unfold maxLen; omega
        have hm2 : (out.length + 1) * 1 ≤ 140737488355328 := by omega
        have hlt := O0_8.lt
        go_wp2_with (at_builtin; go_must (refine wpList_append_own _ rfl _ _ 22 rfl (w.heap.size + 1) 5 i _ 1 1 Try.underlying22 hi hz0 hz1 hz2 rfl (by omega) _ _ _ rfl (O0_8.alloc _) ⟨w8.heap.size, 0, none⟩ 1 1 [.int .u8 y] rfl rfl ?_ ?_ hm1 hm2 ?_ ?_))
        try (case refine_1 => first | exact cell_one_new _ _ _ | omega | (simp <;> omega; done) | (simp [Value.oneCell']; done))
        try (case refine_2 => first | exact cell_one_new _ _ _ | omega | (simp <;> omega; done) | (simp [Value.oneCell']; done))
        try (case refine_3 => first | exact cell_one_new _ _ _ | omega | (simp <;> omega; done) | (simp [Value.oneCell']; done))
        intro v9 w9 O0_9 hg9 _
        have g9 := appR g8 hg9 (by omega) (fun q hq => by have := (hlt q hq).1; omega)
        have R9 := (R8.app hg9 (fun q hq => by have := (hlt q hq).1; omega)).mono (show _ ≤ M + 4 + 3 * (c + 1) by omega)
        have K0_9 : Bk w9 w.heap.size 69 #[.int .i64 so, .int .i64 sl, .int .i64 sm] := (K0_8.alloc _).grown hg9 (fun q hq => by have := (hlt q hq).1; omega)
        go_wp2
        go_roundw
        case rel => exact ⟨kk - 1, c + 1, out ++ [UInt8.ofNat (y).toNat], by go_num, by omega, by show _ = _; have := HOL.out; simp; omega, snoc_own O0_9 hy0 hy1, R9, g9, K0_9⟩
        case measure => simp [intOf]; omega
      · have hcv := conv_own O0_7
        have hki : ¬ (0 : Int) < kk := by omega
        go_wp2
        go_ret
        exact ⟨⟨out, rfl, hol3⟩, R7.mono (by omega), g7⟩
end Go.Proofs.Ytgcjfddkgbigoaa
