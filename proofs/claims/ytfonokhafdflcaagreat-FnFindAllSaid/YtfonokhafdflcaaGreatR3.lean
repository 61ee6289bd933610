/- Walks: the pieces of what is found, by the program. -/
import Derived.Test.YtfonokhafdflcaaGreatPr
import Derived.Test.YtfonokhafdflcaaGreatGJ4
import Derived.Test.YtfonokhafdflcaaGreatGP1
namespace Go.Proofs.YtfonokhafdflcaaGreat
open Go.RowKit
set_option linter.unusedVariables false
set_option linter.unusedSimpArgs false
set_option maxRecDepth 100000
attribute [local go_sem high] run_index_S binOp_eql_S binOp_neq_S append_S toList_S size_S run_slice_S run_slice_from_S run_slice_to_S wrap64_byteAt wrap64_byteAt_mul bits_or_bytes convU conv1_some convU2 conv2_some
set_option maxHeartbeats 2000000 in
theorem salvage_any (o l m : Int) (dict t : Bs) (w : World) (hdl : dict.length ≤ 9223372036854775807) (htl : t.length ≤ 1500000) :
    Calls Tryz.prog 12 #[.agg #[.int .i64 o, .int .i64 l, .int .i64 m], sv dict, sv t] w (PcRes (pcsB o l m dict t) w) := by
  obtain ⟨i, hi, hz0, hz1, hz2⟩ := info_parts info_piece
  by_cases hf : fits o l m dict
  · have cS := fun w => iStartWith_any o l m dict w hf
    have cF := fun w => findBlocks_any t w htl
    have cD : Go.RowKit.Hid (∀ b A cap w, b.ok = true → Sl w A (startW o l m dict).ps.length cap 2 (psV (startW o l m dict).ps) → Calls Tryz.prog 37 #[knV (startW o l m dict) A cap, bkV b] w fun e w' => e = datRes (b.dat (startW o l m dict)) ∧ Below w.heap.size w w') := fun b A cap w h hs => blockData_any _ A cap b w (startW_ok hf) hs (by have := ok_body h; omega)
    rw [pcsB_yes hf]
    have HOK := Go.Lib.hid (find_ok t)
    have hfl : (findB t).length ≤ 1000000 := by
      have := findB_len t
      omega
    clear hf
    unfold KtRes at cS
    generalize startW o l m dict = K at *
    generalize findB t = fs at *
    go_enter Tryz.func12, Tryz.ntmps12
    have hK0 : Bk (w.alloc (.cells #[.int .i64 o, .int .i64 l, .int .i64 m] 24)) w.heap.size 24 #[.int .i64 o, .int .i64 l, .int .i64 m] := (by (repeat (first | (with_reducible assumption) | (with_reducible exact Bk.new _ _ _) | (with_reducible refine Bk.newAt _ _ _ (by simp; done)) | (with_reducible refine Bk.drew ?_) | (with_reducible refine Bk.drewN ?_ _) | (with_reducible refine Bk.alloc ?_ _))); done)
    have g0 : Below w.heap.size w (w.alloc (.cells #[.int .i64 o, .int .i64 l, .int .i64 m] 24)) := (by repeat (first | (with_reducible exact Below.refl _ _) | (with_reducible assumption) | (with_reducible refine Below.drew ?_) | (with_reducible refine Below.alloc ?_ (by first | omega | (simp <;> omega)) _) | (with_reducible refine Below.setCell ?_ (by first | omega | (simp <;> omega)) _) | (with_reducible refine belowN ?_ _)))
    go_upto_region 1 with (fail)
    generalize w.alloc (.cells #[.int .i64 o, .int .i64 l, .int .i64 m] 24) = w0 at *
    have hX0 := hK0.cell
    have hz0' := hK0.lt
    go_wp2_with fail
    refine (cS _).mono ?_
    rintro e w1 ⟨A1, c1, rfl, o1, hb1⟩
    have z1 := hb1.size
    have g1 := g0.trans (hb1.mono (by omega))
    have hB2 := Bk.new w1 (knC K A1 c1) 67
    have o2 := o1.alloc (.cells (knC K A1 c1) 67)
    have g2 := g1.alloc (by omega) (.cells (knC K A1 c1) 67)
    clear hb1 hX0 hK0 g0 o1 g1
    go_upto_region 2 with (fail)
    unfold knC at hB2 o2 g2
    generalize w1.alloc (.cells #[.int .i64 K.o, .int .i64 K.l, .int .i64 K.m, .slice A1 K.ps.length c1, .int .i64 K.base, .int .i64 K.last] 67) = W at *
    have hl2 := hB2.lt
    generalize hq1 : w1.heap.size = q1 at *
    go_wp2_with fail
    refine (cF _).mono ?_
    rintro e w3 ⟨Af, cf, rfl, f3, hb3⟩
    have z3 := hb3.size
    have hB3 := hB2.below hb3 hl2
    have g3 := g2.trans (hb3.mono (by have := g2.size; omega))
    have k3 := own_Sl (owns_keep o2 hb3)
    have s3 := own_Sl f3
    clear hb3 f3 o2 g2 hB2 cF
    have hg3 := g3.size
    have HALL : Go.RowKit.Hid (∀ wr, Below w3.heap.size w3 wr → Bk wr q1 67 (knC K A1 c1) ∧ Sl wr A1 K.ps.length c1 2 (psV K.ps) ∧ Sl wr Af fs.length cf 5 (fsV fs) ∧ Below w.heap.size w wr) := fun wr h => ⟨hB3.below h (by omega), k3.below h, s3.below h, g3.trans (h.mono hg3)⟩
    clear hB3 k3 s3 g3
    go_wp2
    go_loopw [10, 26] (fun a i wr => ∃ (k : Nat) (A : Option Addr) (cap : Nat) (ps : List Pc), a = .slice A ps.length cap ∧ i = .int .i64 (k : Int) ∧ k ≤ 40 ∧ ps.length ≤ k ∧ Go.RowKit.Hid (pcTo K fs k = ps) ∧ wr.ownsRow w3.heap.size 84 2 (.slice A ps.length cap) ps.length (pcsV ps) ∧ Below w3.heap.size w3 wr) (fun _ i _ => 40 - (intOf i).toNat)
    case atStart => exact ⟨0, none, 0, [], rfl, rfl, by omega, by simp, rfl, ⟨by simp [pcsV], .inl ⟨rfl, rfl⟩⟩, Below.refl _ _⟩
    case round =>
      obtain ⟨k, A, cap, ps, rfl, rfl, hk, hpl, HP, ow, hb⟩ := hrel
      have hz := hb.size
      by_cases hlt : k < 40
      · have hki : (k : Int) < 40 := by omega
        obtain ⟨hBk, hsK, hsF, _⟩ := HALL.out wr hb
        have cL := firstFound_any fs k Af cf wr hsF hfl
        have HNO : Go.RowKit.Hid (firstF fs k = none → pcTo K fs (k + 1) = ps) := fun h => by rw [pcTo_none (pcOf_no h)]; exact HP.out
        have HBAD : Go.RowKit.Hid (∀ b, firstF fs k = some b → b.dat K = none → pcTo K fs (k + 1) = ps) := fun b h h2 => by rw [pcTo_none (pcOf_bad h h2)]; exact HP.out
        have HYES : Go.RowKit.Hid (∀ b d, firstF fs k = some b → b.dat K = some d → pcTo K fs (k + 1) = ps ++ [((k : Int), d)]) := fun b d h h2 => by rw [pcTo_some (pcOf_yes h h2), HP.out]
        have HFO := fun b h => HOK.out (k : Int) b h
        generalize firstF fs (k : Int) = F at *
        clear hsF hBk hsK
        cases F with
        | none =>
          have HP2 := Go.Lib.hid (HNO.out rfl)
          clear HNO HBAD HYES HP
          go_wp2_with fail
          refine cL.mono ?_
          rintro e w4 ⟨rfl, hb4⟩
          have z4 := hb4.size
          have ow4 := (owns_keep ow hb4).alloc (.cells bkZC 38)
          have g4 := (hb.trans (hb4.mono hz)).alloc (by omega) (.cells bkZC 38)
          clear hb4 cL ow hb
          have hX := (Bk.new w4 bkZC 38).cell
          have hF := (Bk.new w4 bkZC 38).free
          unfold ffRes
          go_wp2
          go_roundw
          case rel => exact ⟨k + 1, A, cap, ps, rfl, by go_num, by omega, by omega, HP2, ow4, g4⟩
          case measure => simp [intOf]; omega
        | some b =>
          have hbo := HFO b rfl
          have cB := fun w hs => cD.out b A1 c1 w hbo hs
          have HBAD2 : Go.RowKit.Hid (b.dat K = none → pcTo K fs (k + 1) = ps) := HBAD.out b rfl
          have HYES2 : Go.RowKit.Hid (∀ d, b.dat K = some d → pcTo K fs (k + 1) = ps ++ [((k : Int), d)]) := fun d => HYES.out b d rfl
          clear HNO HBAD HYES HFO HP hbo
          generalize b.dat K = D at *
          obtain ⟨n2, r, n4, T⟩ := b
          go_wp2_with fail
          refine cL.mono ?_
          rintro e w4 ⟨rfl, hb4⟩
          have z4 := hb4.size
          have hN4 := Bk.new w4 (bkC ⟨n2, r, n4, T⟩) 38
          have ow4 := (owns_keep ow hb4).alloc (.cells (bkC ⟨n2, r, n4, T⟩) 38)
          have g4 := (hb.trans (hb4.mono hz)).alloc (by omega) (.cells (bkC ⟨n2, r, n4, T⟩) 38)
          clear hb4 cL ow hb
          unfold ffRes
          go_upto_region 10 with (fail)
          generalize w4.alloc (.cells _ 38) = W4 at *
          obtain ⟨hBk, hsK, _, _⟩ := HALL.out W4 g4
          have hX := hBk.cell
          have hY := hN4.cell
          have hlN := hN4.lt
          go_wp2_with fail
          refine (cB _ hsK).mono ?_
          rintro e w5 ⟨rfl, hb5⟩
          have z5 := hb5.size
          have ow5 := owns_keep ow4 hb5
          have g5 := g4.trans (hb5.mono (by omega))
          clear hb5 ow4 g4 cB hN4 hX hY hBk hsK
          cases D with
          | none =>
            have HP2 := Go.Lib.hid (HBAD2.out rfl)
            unfold datRes
            go_wp2
            go_roundw
            case rel => exact ⟨k + 1, A, cap, ps, rfl, by go_num, by omega, by omega, HP2, ow5, g5⟩
            case measure => simp [intOf]; omega
          | some d =>
            have HP2 := Go.Lib.hid (HYES2.out d rfl)
            clear HBAD2 HYES2
            unfold datRes
            have hm1 : ps.length + 1 ≤ maxLen := by unfold maxLen; omega
            have hm2 : (ps.length + 1) * 24 ≤ 140737488355328 := by omega
            go_wp2_with (at_builtin; go_must (refine wpList_ap _ rfl _ _ 43 rfl (w3.heap.size) 84 i _ 2 24 Tryz.underlying43 hi hz0 hz1 hz2 rfl (by omega) _ _ _ rfl (ow5.alloc _) _ 1 1 [.int .i64 (k : Int), .string ⟨d.toArray⟩] rfl (Sl.newAt w5 #[.int .i64 (k : Int), .string ⟨d.toArray⟩] _ 1 2 (by first | rfl | simp) (by simp) (by omega)) (by simp [Value.oneCell']) hm1 hm2 ?_ ?_))
            try (case refine_1 => first | omega | (simp <;> omega; done))
            intro A6 cap6 w6 ow6 hg6 _
            have g6 := app_below g5 hg6 (by omega) (fun q hq => by have := (ow5.lt q hq).1; omega)
            have ow6' : w6.ownsRow w3.heap.size 84 2 (.slice A6 (ps ++ [((k : Int), d)]).length cap6) (ps ++ [((k : Int), d)]).length (pcsV (ps ++ [((k : Int), d)])) := by
              rw [pcsV_snoc, List.length_append]; exact ow6
            have hol : (ps ++ [((k : Int), d)]).length = ps.length + 1 := by simp
            have HOL := Go.Lib.hid hol
            clear ow6 hg6 ow5 g5 hol
            go_wp2
            go_roundw
            case rel => exact ⟨k + 1, A6, cap6, _, (by rw [HOL.out]), by go_num, by omega, by rw [HOL.out]; omega, HP2, ow6', g6⟩
            case measure => simp [intOf]; omega
      · have hki : ¬ (k : Int) < 40 := by omega
        have hk40 : k = 40 := by omega
        subst hk40
        have h := HP.out
        subst h
        have gw := (HALL.out _ hb).2.2.2
        have ow' := own_mono (B' := w.heap.size) ow hg3
        go_wp2
        go_ret
        exact ⟨A, cap, rfl, ow', gw⟩
  · have cS := fun w => iStartWith_no o l m dict w hf hdl
    rw [pcsB_no hf]
    clear hf
    go_enter Tryz.func12, Tryz.ntmps12
    have hK0 : Bk (w.alloc (.cells #[.int .i64 o, .int .i64 l, .int .i64 m] 24)) w.heap.size 24 #[.int .i64 o, .int .i64 l, .int .i64 m] := (by (repeat (first | (with_reducible assumption) | (with_reducible exact Bk.new _ _ _) | (with_reducible refine Bk.newAt _ _ _ (by simp; done)) | (with_reducible refine Bk.drew ?_) | (with_reducible refine Bk.drewN ?_ _) | (with_reducible refine Bk.alloc ?_ _))); done)
    have g0 : Below w.heap.size w (w.alloc (.cells #[.int .i64 o, .int .i64 l, .int .i64 m] 24)) := (by repeat (first | (with_reducible exact Below.refl _ _) | (with_reducible assumption) | (with_reducible refine Below.drew ?_) | (with_reducible refine Below.alloc ?_ (by first | omega | (simp <;> omega)) _) | (with_reducible refine Below.setCell ?_ (by first | omega | (simp <;> omega)) _) | (with_reducible refine belowN ?_ _)))
    go_upto_region 1 with (fail)
    generalize w.alloc (.cells #[.int .i64 o, .int .i64 l, .int .i64 m] 24) = w0 at *
    have hX0 := hK0.cell
    have hz0' := hK0.lt
    go_wp2_with fail
    refine (cS _).mono ?_
    rintro e w1 ⟨rfl, hb1⟩
    have g1 := g0.trans (hb1.mono (by omega))
    have hz1 := g1.size
    go_wp2
    go_ret
    exact ⟨none, 0, rfl, ⟨by simp [pcsV], .inl ⟨rfl, rfl⟩⟩, (by repeat (first | (with_reducible exact Below.refl _ _) | (with_reducible assumption) | (with_reducible refine Below.drew ?_) | (with_reducible refine Below.alloc ?_ (by first | omega | (simp <;> omega)) _) | (with_reducible refine Below.setCell ?_ (by first | omega | (simp <;> omega)) _) | (with_reducible refine belowN ?_ _)))⟩
end Go.Proofs.YtfonokhafdflcaaGreat
