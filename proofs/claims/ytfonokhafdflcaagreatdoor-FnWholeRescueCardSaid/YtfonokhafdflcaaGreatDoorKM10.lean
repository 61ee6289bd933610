import Derived.Test.YtfonokhafdflcaaGreatDoorKM9
import Derived.Test.YtfonokhafdflcaaGreatDoorKQ13
import Derived.Test.YtfonokhafdflcaaGreatDoorKJ27
import Derived.Test.YtfonokhafdflcaaGreatDoorKE10
import Derived.Test.YtfonokhafdflcaaGreatDoorKE5
import Derived.Test.YtfonokhafdflcaaGreatDoorKP13
import Derived.Test.YtfonokhafdflcaaGreatDoorKR2
import Derived.Test.YtfonokhafdflcaaGreatDoorKGQ
import Derived.Test.YtfonokhafdflcaaGreatDoorKFp
import Derived.Test.YtfonokhafdflcaaGreatDoorKW9
namespace Go.Proofs.YtfonokhafdflcaaGreatDoor
open Go.RowKit
set_option linter.unusedSimpArgs false
set_option linter.unusedVariables false
set_option maxRecDepth 100000
attribute [local go_sem high] run_index_S binOp_eql_S binOp_neq_S append_S toList_S size_S run_slice_S run_slice_from_S run_slice_to_S wrap64_byteAt wrap64_byteAt_mul bits_or_bytes convU conv1_some convU2 conv2_some
theorem fmtPar_lenM {ls : List Bs} (h : ∀ t ∈ ls, t.length ≤ 76) (hl : ls.length ≤ 1000) : (fmtPar ls).length ≤ 200000 := by
 unfold fmtPar
 split
 ·have h1 := jn_len (ls.map hexOf) 152 (fun t ht => by obtain ⟨u, hu, rfl⟩ := List.mem_map.1 ht; have := h u hu; rw [hexOf_length]; omega)
  rw [List.length_map] at h1
  have h2 : (orDash (join 32 (ls.map hexOf))).length ≤ (join 32 (ls.map hexOf)).length + 1 := by unfold orDash; split <;> simp
  omega
 ·simp
theorem soData_any (o l m : Int) (dict t : Bs) (w : World) (hdl : dict.length ≤ 9223372036854775807) (htl : t.length ≤ 1500000) :
  Calls Tryz.prog 19 #[.agg #[.int .i64 o, .int .i64 l, .int .i64 m], sv dict, sv t] w fun e w' => e = .returned (sv ((cdB o l m dict t).getD [])) ∧ Below w.heap.size w w' := by
 have cD := fun w => containerData_any o l m dict t w hdl htl
 unfold datRes at cD
 generalize cdB o l m dict t = O at *
 go_enter Tryz.func19, Tryz.ntmps19
 have hK0 : Bk (w.alloc (.cells #[.int .i64 o, .int .i64 l, .int .i64 m] 24)) w.heap.size 24 #[.int .i64 o, .int .i64 l, .int .i64 m] := (by (repeat (first | (with_reducible assumption) | (with_reducible exact Bk.new _ _ _) | (with_reducible refine Bk.newAt _ _ _ (by simp; done)) | (with_reducible refine Bk.drew ?_) | (with_reducible refine Bk.drewN ?_ _) | (with_reducible refine Bk.alloc ?_ _))); done)
 have g0 : Below w.heap.size w (w.alloc (.cells #[.int .i64 o, .int .i64 l, .int .i64 m] 24)) := (by repeat (first | (with_reducible exact Below.refl _ _) | (with_reducible assumption) | (with_reducible refine Below.drew ?_) | (with_reducible refine Below.alloc ?_ (by first | omega | (simp <;> omega)) _) | (with_reducible refine Below.setCell ?_ (by first | omega | (simp <;> omega)) _) | (with_reducible refine belowN ?_ _)))
 go_upto_region 1 with (fail)
 generalize w.alloc (.cells #[.int .i64 o, .int .i64 l, .int .i64 m] 24) = w0 at *
 have hX0 := hK0.cell
 have hz0 := hK0.lt
 go_wp2_with fail
 refine (cD _).mono ?_
 rintro e w1 ⟨rfl, hb1⟩
 have g1 := g0.trans (hb1.mono (by omega))
 go_wp2
 go_ret
 exact ⟨rfl, g1⟩
set_option maxHeartbeats 8000000 in
theorem law_WholeRescue (A : Option Addr) (cap : Nat) (bs : Bs) (A2 : Option Addr) (cap2 : Nat) (bs2 : Bs) (w : World) (mx : Int) (hm : w.cell? ⟨0, 0, none⟩ = some (.int .i64 mx)) (hs : Sl w A bs.length cap 1 (bs.map u8v)) (hs2 : Sl w A2 bs2.length cap2 1 (bs2.map u8v)) :
    Calls Tryz.prog 3 #[.slice A bs.length cap, .slice A2 bs2.length cap2] w fun e w' => e = .returned (.bool true) ∧ Below w.heap.size w w' := by
  go_enter Tryz.func3, Tryz.ntmps3
  by_cases hl0 : 1048576 < bs.length
  · have hli : (1048576 : Int) < bs.length := by omega
    go_wp2
    go_ret
    exact ⟨rfl, Below.refl _ _⟩
  have hli0 : ¬ (1048576 : Int) < bs.length := by omega
  by_cases hl1 : 1048576 < bs2.length
  · have hli : (1048576 : Int) < bs2.length := by omega
    go_wp2
    go_ret
    exact ⟨rfl, Below.refl _ _⟩
  have hli1 : ¬ (1048576 : Int) < bs2.length := by omega
  clear hl0
  go_wp2_with fail
  refine (drawMakeContainer_any bs A cap _ hs).mono ?_
  rintro e w1 ⟨⟨o, l, m, dict, d, size, rfl, hdl, hd, hs0, hs1⟩, g1⟩
  have z1 := g1.size
  have hK2 := Bk.new w1 #[.int .i64 o, .int .i64 l, .int .i64 m] 24
  have g2 := g1.alloc z1 (.cells #[.int .i64 o, .int .i64 l, .int .i64 m] 24)
  clear hs hs2
  go_upto_region 4 with (fail)
  generalize w1.alloc (.cells #[.int .i64 o, .int .i64 l, .int .i64 m] 24) = W at *
  have z2 := hK2.lt
  generalize w1.heap.size = q1 at *
  have cI := fun w => iMakeContainer_any o l m dict d size w (by omega) (by omega) (by omega) (by omega)
  have cR := fun w => makeContainer_any o l m dict d size w (by omega) (by omega) (by omega) (by omega)
  obtain ⟨O, hO⟩ : ∃ O, mkC o l m dict d size = O := ⟨_, rfl⟩
  rw [hO] at cI cR
  have HO := Go.Lib.hid hO
  clear hO
  unfold cmRes at cI cR
  have hX2 := hK2.cell
  go_wp2_with fail
  refine (cI _).mono ?_
  rintro e w3 ⟨rfl, b3⟩
  have z3 := b3.size
  have hK3 := hK2.below b3 z2
  have g3 := g2.trans (b3.mono (by omega))
  have hX3 := hK3.cell
  clear b3 hK2 g2 hX2 cI
  go_wp2_with fail
  refine (cR _).mono ?_
  rintro e w4 ⟨rfl, b4⟩
  have z4 := b4.size
  have g4 := g3.trans (b4.mono (by omega))
  have hK4 := hK3.below b4 (by omega)
  clear b4 hK3 g3 hX3 cR
  cases O with
  | none =>
    go_wp2
    go_ret
    exact ⟨ret_bool (by first | rfl | simp), g4⟩
  | some X =>
    obtain ⟨n, bks, cs, hsz, hn1, hn64, hf, hk, hM⟩ := made_of HO.out
    subst hsz
    have hXl := hM.short
    have hmost := hM.most
    have hlen := hM.len
    have hsm := hM.small
    simp only [Option.getD_some, Option.isSome_some]
    by_cases hd0 : d = []
    · subst hd0
      go_wp2
      go_ret
      exact ⟨ret_bool (by first | rfl | simp), g4⟩
    have hpos : 0 < bks.length := by
      rcases Nat.eq_zero_or_pos bks.length with h0 | h0
      · exfalso
        have hc : cs = [] := List.eq_nil_of_length_eq_zero (by omega)
        have := hM.flat
        rw [hc] at this
        exact hd0 this.symm
      · exact h0
    have hB := hM.blocks
    obtain ⟨r, hr⟩ : ∃ r, bs2.length % bks.length = r := ⟨_, rfl⟩
    have hrl : r < bks.length := by rw [← hr]; exact Nat.mod_lt _ hpos
    obtain ⟨a, b, f, t, ea, ef, et, eb, hlast, hab, hbX, hft, htd, ht64, hD, hJ⟩ := hM.ends hn64 hrl
    clear hJ ef et hft htd ht64
    obtain ⟨q, hq, hq3⟩ : ∃ q : Nat, bs2.length % 4 = q ∧ q ≤ 3 := ⟨bs2.length % 4, rfl, by omega⟩
    have hR := repair_drop (g := q + 2) hB (by omega) (by omega) hrl
    have hcd := hM.dropCd hf hrl
    have hXd : cdB o l m dict X = some d := by rw [cdB_some hf hB, hM.dats]
    have hck := check_yes hB
    have hdp := List.length_pos_iff.2 hd0
    obtain ⟨s0, hs0'⟩ : ∃ s0, bs2.length % d.length = s0 := ⟨_, rfl⟩
    have hs0l : s0 < d.length := by rw [← hs0']; exact Nat.mod_lt _ hdp
    have hrr : rrB o l m dict X s0 d.length = some (d.drop s0) := by
      unfold rrB rngB
      rw [hXd, Option.bind_some, if_pos ⟨by omega, by omega, by omega⟩, Int.toNat_natCast, Int.toNat_natCast, List.take_of_length_le (by simp)]
    have hap : ∀ Y, apD o l m dict X [33] n = some Y → cdB o l m dict Y = some (d ++ [33]) ∧ Y.length ≤ 2960 := fun Y hY => ⟨apD_data hY hXd, apD_len hY⟩
    have hxl : (catT (dropB bks r)).length ≤ 2960 := by
      rw [← dropB_text hrl hM.cat, List.length_append, List.length_take, List.length_drop]
      have := catT_mono bks r (r + 1) (by omega)
      omega
    have cP := fun w => indexOf_any X w (by omega)
    unfold PlRes2 PlRow at cP
    rw [hB] at cP
    simp only [Option.elim_some, Option.isSome_some, Option.getD_some] at cP
    have cA := fun w => parityOf_any X (((q + 2 : Nat) : Int)) w (by omega) (by omega) (by omega)
    unfold PaRes at cA
    rw [parB_someK hB (by omega) (by omega)] at cA
    simp only [Option.getD_some, Option.isSome_some] at cA
    have hpal := parL_length bks (q + 2) (cnt bks.length (q + 2))
    have hpab := parL_bd (g := q + 2) (m := cnt bks.length (q + 2)) hM.ok
    have hpge := parL_ge hM.ok (show 1 ≤ q + 2 by omega)
    have hcl := cnt_le (n := bks.length) (g := q + 2) (by omega)
    have hpok : parOk (parL bks (q + 2) (cnt bks.length (q + 2))) = true := by
      unfold parOk
      rw [Bool.and_eq_true, List.all_eq_true]
      exact ⟨by simp; omega, fun t ht => by have := hpab t ht; have := hpge t ht; simp; omega⟩
    have hpp := parse_fmtG hpok
    have hfl := fmtPar_lenM hpab (by omega)
    have cF := fun A cap w hs => iFormatParity_any (parL bks (q + 2) (cnt bks.length (q + 2))) A cap w hs (fun t ht => by have := hpab t ht; omega) (by omega)
    have cU := fun w hm => parseParity_any (fmtPar (parL bks (q + 2) (cnt bks.length (q + 2)))) mx w (by omega) hm
    unfold ParRes at cU
    rw [hpp] at cU
    simp only [Option.getD_some, Option.isSome_some] at cU
    have cR : ∀ A cap w, Sl w A (parL bks (q + 2) (cnt bks.length (q + 2))).length cap 1 ((parL bks (q + 2) (cnt bks.length (q + 2))).map sv) → _ := fun A cap w hs => repair_any (catT (dropB bks r)) _ ((q + 2 : Nat) : Int) bks.length A cap w hs (by omega) (by omega) (fun t ht => by have := hpab t ht; omega) (by omega) (by omega) (by omega) (by omega)
    rw [hR] at cR
    unfold rbRes at cR
    have cD := fun w => iDropBytes_any X (a : Int) ((b : Int) - a) w (by omega) (by omega) (by omega)
    rw [hD] at cD
    unfold obR at cD
    simp only [Option.getD_some, Option.isSome_some] at cD
    have cG := fun w => readRange_any o l m dict X s0 d.length w (by omega) (by omega)
    rw [hrr] at cG
    have cC := fun w => containerData_any o l m dict (catT (dropB bks r)) w (by omega) (by omega)
    unfold datRes at cG cC
    rw [hcd] at cC
    simp only [Option.getD_some, Option.isSome_some] at cG
    have cE := fun w => iAppendData_any o l m dict X [33] n w (by omega) (by omega) (by simp) (by omega) (by omega)
    unfold cmRes at cE
    have cK := fun w => checkContainer_any X w (by omega)
    unfold ckRes at cK
    rw [hck] at cK
    have HSD : Go.RowKit.Hid (∀ Y, apD o l m dict X [33] n = some Y → ∀ w, Calls Tryz.prog 19 #[.agg #[.int .i64 o, .int .i64 l, .int .i64 m], sv dict, sv Y] w fun e w' => e = .returned (sv (d ++ [33])) ∧ Below w.heap.size w w') := fun Y hY w => by
      obtain ⟨h1, h2⟩ := hap Y hY
      have := soData_any o l m dict Y w (by omega) (by omega)
      rw [h1] at this
      exact this
    have hxt : (⟨d.toArray⟩ : ByteArray).extract s0 d.length = ⟨(d.drop s0).toArray⟩ := by
      have := ext_midR d s0 (d.length - s0)
      rw [show s0 + (d.length - s0) = d.length by omega] at this
      rw [this, List.take_of_length_le (by simp)]
    have HXT := Go.Lib.hid hxt
    clear hxt
    have hpn := plc_length bks
    have hdn : (d == []) = false := by simpa using hd0
    have hdc : (decide (d = [])) = false := by simpa using hd0
    generalize apD o l m dict X [33] n = Y at *
    generalize (cdB o l m dict (catT (dropB bks r))).getD [] = cx at *
    clear hlen hM hf hk HO hB hpab hpge hcl hpal hpok hpp hR hcd hXd hck hrr hap hD
    generalize catT (dropB bks r) = x at *
    generalize fmtPar (parL bks (q + 2) (cnt bks.length (q + 2))) = F at *
    generalize parL bks (q + 2) (cnt bks.length (q + 2)) = pa at *
    generalize (checkB X).2 = ck2 at *
    have e1 : ((q + 2 : Nat) : Int) = 2 + (q : Int) := by omega
    rw [e1] at cA cR
    have hm1 : Int.tmod (bs2.length : Int) 4 = (q : Int) := by rw [← hq]; rfl
    have hm1f : (bs2.length : Int) % 4 = (q : Int) := by rw [← hq]; rfl
    clear e1
    have h0 := lt_of_cell hm
    go_wp2_with fail
    refine (cA _).mono ?_
    rintro e w5 ⟨A5, c5, rfl, o5, b5⟩
    have z5 := b5.size
    have g5 := g4.trans (b5.mono (by omega))
    have hK5 := hK4.below b5 (by omega)
    have s5 : SlS w5 A5 c5 pa := Sl.own o5
    clear b5 o5 g4 cA hK4 hm1 hq
    go_wp2_with fail
    refine (cF _ _ _ s5).mono ?_
    rintro e w6 ⟨rfl, b6⟩
    have z6 := b6.size
    have g6 := g5.trans (b6.mono (by omega))
    have hK6 := hK5.below b6 (by omega)
    have hm6 := (g6.cell (p := ⟨0, 0, none⟩) h0).trans hm
    clear b6 g5 cF hK5 s5
    go_wp2_with fail
    refine (cU _ hm6).mono ?_
    rintro e w7 ⟨A7, c7, rfl, o7, b7⟩
    have z7 := b7.size
    have g7 := g6.trans (b7.mono (by omega))
    have hK7 := hK6.below b7 (by omega)
    have s7 := Sl.own o7
    clear b7 o7 g6 cU hK6 hm6 hm h0
    go_wp2_with fail
    refine (cP _).mono ?_
    rintro e w8 ⟨A8, c8, rfl, o8, b8⟩
    have z8 := b8.size
    have g8 := g7.trans (b8.mono (by omega))
    have hK8 := hK7.below b8 (by omega)
    have s8 := s7.below b8
    have p8 := Sl.own o8
    clear b8 o8 g7 cP hK7 s7
    have hbm := Nat.mod_lt bs2.length hpos
    have hm1 : Int.tmod (bs2.length : Int) (bks.length : Int) = (r : Int) := by rw [← hr]; rfl
    have hm1e : (bs2.length : Int) % (bks.length : Int) = (r : Int) := by rw [← hr]; rfl
    have hm2 : Int.tmod (bs2.length : Int) (d.length : Int) = (s0 : Int) := by rw [← hs0']; rfl
    have hm2e : (bs2.length : Int) % (d.length : Int) = (s0 : Int) := by rw [← hs0']; rfl
    have hp0 : ¬ (bks.length : Int) = 0 := by omega
    have hd00 : ¬ (d.length : Int) = 0 := by omega
    have HPA : Go.RowKit.Hid (∀ k (h : k < bks.length), ∃ g off, A8 = some ⟨g, off, none⟩ ∧ g < w8.heap.size ∧ w8.cell? ⟨g, off + k * 2, none⟩ = some (.int .i64 (plcAt bks k).1)) := fun k h => by
      have hn : k < (plc bks).length := by rw [plc_length]; exact h
      obtain ⟨g, off, hA, hg, hc⟩ := Sl.cellK p8 hn
      have c0 := hc 0 _ (plV_at (plc bks) k hn).1
      rw [plc_at, Nat.add_zero] at c0
      exact ⟨g, off, hA, hg, c0⟩
    rw [hpn] at p8 ⊢
    have hc8 := p8.1
    have hc82 := p8.2.1
    have zg8 := g8.size
    obtain ⟨g, off, eA, hg, c0⟩ := HPA.out r hrl
    rw [ea] at c0
    have hrb : r ≤ 40 := by omega
    by_cases h2 : r + 1 < bks.length
    · have h2i : (r : Int) + 1 < bks.length := by omega
      have hdr : decide (r + 1 = bks.length) = false := by simp; omega
      have hdi : ((r : Int) + 1 == (bks.length : Int)) = false := by simp; omega
      have hdi2 : (r + 1 == bks.length) = false := by simp; omega
      rw [hdr] at cC
      obtain ⟨g', off', eA', _, d0⟩ := HPA.out (r + 1) h2
      rw [eA] at eA'
      injection eA' with eA'
      injection eA' with eA1 eA2
      subst eA1 eA2
      rw [eb] at d0
      subst eA
      clear HPA hlast ea eb p8 hr hs0'
      have C0 := fun d os => cell_regrown c0 d os
      have D0 := fun d os => cell_regrown d0 d os
      go_wp2_with fail
      refine wp_region_quiet_below (by kernel_rfl) (by kernel_rfl) ?_
      repeat (go_big_quiet_step ((go_at_call 13; exact Calls.regrown_of (cD _))))
      refine wpQuiet_nil ?_
      intro w9 hw2
      have b9 : Below _ _ w9 := below_of_class hw2
      clear hw2
      have z9 := b9.size
      have g9 := g8.trans (b9.mono (by omega))
      have hK9 := hK8.below b9 (by omega)
      have s9 := s8.below b9
      clear c0 C0 b9 hK8 g8 s8 cD
      go_wp2_with fail
      refine (cR _ _ _ s9).mono ?_
      rintro e w10 ⟨rfl, b10⟩
      have z10 := b10.size
      have g10 := g9.trans (b10.mono (by omega))
      have hK10 := hK9.below b10 (by omega)
      have hX10 := hK10.cell
      clear b10 hK9 g9 s9 cR
      go_wp2_with fail
      refine (cG _).mono ?_
      rintro e w11 ⟨rfl, b11⟩
      have z11 := b11.size
      have g11 := g10.trans (b11.mono (by omega))
      have hK11 := hK10.below b11 (by omega)
      have hX11 := hK11.cell
      clear b11 hK10 g10 hX10 cG
      go_wp2_with fail
      refine (cC _).mono ?_
      rintro e w12 ⟨rfl, b12⟩
      have z12 := b12.size
      have g12 := g11.trans (b12.mono (by omega))
      have hK12 := hK11.below b12 (by omega)
      have hX12 := hK12.cell
      clear b12 hK11 g11 hX11 cC
      go_wp2_with fail
      refine (cE _).mono ?_
      rintro e w13 ⟨rfl, b13⟩
      have z13 := b13.size
      have g13 := g12.trans (b13.mono (by omega))
      have hK13 := hK12.below b13 (by omega)
      clear b13 hK12 g12 hX12 cE
      go_wp2_with fail
      refine (cK _).mono ?_
      rintro e w14 ⟨rfl, b14⟩
      have z14 := b14.size
      have g14 := g13.trans (b14.mono (by omega))
      have hK14 := hK13.below b14 (by omega)
      have hX14 := hK14.cell
      clear b14 hK13 g13 cK
      have hlz := hK14.lt
      have hxt := HXT.out
      cases Y with
      | none =>
        simp only [Option.getD_none, Option.isSome_none]
        go_wp2
        go_ret
        exact ⟨ret_bool (by first | rfl | simp), g14⟩
      | some Y =>
        have cS := HSD.out Y rfl
        simp only [Option.getD_some, Option.isSome_some]
        go_wp2_with fail
        refine (cS _).mono ?_
        rintro e w15 ⟨rfl, b15⟩
        have g15 := g14.trans (b15.mono (by omega))
        go_wp2
        go_ret
        exact ⟨ret_bool (by first | rfl | simp), g15⟩
    · have h2i : ¬ (r : Int) + 1 < bks.length := by omega
      have hdr : decide (r + 1 = bks.length) = true := by simp; omega
      have hdi : ((r : Int) + 1 == (bks.length : Int)) = true := by simp; omega
      have hdi2 : (r + 1 == bks.length) = true := by simp; omega
      rw [hdr] at cC
      obtain ⟨rfl, _⟩ := hlast (by omega)
      subst eA
      clear HPA hlast ea eb p8 hr hs0'
      have C0 := fun d os => cell_regrown c0 d os
      go_wp2_with fail
      refine wp_region_quiet_below (by kernel_rfl) (by kernel_rfl) ?_
      repeat (go_big_quiet_step ((go_at_call 13; exact Calls.regrown_of (cD _))))
      refine wpQuiet_nil ?_
      intro w9 hw2
      have b9 : Below _ _ w9 := below_of_class hw2
      clear hw2
      have z9 := b9.size
      have g9 := g8.trans (b9.mono (by omega))
      have hK9 := hK8.below b9 (by omega)
      have s9 := s8.below b9
      clear c0 C0 b9 hK8 g8 s8 cD
      go_wp2_with fail
      refine (cR _ _ _ s9).mono ?_
      rintro e w10 ⟨rfl, b10⟩
      have z10 := b10.size
      have g10 := g9.trans (b10.mono (by omega))
      have hK10 := hK9.below b10 (by omega)
      have hX10 := hK10.cell
      clear b10 hK9 g9 s9 cR
      go_wp2_with fail
      refine (cG _).mono ?_
      rintro e w11 ⟨rfl, b11⟩
      have z11 := b11.size
      have g11 := g10.trans (b11.mono (by omega))
      have hK11 := hK10.below b11 (by omega)
      have hX11 := hK11.cell
      clear b11 hK10 g10 hX10 cG
      go_wp2_with fail
      refine (cC _).mono ?_
      rintro e w12 ⟨rfl, b12⟩
      have z12 := b12.size
      have g12 := g11.trans (b12.mono (by omega))
      have hK12 := hK11.below b12 (by omega)
      have hX12 := hK12.cell
      clear b12 hK11 g11 hX11 cC
      go_wp2_with fail
      refine (cE _).mono ?_
      rintro e w13 ⟨rfl, b13⟩
      have z13 := b13.size
      have g13 := g12.trans (b13.mono (by omega))
      have hK13 := hK12.below b13 (by omega)
      clear b13 hK12 g12 hX12 cE
      go_wp2_with fail
      refine (cK _).mono ?_
      rintro e w14 ⟨rfl, b14⟩
      have z14 := b14.size
      have g14 := g13.trans (b14.mono (by omega))
      have hK14 := hK13.below b14 (by omega)
      have hX14 := hK14.cell
      clear b14 hK13 g13 cK
      have hlz := hK14.lt
      have hxt := HXT.out
      cases Y with
      | none =>
        simp only [Option.getD_none, Option.isSome_none]
        go_wp2
        go_ret
        exact ⟨ret_bool (by first | rfl | simp), g14⟩
      | some Y =>
        have cS := HSD.out Y rfl
        simp only [Option.getD_some, Option.isSome_some]
        go_wp2_with fail
        refine (cS _).mono ?_
        rintro e w15 ⟨rfl, b15⟩
        have g15 := g14.trans (b15.mono (by omega))
        go_wp2
        go_ret
        exact ⟨ret_bool (by first | rfl | simp), g15⟩
end Go.Proofs.YtfonokhafdflcaaGreatDoor
