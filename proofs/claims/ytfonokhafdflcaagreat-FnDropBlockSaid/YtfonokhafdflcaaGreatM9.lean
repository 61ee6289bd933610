/- The law: a container without one of its blocks gives all other data in its place. -/
import Derived.Test.YtfonokhafdflcaaGreatM6
import Derived.Test.YtfonokhafdflcaaGreatJ26
import Derived.Test.YtfonokhafdflcaaGreatQ12
import Derived.Test.YtfonokhafdflcaaGreatIx
import Derived.Test.YtfonokhafdflcaaGreatR3
import Derived.Test.YtfonokhafdflcaaGreatGU3
import Derived.Test.YtfonokhafdflcaaGreatGD2
namespace Go.Proofs.YtfonokhafdflcaaGreat
open Go.RowKit
set_option linter.unusedSimpArgs false
set_option linter.unusedVariables false
set_option maxRecDepth 100000
attribute [local go_sem high] run_index_S binOp_eql_S binOp_neq_S append_S toList_S size_S run_slice_S run_slice_from_S run_slice_to_S wrap64_byteAt wrap64_byteAt_mul bits_or_bytes convU conv1_some convU2 conv2_some
theorem soMany_q (n : Nat) (w : World) (hn : n ≤ 1000) :
    Calls Tryz.prog 19 #[.string ⟨[63].toArray⟩, .int .i64 (n : Int)] w fun e w' => e = .returned (sv (List.replicate n 63)) ∧ w = w' := by
  go_enter Tryz.func19, Tryz.ntmps19
  go_wp2
  go_loop [5, 6] (fun a b => ∃ (k : Nat) (o : Bs), k ≤ n ∧ b = .int .i64 (k : Int) ∧ a = .string ⟨o.toArray⟩ ∧ Go.RowKit.Hid (o = List.replicate k 63)) (fun _ b => n - (intOf b).toNat)
  case atStart => exact ⟨0, [], by omega, rfl, rfl, rfl⟩
  case round =>
    obtain ⟨k, o, hk, rfl, rfl, ho⟩ := hrel
    have hol : o.length ≤ 1000 := by rw [ho.out, List.length_replicate]; omega
    by_cases hlt : k < n
    · have hi : (k : Int) < n := by omega
      go_wp2
      go_round
      case rel => exact ⟨k + 1, o ++ [63], by omega, by go_num, by simp, by show _ = _; rw [ho.out, List.replicate_succ']⟩
      case measure => simp [intOf]; omega
    · have hi : ¬ (k : Int) < n := by omega
      have hkn : k = n := by omega
      go_wp2
      go_ret
      exact ⟨by rw [ho.out, hkn]; rfl, rfl⟩
theorem q_end1 (d : Bs) (f t s : Nat) : d.take f ++ (List.replicate s 63 ++ d.drop t) = ((⟨d.toArray⟩ : ByteArray).extract 0 f ++ ⟨Array.replicate s 63⟩ ++ (⟨(d.drop t).toArray⟩ : ByteArray)).toList := by
  rw [sv_ext_to d f, show (⟨Array.replicate s 63⟩ : ByteArray) = ⟨(List.replicate s 63).toArray⟩ by simp, append_S, append_S, toList_S]
  simp
theorem q_end2 (d : Bs) (f s : Nat) : d.take f ++ List.replicate s 63 = ((⟨d.toArray⟩ : ByteArray).extract 0 f ++ ⟨Array.replicate s 63⟩ ++ (⟨#[]⟩ : ByteArray)).toList := by
  rw [sv_ext_to d f, show (⟨Array.replicate s 63⟩ : ByteArray) = ⟨(List.replicate s 63).toArray⟩ by simp, show (⟨#[]⟩ : ByteArray) = ⟨([] : Bs).toArray⟩ from rfl, append_S, append_S, toList_S]
  simp
/-- Where a block begins and ends, in the container and in the data. -/
theorem Made.ends {K : Kn} {X d : Bs} {n : Nat} {bs : List Blk} {cs : List Bs} (h : Made K X d n bs cs) (hn : n ≤ 64) {r : Nat} (hr : r < bs.length) :
    ∃ a b f t : Nat, (plcAt bs r).1 = (a : Int) ∧ (plcAt bs r).2 = (f : Int) ∧ (plcAt bs (r + 1)).2 = (t : Int) ∧ (plcAt bs (r + 1)).1 = (b : Int) ∧ (r + 1 = bs.length → b = X.length ∧ t = d.length) ∧ a ≤ b ∧ b ≤ X.length ∧ f < t ∧ t ≤ d.length ∧ t - f ≤ 64 ∧
      drO X a ((b : Int) - a) = some (catT (dropB bs r)) ∧ joinB (pcTo K (findB (catT (dropB bs r))) 40) cs.length ((t : Int) - (f : Int)) 63 = some (d.take f ++ List.replicate (t - f) 63 ++ d.drop t) := by
  have hl := h.len
  have e1 := h.size_take r (by omega)
  have e2 := h.size_take (r + 1) (by omega)
  obtain ⟨j1, j2, j3, j4⟩ := h.dropJoin (a := (cs.take r).flatten.length) (b := (cs.take (r + 1)).flatten.length) hn hr (by unfold plcAt; simp only; omega) (by unfold plcAt; simp only; omega)
  have hm := catT_mono bs r (r + 1) (by omega)
  have hm2 := catT_mono bs (r + 1) bs.length (by omega)
  rw [List.take_length, h.cat] at hm2
  have hs := h.short
  refine ⟨(catT (bs.take r)).length, (catT (bs.take (r + 1))).length, (cs.take r).flatten.length, (cs.take (r + 1)).flatten.length, rfl, e1, e2, rfl, fun he => ?_, hm, hm2, j1, j2, j3, ?_, j4⟩
  · rw [he, List.take_length, h.cat]
    refine ⟨rfl, ?_⟩
    rw [hl, List.take_length, h.flat]
  · unfold drO
    rw [if_pos ((spanOk_iff _ _ _).2 ⟨by omega, by omega, by omega, by omega, by omega⟩), Int.toNat_natCast, show ((((catT (bs.take (r + 1))).length : Nat) : Int) - ((catT (bs.take r)).length : Nat)).toNat = (catT (bs.take (r + 1))).length - (catT (bs.take r)).length by omega,
      show (catT (bs.take r)).length + ((catT (bs.take (r + 1))).length - (catT (bs.take r)).length) = (catT (bs.take (r + 1))).length by omega, dropB_text hr h.cat]
set_option maxHeartbeats 8000000 in
theorem law_DropBlock (bs : Bs) (A : Option Addr) (cap : Nat) (bs2 : Bs) (A2 : Option Addr) (cap2 : Nat) (w : World) (hs : Sl w A bs.length cap 1 (bs.map u8v)) (hs2 : Sl w A2 bs2.length cap2 1 (bs2.map u8v)) :
    Calls Tryz.prog 5 #[.slice A bs.length cap, .slice A2 bs2.length cap2] w fun e w' => e = .returned (.bool true) ∧ Below w.heap.size w w' := by
  go_enter Tryz.func5, Tryz.ntmps5
  by_cases hl0 : 1048576 < bs.length
  · have hli : (1048576 : Int) < bs.length := by omega
    go_wp2
    go_ret
    exact ⟨rfl, Below.refl _ _⟩
  have hli0 : ¬ (1048576 : Int) < bs.length := by omega
  by_cases hl1 : 1048576 < bs2.length
  · have hli : (1048576 : Int) < bs2.length := by omega
    go_wp2
    go_ret
    exact ⟨rfl, Below.refl _ _⟩
  have hli1 : ¬ (1048576 : Int) < bs2.length := by omega
  clear hl0
  go_wp2_with fail
  refine (drawMakeContainer_any bs A cap _ hs).mono ?_
  rintro e w1 ⟨⟨o, l, m, dict, d, size, rfl, hdl, hd, hs0, hs1⟩, g1⟩
  have z1 := g1.size
  have hK2 := Bk.new w1 #[.int .i64 o, .int .i64 l, .int .i64 m] 24
  have g2 := g1.alloc z1 (.cells #[.int .i64 o, .int .i64 l, .int .i64 m] 24)
  clear hs hs2
  go_upto_region 4 with (fail)
  generalize w1.alloc (.cells #[.int .i64 o, .int .i64 l, .int .i64 m] 24) = W at *
  have z2 := hK2.lt
  generalize w1.heap.size = q1 at *
  have cI := fun w => iMakeContainer_any o l m dict d size w (by omega) (by omega) (by omega) (by omega)
  have cR := fun w => makeContainer_any o l m dict d size w (by omega) (by omega) (by omega) (by omega)
  obtain ⟨O, hO⟩ : ∃ O, mkC o l m dict d size = O := ⟨_, rfl⟩
  rw [hO] at cI cR
  have HO := Go.Lib.hid hO
  clear hO
  unfold cmRes at cI cR
  have hX2 := hK2.cell
  go_wp2_with fail
  refine (cI _).mono ?_
  rintro e w3 ⟨rfl, b3⟩
  have z3 := b3.size
  have hK3 := hK2.below b3 z2
  have g3 := g2.trans (b3.mono (by omega))
  have hX3 := hK3.cell
  clear b3 hK2 g2 hX2 cI
  go_wp2_with fail
  refine (cR _).mono ?_
  rintro e w4 ⟨rfl, b4⟩
  have z4 := b4.size
  have g4 := g3.trans (b4.mono (by omega))
  have hK4 := hK3.below b4 (by omega)
  clear b4 hK3 g3 hX3 cR
  cases O with
  | none =>
    go_wp2
    go_ret
    exact ⟨ret_bool (by first | rfl | simp), g4⟩
  | some X =>
    obtain ⟨n, bks, cs, hsz, hn1, hn64, hf, hk, hM⟩ := made_of HO.out
    subst hsz
    have hXl := hM.short
    have hmost := hM.most
    have hlen := hM.len
    have hsm := hM.small
    simp only [Option.getD_some, Option.isSome_some]
    by_cases hd0 : d = []
    · subst hd0
      go_wp2
      go_ret
      exact ⟨ret_bool (by first | rfl | simp), g4⟩
    have hpos : 0 < bks.length := by
      rcases Nat.eq_zero_or_pos bks.length with h0 | h0
      · exfalso
        have hc : cs = [] := List.eq_nil_of_length_eq_zero (by omega)
        have := hM.flat
        rw [hc] at this
        exact hd0 this.symm
      · exact h0
    have hB := hM.blocks
    obtain ⟨r, hr⟩ : ∃ r, bs2.length % bks.length = r := ⟨_, rfl⟩
    have hrl : r < bks.length := by rw [← hr]; exact Nat.mod_lt _ hpos
    obtain ⟨a, b, f, t, ea, ef, et, eb, hlast, hab, hbX, hft, htd, ht64, hD, hJ⟩ := hM.ends hn64 hrl
    have hL := hM.dropLost hrl
    have hPS := hM.dropShort r
    have hPp := (hM.dropPV hrl).2.2
    rw [← hM.dropPcs hrl] at hPp
    have hpl : (pcTo (startW o l m dict) (findB (catT (dropB bks r))) 40).length ≤ 40 := pcTo_len _ _ 40
    have hxl : (catT (dropB bks r)).length ≤ 2960 := by
      rw [← dropB_text hrl hM.cat, List.length_append, List.length_take, List.length_drop]
      have := catT_mono bks r (r + 1) (by omega)
      omega
    have cP := fun w => indexOf_any X w (by omega)
    unfold PlRes2 PlRow at cP
    rw [hB] at cP
    simp only [Option.elim_some, Option.isSome_some, Option.getD_some] at cP
    have cD := fun w => iDropBytes_any X (a : Int) ((b : Int) - a) w (by omega) (by omega) (by omega)
    rw [hD] at cD
    unfold obR at cD
    have cG := fun w => salvage_any o l m dict (catT (dropB bks r)) w (by omega) (by omega)
    rw [pcsB_yes hf] at cG
    unfold PcRes at cG
    have cJ := fun A cap w hs => joinPieces_any (pcTo (startW o l m dict) (findB (catT (dropB bks r))) 40) cs.length ((t : Int) - (f : Int)) 63 A cap w hs (by omega) hPS
    have cL := fun A cap w hs => lostNumbers_any (pcTo (startW o l m dict) (findB (catT (dropB bks r))) 40) cs.length A cap w hs (by omega) hPS
    rw [hJ] at cJ
    rw [hL] at cL
    unfold IsRes at cL
    unfold datRes at cJ
    simp only [Option.getD_some, Option.isSome_some, List.length_singleton, List.map_cons, List.map_nil] at cD cJ cL
    have cM := fun w => (soMany_q (t - f) w (by omega)).mono (fun e w' (h : e = _ ∧ w = w') => (⟨h.1, h.2 ▸ Below.refl _ _⟩ : e = _ ∧ Below w.heap.size w w'))
    have eM : ((t - f : Nat) : Int) = (t : Int) - (f : Int) := by omega
    rw [eM] at cM
    have hpn := plc_length bks
    have hdn : (d == []) = false := by simpa using hd0
    clear hM hf hk HO hB hL hPS hPp hD hJ
    generalize catT (dropB bks r) = x at *
    generalize pcTo (startW o l m dict) (findB x) 40 = P at *
    rw [← hlen] at cJ cL
    clear hlen
    go_wp2_with fail
    refine (cP _).mono ?_
    rintro e w6 ⟨A6, c6, rfl, o6, b6⟩
    have z6 := b6.size
    have g6 := g4.trans (b6.mono (by omega))
    have hK6 := hK4.below b6 (by omega)
    have p6 := Sl.own o6
    clear b6 o6 g4 cP hK4
    have hbm := Nat.mod_lt bs2.length hpos
    have hm1 : Int.tmod (bs2.length : Int) (bks.length : Int) = (r : Int) := by rw [← hr]; rfl
    have hm1e : (bs2.length : Int) % (bks.length : Int) = (r : Int) := by rw [← hr]; rfl
    have hp0 : ¬ (bks.length : Int) = 0 := by omega
    have HPA : Go.RowKit.Hid (∀ k (h : k < bks.length) wr, Below w6.heap.size w6 wr → ∃ g off, A6 = some ⟨g, off, none⟩ ∧ g < wr.heap.size ∧ wr.cell? ⟨g, off + k * 2, none⟩ = some (.int .i64 (plcAt bks k).1) ∧ wr.cell? ⟨g, off + k * 2 + 1, none⟩ = some (.int .i64 (plcAt bks k).2)) := fun k h wr hw => by
      have hn : k < (plc bks).length := by rw [plc_length]; exact h
      obtain ⟨g, off, hA, hg, hc⟩ := Sl.cellK (p6.below hw) hn
      have c0 := hc 0 _ (plV_at (plc bks) k hn).1
      have c1 := hc 1 _ (plV_at (plc bks) k hn).2
      rw [plc_at] at c0 c1
      rw [Nat.add_zero] at c0
      exact ⟨g, off, hA, hg, c0, c1⟩
    have hX6 := hK6.cell
    rw [hpn] at p6 ⊢
    have hc6 := p6.1
    have hc62 := p6.2.1
    have zg6 := g6.size
    obtain ⟨g, off, eA, hg, c0, c1⟩ := HPA.out r hrl w6 (Below.refl _ _)
    rw [ea] at c0
    rw [ef] at c1
    have HC : Go.RowKit.Hid (∀ wr, Below w6.heap.size w6 wr → wr.cell? ⟨g, off + r * 2, none⟩ = some (.int .i64 (a : Int)) ∧ wr.cell? ⟨g, off + r * 2 + 1, none⟩ = some (.int .i64 (f : Int))) := fun wr hw => by
      obtain ⟨g', off', eA', _, d0, d1⟩ := HPA.out r hrl wr hw
      rw [eA] at eA'
      injection eA' with eA'
      injection eA' with eA1 eA2
      subst eA1 eA2
      rw [ea] at d0
      rw [ef] at d1
      exact ⟨d0, d1⟩
    have hrb : r ≤ 40 := by omega
    by_cases h2 : r + 1 < bks.length
    · have h2i : (r : Int) + 1 < bks.length := by omega
      obtain ⟨g', off', eA', _, d0, d1⟩ := HPA.out (r + 1) h2 w6 (Below.refl _ _)
      rw [eA] at eA'
      injection eA' with eA'
      injection eA' with eA1 eA2
      subst eA1 eA2
      rw [eb] at d0
      rw [et] at d1
      subst eA
      clear HPA hlast ea ef et eb p6 hr
      have C0 := fun d os => cell_regrown c0 d os
      have D0 := fun d os => cell_regrown d0 d os
      go_wp2_with fail
      refine wp_region_quiet_below (by kernel_rfl) (by kernel_rfl) ?_
      repeat (go_big_quiet_step ((go_at_call 18; exact Calls.regrown_of (cD _))))
      refine wpQuiet_nil ?_
      intro w7 hw2
      have b7 : Below _ _ w7 := below_of_class hw2
      clear hw2
      have z7 := b7.size
      have g7 := g6.trans (b7.mono (by omega))
      have hK7 := hK6.below b7 (by omega)
      have hX7 := hK7.cell
      obtain ⟨p0, p1⟩ := HC.out w7 b7
      clear c0 c1 C0 hX6 hK6 g6 cD
      go_wp2_with fail
      refine (cG _).mono ?_
      rintro e w8 ⟨A8, c8, rfl, o8, b8⟩
      have z8 := b8.size
      have g8 := g7.trans (b8.mono (by omega))
      have s8 := own_Sl o8
      have B8 := b7.trans (b8.mono (by omega))
      clear o8 b8 p0 p1 hX7 hK7 g7 b7 cG
      go_wp2_with fail
      refine (cL _ _ _ s8).mono ?_
      rintro e w9 ⟨A9, c9, rfl, o9, b9⟩
      have z9 := b9.size
      have g9 := g8.trans (b9.mono (by omega))
      have s9 := s8.below b9
      have B9 := B8.trans (b9.mono (by omega))
      have l9 := own_Sl o9
      obtain ⟨p0, p1⟩ := HC.out w9 B9
      clear b9 o9 s8 g8 B8 cL
      go_wp2_with fail
      refine (cJ _ _ _ s9).mono ?_
      rintro e w10 ⟨rfl, b10⟩
      have z10 := b10.size
      have g10 := g9.trans (b10.mono (by omega))
      have B10 := B9.trans (b10.mono (by omega))
      have l10 := l9.below b10
      obtain ⟨q0, q1⟩ := HC.out w10 B10
      obtain ⟨gl, ol, rfl, hgl, hcl⟩ := Sl.cellK l10 (k := 0) (by simp)
      have lc0 := hcl 0 (.int .i64 (r : Int)) rfl
      simp only [Nat.zero_mul, Nat.add_zero] at lc0
      have hcl1 := l10.1
      have hcl2 := l10.2.1
      clear b10 p0 p1 s9 g9 B9 cJ hcl l9
      have Q1 := fun d os => cell_regrown q1 d os
      have Q0 := fun d os => cell_regrown q0 d os
      have L0 := fun d os => cell_regrown lc0 d os
      go_wp2_with fail
      refine wp_region_quiet_below (by kernel_rfl) (by kernel_rfl) ?_
      repeat (go_big_quiet_step ((go_at_call 19; exact Calls.regrown_of (cM _))))
      refine wpQuiet_nil ?_
      intro w11 hw2
      have b11 : Below _ _ w11 := below_of_class hw2
      clear hw2
      go_wp2
      go_ret
      exact ⟨ret_bool (by first | rfl | (simp; done) | (simp; first | exact q_end1 d f _ _ | exact q_end2 d f _)), g10.trans (b11.mono (by omega))⟩
    · have h2i : ¬ (r : Int) + 1 < bks.length := by omega
      obtain ⟨rfl, rfl⟩ := hlast (by omega)
      subst eA
      clear HPA hlast ea ef et eb p6 hr
      have C0 := fun d os => cell_regrown c0 d os
      go_wp2_with fail
      refine wp_region_quiet_below (by kernel_rfl) (by kernel_rfl) ?_
      repeat (go_big_quiet_step ((go_at_call 18; exact Calls.regrown_of (cD _))))
      refine wpQuiet_nil ?_
      intro w7 hw2
      have b7 : Below _ _ w7 := below_of_class hw2
      clear hw2
      have z7 := b7.size
      have g7 := g6.trans (b7.mono (by omega))
      have hK7 := hK6.below b7 (by omega)
      have hX7 := hK7.cell
      obtain ⟨p0, p1⟩ := HC.out w7 b7
      clear c0 c1 C0 hX6 hK6 g6 cD
      go_wp2_with fail
      refine (cG _).mono ?_
      rintro e w8 ⟨A8, c8, rfl, o8, b8⟩
      have z8 := b8.size
      have g8 := g7.trans (b8.mono (by omega))
      have s8 := own_Sl o8
      have B8 := b7.trans (b8.mono (by omega))
      clear o8 b8 p0 p1 hX7 hK7 g7 b7 cG
      go_wp2_with fail
      refine (cL _ _ _ s8).mono ?_
      rintro e w9 ⟨A9, c9, rfl, o9, b9⟩
      have z9 := b9.size
      have g9 := g8.trans (b9.mono (by omega))
      have s9 := s8.below b9
      have B9 := B8.trans (b9.mono (by omega))
      have l9 := own_Sl o9
      obtain ⟨p0, p1⟩ := HC.out w9 B9
      clear b9 o9 s8 g8 B8 cL
      go_wp2_with fail
      refine (cJ _ _ _ s9).mono ?_
      rintro e w10 ⟨rfl, b10⟩
      have z10 := b10.size
      have g10 := g9.trans (b10.mono (by omega))
      have B10 := B9.trans (b10.mono (by omega))
      have l10 := l9.below b10
      obtain ⟨q0, q1⟩ := HC.out w10 B10
      obtain ⟨gl, ol, rfl, hgl, hcl⟩ := Sl.cellK l10 (k := 0) (by simp)
      have lc0 := hcl 0 (.int .i64 (r : Int)) rfl
      simp only [Nat.zero_mul, Nat.add_zero] at lc0
      have hcl1 := l10.1
      have hcl2 := l10.2.1
      clear b10 p0 p1 s9 g9 B9 cJ hcl l9
      have Q1 := fun d os => cell_regrown q1 d os
      have Q0 := fun d os => cell_regrown q0 d os
      have L0 := fun d os => cell_regrown lc0 d os
      go_wp2_with fail
      refine wp_region_quiet_below (by kernel_rfl) (by kernel_rfl) ?_
      repeat (go_big_quiet_step ((go_at_call 19; exact Calls.regrown_of (cM _))))
      refine wpQuiet_nil ?_
      intro w11 hw2
      have b11 : Below _ _ w11 := below_of_class hw2
      clear hw2
      go_wp2
      go_ret
      exact ⟨ret_bool (by first | rfl | (simp; done) | (simp; first | exact q_end1 d f _ _ | exact q_end2 d f _)), g10.trans (b11.mono (by omega))⟩
end Go.Proofs.YtfonokhafdflcaaGreat
