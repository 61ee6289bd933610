/- The law: in a container exactly its blocks are found. -/
import Derived.Test.YtfonokhafdflcaaGreatM6
import Derived.Test.YtfonokhafdflcaaGreatJ26
import Derived.Test.YtfonokhafdflcaaGreatQ10
import Derived.Test.YtfonokhafdflcaaGreatIx
import Derived.Test.YtfonokhafdflcaaGreatR3
import Derived.Test.YtfonokhafdflcaaGreatGU3
import Derived.Test.YtfonokhafdflcaaGreatSv
import Derived.Laws.StructEq
namespace Go.Proofs.YtfonokhafdflcaaGreat
open Go.RowKit
set_option linter.unusedSimpArgs false
set_option linter.unusedVariables false
set_option maxRecDepth 100000
attribute [local go_sem high] run_index_S binOp_eql_S binOp_neq_S append_S toList_S size_S run_slice_S run_slice_from_S run_slice_to_S wrap64_byteAt wrap64_byteAt_mul bits_or_bytes convU conv1_some convU2 conv2_some
theorem pcAll_short {K : Kn} {X d : Bs} {n : Nat} {bs : List Blk} {cs : List Bs} (h : Made K X d n bs cs) (hn : n ≤ 64) : ∀ p ∈ pcAll cs cs.length, p.2.length ≤ 100000 := by
  intro p hp
  obtain ⟨i, hi, rfl⟩ := List.getElem_of_mem hp
  have := (h.pv hn).2.2.1 i hi
  omega
theorem withAt_both (bs : List Blk) (k : Nat) (h : k < (withAt 0 bs).length) (h' : k < bs.length) : (withAt 0 bs)[k].1 = (plcAt bs k).1 ∧ (withAt 0 bs)[k].2 = bs[k] := by
  constructor
  · rw [withAt_fst bs 0 k h]
    show _ = ((catT (bs.take k)).length : Int)
    rw [Nat.zero_add]
  · obtain ⟨x, hx⟩ := withAt_at bs 0 k h'
    rw [List.getElem?_eq_getElem h] at hx
    injection hx with hx
    rw [hx]
set_option maxHeartbeats 8000000 in
theorem law_FindAll (bs : Bs) (A : Option Addr) (cap : Nat) (w : World) (hs : Sl w A bs.length cap 1 (bs.map u8v)) :
    Calls Tryz.prog 3 #[.slice A bs.length cap] w fun e w' => e = .returned (.bool true) ∧ Below w.heap.size w w' := by
  have hst := stoodB
  have hgd := guardB
  go_enter Tryz.func3, Tryz.ntmps3
  by_cases hl0 : 1048576 < bs.length
  · have hli : (1048576 : Int) < bs.length := by omega
    go_wp2
    go_ret
    exact ⟨rfl, Below.refl _ _⟩
  have hli0 : ¬ (1048576 : Int) < bs.length := by omega
  clear hl0
  go_wp2_with fail
  refine (drawMakeContainer_any bs A cap _ hs).mono ?_
  rintro e w1 ⟨⟨o, l, m, dict, d, size, rfl, hdl, hd, hs0, hs1⟩, g1⟩
  have z1 := g1.size
  have hK2 := Bk.new w1 #[.int .i64 o, .int .i64 l, .int .i64 m] 24
  have g2 := g1.alloc z1 (.cells #[.int .i64 o, .int .i64 l, .int .i64 m] 24)
  clear hs
  go_upto_region 4 with (fail)
  generalize w1.alloc (.cells #[.int .i64 o, .int .i64 l, .int .i64 m] 24) = W at *
  have z2 := hK2.lt
  generalize w1.heap.size = q1 at *
  have cI := fun w => iMakeContainer_any o l m dict d size w (by omega) (by omega) (by omega) (by omega)
  have cR := fun w => makeContainer_any o l m dict d size w (by omega) (by omega) (by omega) (by omega)
  obtain ⟨O, hO⟩ : ∃ O, mkC o l m dict d size = O := ⟨_, rfl⟩
  rw [hO] at cI cR
  have HO := Go.Lib.hid hO
  clear hO
  unfold cmRes at cI cR
  have hX2 := hK2.cell
  go_wp2_with fail
  refine (cI _).mono ?_
  rintro e w3 ⟨rfl, b3⟩
  have z3 := b3.size
  have hK3 := hK2.below b3 z2
  have g3 := g2.trans (b3.mono (by omega))
  have hX3 := hK3.cell
  clear b3 hK2 g2 hX2 cI
  go_wp2_with fail
  refine (cR _).mono ?_
  rintro e w4 ⟨rfl, b4⟩
  have z4 := b4.size
  have hK4 := hK3.below b4 (by omega)
  have g4 := g3.trans (b4.mono (by omega))
  clear b4 hK3 g3 hX3 cR
  cases O with
  | none =>
    go_wp2
    go_ret
    exact ⟨ret_bool (by first | rfl | simp), g4⟩
  | some X =>
    obtain ⟨n, bks, cs, hsz, hn1, hn64, hf, hk, hM⟩ := made_of HO.out
    subst hsz
    have hXl := hM.short
    have hlen := hM.len
    have hmost := hM.most
    have cF := fun w => findBlocks_any X w (by omega)
    have cB := fun w => containerBlocks_any X w (by omega)
    have cP := fun w => indexOf_any X w (by omega)
    have cG := fun w => salvage_any o l m dict X w (by omega) (by omega)
    have cV := fun w => survivors_any X X w (by omega) (by omega)
    unfold FsRes at cF
    unfold BksRes at cB
    unfold PlRes2 PlRow at cP
    unfold PcRes at cG
    unfold IsResS at cV
    rw [hM.surv] at cV
    rw [hM.find, withAt_length] at cF
    rw [hM.blocks] at cB cP
    rw [pcsB_yes hf, hM.pcs] at cG
    have hpl := pcAll_length cs cs.length (Nat.le_refl _)
    have cJ := fun A cap w hs => joinPieces_any (pcAll cs cs.length) cs.length n 0 A cap w hs (by omega) (pcAll_short hM hn64)
    have cL := fun A cap w hs => lostNumbers_any (pcAll cs cs.length) cs.length A cap w hs (by omega) (pcAll_short hM hn64)
    rw [hM.join hn1 hn64] at cJ
    rw [hM.lost hn64] at cL
    unfold IsRes at cL
    have HOK := Go.Lib.hid hM.ok
    have HWA : Go.RowKit.Hid (∀ (k : Nat) (h : k < (withAt 0 bks).length) (h' : k < bks.length), (withAt 0 bks)[k].1 = (plcAt bks k).1 ∧ (withAt 0 bks)[k].2 = bks[k]) := fun k h h' => withAt_both bks k h h'
    have hwl := withAt_length bks 0
    have hpn := plc_length bks
    simp only [Option.elim_some, Option.isSome_some, Option.getD_some] at cB cP
    rw [hpl] at cG cJ cL
    clear hM hf hk HO hpl
    generalize pcAll cs cs.length = P at *
    rw [← hlen] at cG cJ cL
    clear hlen
    simp only [Option.getD_some, Option.isSome_some]
    go_wp2_with fail
    refine (cF _).mono ?_
    rintro e w5 ⟨A5, c5, rfl, o5, b5⟩
    have z5 := b5.size
    have hK5 := hK4.below b5 (by omega)
    have g5 := g4.trans (b5.mono (by omega))
    have f5 := own_Sl o5
    clear b5 o5 hK4 g4 cF
    go_wp2_with fail
    refine (cB _).mono ?_
    rintro e w6 ⟨A6, c6, rfl, o6, b6⟩
    have z6 := b6.size
    have hK6 := hK5.below b6 (by omega)
    have g6 := g5.trans (b6.mono (by omega))
    have f6 := f5.below b6
    have k6 := own_Sl o6
    clear b6 o6 hK5 g5 cB f5
    go_wp2_with fail
    refine (cP _).mono ?_
    rintro e w7 ⟨A7, c7, rfl, o7, b7⟩
    have z7 := b7.size
    have hK7 := hK6.below b7 (by omega)
    have g7 := g6.trans (b7.mono (by omega))
    have f7 := f6.below b7
    have k7 := k6.below b7
    have p7 := own_Sl o7
    rw [hpn] at p7 ⊢
    have hc5 := f7.1
    have hc52 := f7.2.1
    have hc6 := k7.1
    have hc62 := k7.2.1
    have hc7 := p7.1
    have hc72 := p7.2.1
    clear b7 o7 hK6 g6 cP f6 k6
    have hbd := fun k => plcAt_bd bks HOK.out k
    have HBD := Go.Lib.hid hbd
    have zg7 := g7.size
    have HW : Go.RowKit.Hid (∀ wr, Below w7.heap.size w7 wr → Bk wr q1 24 #[.int .i64 o, .int .i64 l, .int .i64 m] ∧ Sl wr A5 bks.length c5 5 (fsV (withAt 0 bks)) ∧ Sl wr A6 bks.length c6 4 (bksV bks) ∧ Sl wr A7 bks.length c7 2 (plV (plc bks)) ∧ Below w.heap.size w wr) := fun wr h => ⟨hK7.below h (by omega), f7.below h, k7.below h, p7.below h, g7.trans (h.mono zg7)⟩
    clear hK7 f7 k7 p7 g7 hbd
    go_wp2
    go_loopw [16] (fun i wr => ∃ k : Nat, i = .int .i64 (k : Int) ∧ k ≤ bks.length ∧ Below w7.heap.size w7 wr) (fun i _ => bks.length - (intOf i).toNat)
    case atStart => exact ⟨0, rfl, by omega, Below.refl _ _⟩
    case round =>
      obtain ⟨k, rfl, hk, hb⟩ := hrel
      have hz := hb.size
      by_cases hlt : k < bks.length
      · have hki : (k : Int) < bks.length := by omega
        have hkd : decide ((bks.length : Int) ≤ (k : Int)) = false := by simp; omega
        have hkd2 : decide (bks.length ≤ k) = false := by simp; omega
        obtain ⟨_, hsf, hsb, hsp, _⟩ := HW.out wr hb
        obtain ⟨g5, off5, eF, hg5, hcf⟩ := Sl.cellK hsf hlt
        obtain ⟨g6, off6, eB, hg6, hcb⟩ := Sl.cellK hsb hlt
        obtain ⟨g7, off7, eP, hg7, hcp⟩ := Sl.cellK hsp hlt
        have hfv := fsV_at (withAt 0 bks) k (by omega)
        obtain ⟨ha1, ha2⟩ := HWA.out k (by omega) hlt
        rw [ha1, ha2] at hfv
        have hbv := bksV_at bks k hlt
        have hpv := (plV_at (plc bks) k (by rw [plc_length]; exact hlt)).1
        rw [plc_at] at hpv
        generalize bks[k] = b at *
        generalize (plcAt bks k).1 = p at *
        obtain ⟨n2, r, n4, T⟩ := b
        simp only [Nat.mul_comm 5 k] at hfv
        have e0 := hcf 0 _ hfv.1
        have e1 := hcf 1 _ hfv.2.1
        have e2 := hcf 2 _ hfv.2.2.1
        have e3 := hcf 3 _ hfv.2.2.2.1
        have e4 := hcf 4 _ hfv.2.2.2.2
        have b0 := hcb 0 _ hbv.1
        have b1 := hcb 1 _ hbv.2.1
        have b2 := hcb 2 _ hbv.2.2.1
        have b3 := hcb 3 _ hbv.2.2.2
        have p0 := hcp 0 _ hpv
        simp only [Nat.add_zero] at e0 b0 p0
        subst eF eB eP
        clear hcf hcb hcp hfv hbv hpv ha1 ha2 hsf hsb hsp
        go_wp2_with fail
        go_quiet (fail)
        go_wp2
        go_roundw
        case rel => exact ⟨k + 1, by go_num, by omega, (by repeat (first | (with_reducible exact Below.refl _ _) | (with_reducible assumption) | (with_reducible refine Below.drew ?_) | (with_reducible refine Below.alloc ?_ (by first | omega | (simp <;> omega)) _) | (with_reducible refine Below.setCell ?_ (by first | omega | (simp <;> omega)) _) | (with_reducible refine belowN ?_ _)))⟩
        case measure => simp [intOf]; omega
      · have hki : ¬ (k : Int) < bks.length := by omega
        obtain ⟨hK8, _, _, _, g8⟩ := HW.out wr hb
        have zg8 := g8.size
        have hX8 := hK8.cell
        clear hst hgd
        go_wp2_with fail
        refine (cG _).mono ?_
        rintro e w9 ⟨A9, c9, rfl, o9, b9⟩
        have z9 := b9.size
        have g9 := g8.trans (b9.mono (by omega))
        have s9 := own_Sl o9
        clear b9 o9 cG g8 hK8 hX8
        go_wp2_with fail
        refine (cJ _ _ _ s9).mono ?_
        rintro e w10 ⟨rfl, b10⟩
        have z10 := b10.size
        have g10 := g9.trans (b10.mono (by omega))
        have s10 := s9.below b10
        clear b10 g9 s9 cJ
        unfold datRes
        simp only [Option.getD_some, Option.isSome_some]
        go_wp2_with fail
        refine (cL _ _ _ s10).mono ?_
        rintro e w11 ⟨A11, c11, rfl, _, b11⟩
        have z11 := b11.size
        have g11 := g10.trans (b11.mono (by omega))
        clear b11 g10 s10 cL
        go_wp2_with fail
        refine (cV _).mono ?_
        rintro e w12 ⟨A12, c12, rfl, _, b12⟩
        have g12 := g11.trans (b12.mono (by omega))
        go_wp2
        go_ret
        exact ⟨ret_bool (by first | rfl | simp), g12⟩
end Go.Proofs.YtfonokhafdflcaaGreat
