/- The law: a container is restored if nothing is lost, and if of each group one block is. -/
import Derived.Test.YtfonokhafdflcaaGreatM6
import Derived.Test.YtfonokhafdflcaaGreatJ26
import Derived.Test.YtfonokhafdflcaaGreatQ10
import Derived.Test.YtfonokhafdflcaaGreatQ11
import Derived.Test.YtfonokhafdflcaaGreatIx
import Derived.Test.YtfonokhafdflcaaGreatE10
import Derived.Test.YtfonokhafdflcaaGreatP13
import Derived.Test.YtfonokhafdflcaaGreatQ6
import Derived.Deep.Cut
namespace Go.Proofs.YtfonokhafdflcaaGreat
open Go.RowKit
set_option linter.unusedSimpArgs false
set_option linter.unusedVariables false
set_option maxRecDepth 100000
attribute [local go_sem high] run_index_S binOp_eql_S binOp_neq_S append_S toList_S size_S run_slice_S run_slice_from_S run_slice_to_S wrap64_byteAt wrap64_byteAt_mul bits_or_bytes convU conv1_some convU2 conv2_some
/-- Where a block begins and ends. -/
def plE8 (l : Bs) (bs : List Blk) (n : Nat) : Int := if n + 1 < bs.length then (plcAt bs (n + 1)).1 else (l.length : Int)
theorem plE8_is {l : Bs} {bs : List Blk} (hB : blocksB l = some bs) {k : Nat} (hk : k < bs.length) :
    ∃ a b : Nat, (plcAt bs k).1 = (a : Int) ∧ plE8 l bs k = (b : Int) ∧ a ≤ b ∧ b ≤ l.length ∧ (l.drop a).take (b - a) = bs[k].text := by
  obtain ⟨h1, h2, h3⟩ := blocks_some hB
  have hsp := catT_split bs k hk
  have hnx := plcAt_next bs k hk
  have hP : (plcAt bs k).1 = ((catT (bs.take k)).length : Int) := rfl
  refine ⟨(catT (bs.take k)).length, (catT (bs.take k)).length + bs[k].text.length, hP, ?_, by omega, ?_, ?_⟩
  · unfold plE8
    split
    · rw [hnx, hP, Blk.text_len]; simp
    · have e : bs.take (k + 1) = bs := List.take_of_length_le (by omega)
      have e2 : (plcAt bs (k + 1)).1 = l.length := by unfold plcAt; rw [e, h2]
      rw [← e2, hnx, hP, Blk.text_len]; simp
  · rw [← h2, hsp]; simp
  · rw [← h2, hsp, List.drop_left, Nat.add_sub_cancel_left, List.take_left]
theorem keep_step {bs : List Blk} (hnum : NumOk 0 bs) (g r k : Nat) (hk : k < bs.length) : catT (keepB g r (bs.take (k + 1))) = catT (keepB g r (bs.take k)) ++ (if k % g ≠ r then bs[k].text else []) := by
  have hn := (NumOk_at hnum k hk).2
  rw [Nat.zero_add] at hn
  rw [List.take_succ_eq_append_getElem hk, keepB_snoc, catT_app, hn, Int.toNat_natCast]
  by_cases h : k % g ≠ r
  · rw [if_pos h, if_pos h]; simp [catT]
  · rw [if_neg h, if_neg h]; simp [catT]
set_option maxHeartbeats 8000000 in
theorem law_RepairWhole (bs : Bs) (A : Option Addr) (cap : Nat) (bs2 : Bs) (A2 : Option Addr) (cap2 : Nat) (w : World) (hs : Sl w A bs.length cap 1 (bs.map u8v)) (hs2 : Sl w A2 bs2.length cap2 1 (bs2.map u8v)) :
    Calls Tryz.prog 4 #[.slice A bs.length cap, .slice A2 bs2.length cap2] w fun e w' => e = .returned (.bool true) ∧ Below w.heap.size w w' := by
  go_enter Tryz.func4, Tryz.ntmps4
  by_cases hl0 : 1048576 < bs.length
  · have hli : (1048576 : Int) < bs.length := by omega
    go_wp2
    go_ret
    exact ⟨rfl, Below.refl _ _⟩
  have hli0 : ¬ (1048576 : Int) < bs.length := by omega
  by_cases hl1 : 1048576 < bs2.length
  · have hli : (1048576 : Int) < bs2.length := by omega
    go_wp2
    go_ret
    exact ⟨rfl, Below.refl _ _⟩
  have hli1 : ¬ (1048576 : Int) < bs2.length := by omega
  clear hl0
  go_wp2_with fail
  refine (drawMakeContainer_any bs A cap _ hs).mono ?_
  rintro e w1 ⟨⟨o, l, m, dict, d, size, rfl, hdl, hd, hs0, hs1⟩, g1⟩
  have z1 := g1.size
  have hK2 := Bk.new w1 #[.int .i64 o, .int .i64 l, .int .i64 m] 24
  have g2 := g1.alloc z1 (.cells #[.int .i64 o, .int .i64 l, .int .i64 m] 24)
  clear hs hs2
  go_upto_region 4 with (fail)
  generalize w1.alloc (.cells #[.int .i64 o, .int .i64 l, .int .i64 m] 24) = W at *
  have z2 := hK2.lt
  generalize w1.heap.size = q1 at *
  have cI := fun w => iMakeContainer_any o l m dict d size w (by omega) (by omega) (by omega) (by omega)
  have cR := fun w => makeContainer_any o l m dict d size w (by omega) (by omega) (by omega) (by omega)
  obtain ⟨O, hO⟩ : ∃ O, mkC o l m dict d size = O := ⟨_, rfl⟩
  rw [hO] at cI cR
  have HO := Go.Lib.hid hO
  clear hO
  unfold cmRes at cI cR
  have hX2 := hK2.cell
  go_wp2_with fail
  refine (cI _).mono ?_
  rintro e w3 ⟨rfl, b3⟩
  have z3 := b3.size
  have hK3 := hK2.below b3 z2
  have g3 := g2.trans (b3.mono (by omega))
  have hX3 := hK3.cell
  clear b3 hK2 g2 hX2 cI
  go_wp2_with fail
  refine (cR _).mono ?_
  rintro e w4 ⟨rfl, b4⟩
  have z4 := b4.size
  have g4 := g3.trans (b4.mono (by omega))
  clear b4 hK3 g3 hX3 cR
  cases O with
  | none =>
    go_wp2
    go_ret
    exact ⟨ret_bool (by first | rfl | simp), g4⟩
  | some X =>
    obtain ⟨n, bks, cs, hsz, hn1, hn64, hf, hk, hM⟩ := made_of HO.out
    subst hsz
    have hXl := hM.short
    have hmost := hM.most
    have hB := hM.blocks
    have hnum := hM.num
    have HNU := Go.Lib.hid hnum
    have HBK := Go.Lib.hid hB
    obtain ⟨q0, hq, hq5⟩ : ∃ q : Nat, (bs2.length : Int) % 6 = (q : Int) ∧ q ≤ 5 := ⟨bs2.length % 6, by simp, by omega⟩
    have cP := fun w => indexOf_any X w (by omega)
    have cA := fun w => parityOf_any X (((q0 + 1 : Nat) : Int)) w (by omega) (by omega) (by omega)
    unfold PlRes2 PlRow at cP
    unfold PaRes at cA
    rw [parB_someK hB (by omega) (by omega)] at cA
    rw [hB] at cP
    simp only [Option.elim_some, Option.isSome_some, Option.getD_some] at cP cA
    have hpal := parL_length bks (q0 + 1) (cnt bks.length (q0 + 1))
    have hpab := parL_bd (g := q0 + 1) (m := cnt bks.length (q0 + 1)) hM.ok
    have hcl := cnt_le (n := bks.length) (g := q0 + 1) (by omega)
    have hR1 := repair_same hB (show 1 ≤ q0 + 1 by omega) (by omega)
    obtain ⟨r, hr⟩ : ∃ r, bs2.length / 6 % (q0 + 1) = r := ⟨_, rfl⟩
    have hR2 := repair_keep (r := r) hB (show 1 ≤ q0 + 1 by omega) (by omega)
    have HKL : Go.RowKit.Hid (∀ k, (catT (keepB (q0 + 1) r (bks.take k))).length ≤ 2960) := fun k => keepB_len (q0 + 1) r bks k hM.ok hmost
    have cC : Go.RowKit.Hid (∀ (l : Bs) A cap w, l.length ≤ 3000 → Sl w A (parL bks (q0 + 1) (cnt bks.length (q0 + 1))).length cap 1 ((parL bks (q0 + 1) (cnt bks.length (q0 + 1))).map sv) → Calls Tryz.prog 17 #[sv l, .slice A (parL bks (q0 + 1) (cnt bks.length (q0 + 1))).length cap, .int .i64 ((q0 + 1 : Nat) : Int), .int .i64 (bks.length : Int)] w fun e w' => e = rbRes (repairB l (parL bks (q0 + 1) (cnt bks.length (q0 + 1))) ((q0 + 1 : Nat) : Int) bks.length) ∧ Below w.heap.size w w') := fun l A cap w hl hs => repair_any l _ _ _ A cap w hs (by omega) (by omega) (fun t ht => by have := hpab t ht; omega) (by omega) (by omega) (by omega) (by omega)
    have HR1 := Go.Lib.hid hR1
    have HR2 := Go.Lib.hid hR2
    have HRR := Go.Lib.hid hr
    have hpn := plc_length bks
    clear hM hf hk HO hB hnum hpab hcl hpal hR1 hR2 hr
    generalize parL bks (q0 + 1) (cnt bks.length (q0 + 1)) = pa at *
    have e1 : ((q0 + 1 : Nat) : Int) = 1 + (q0 : Int) := by omega
    rw [e1] at cA cC HR1 HR2
    clear e1
    simp only [Option.getD_some, Option.isSome_some]
    go_wp2_with fail
    refine (cA _).mono ?_
    rintro e w5 ⟨A5, c5, rfl, o5, b5⟩
    have z5 := b5.size
    have g5 := g4.trans (b5.mono (by omega))
    have s5 := Sl.own o5
    clear b5 o5 g4 cA
    go_wp2_with fail
    refine (cP _).mono ?_
    rintro e w6 ⟨A6, c6, rfl, o6, b6⟩
    have z6 := b6.size
    have g6 := g5.trans (b6.mono (by omega))
    have s6 := s5.below b6
    have p6 := Sl.own o6
    clear b6 o6 g5 s5 cP
    have HPA : Go.RowKit.Hid (∀ k (h : k < bks.length) wr, Below w6.heap.size w6 wr → ∃ g off, A6 = some ⟨g, off, none⟩ ∧ g < wr.heap.size ∧ wr.cell? ⟨g, off + k * 2, none⟩ = some (.int .i64 (plcAt bks k).1)) := fun k h wr hw => by
      have hn : k < (plc bks).length := by rw [plc_length]; exact h
      obtain ⟨g, off, hA, hg, hc⟩ := Sl.cellK (p6.below hw) hn
      have c0 := hc 0 _ (plV_at (plc bks) k hn).1
      rw [plc_at, Nat.add_zero] at c0
      exact ⟨g, off, hA, hg, c0⟩
    rw [hpn] at p6 ⊢
    have hc6 := p6.1
    have hc62 := p6.2.1
    have zg6 := g6.size
    have HW : Go.RowKit.Hid (∀ wr, Below w6.heap.size w6 wr → Sl wr A5 pa.length c5 1 (pa.map sv) ∧ Below w.heap.size w wr) := fun wr h => ⟨s6.below h, g6.trans (h.mono zg6)⟩
    have hg0 : ¬ (1 + (q0 : Int)) = 0 := by omega
    clear s6 p6 g6
    have hGdef : Go.RowKit.Hid (∀ a b : Nat, a % (q0 + 1) = b → Int.tmod (a : Int) (1 + (q0 : Int)) = (b : Int) ∧ (a : Int) % (1 + (q0 : Int)) = (b : Int)) := fun a b h => by rw [← h, show (1 + (q0 : Int)) = ((q0 + 1 : Nat) : Int) by omega]; exact ⟨rfl, rfl⟩
    have hG1 : 1 ≤ 1 + (q0 : Int) := by omega
    have hG2 : 1 + (q0 : Int) ≤ 6 := by omega
    go_wp2
    generalize 1 + (q0 : Int) = G at *
    go_loopw [18, 19] (fun x i wr => ∃ (k : Nat) (u : Bs), k ≤ bks.length ∧ i = .int .i64 (k : Int) ∧ x = .string ⟨u.toArray⟩ ∧ Go.RowKit.Hid (u = catT (keepB (q0 + 1) r (bks.take k))) ∧ Below w6.heap.size w6 wr) (fun _ i _ => bks.length - (intOf i).toNat)
    case atStart => exact ⟨0, [], by omega, rfl, rfl, rfl, Below.refl _ _⟩
    case round =>
      obtain ⟨k, u, hk, rfl, rfl, hu, hb⟩ := hrel
      have hz := hb.size
      have hul : u.length ≤ 2960 := by rw [hu.out]; exact HKL.out k
      by_cases hlt : k < bks.length
      · have hki : (k : Int) < bks.length := by omega
        obtain ⟨g, off, eA, hg, c0⟩ := HPA.out k hlt wr hb
        obtain ⟨a, b, ea, eb, hab, hbl, htx⟩ := plE8_is HBK.out hlt
        rw [ea] at c0
        have hst := keep_step HNU.out (q0 + 1) r k hlt
        rw [← hu.out, ← htx] at hst
        have HST := Go.Lib.hid hst
        have hsl : ((X.drop a).take (b - a)).length ≤ 3000 := by simp; omega
        obtain ⟨kr, hkr⟩ : ∃ kr, k % (q0 + 1) = kr := ⟨_, rfl⟩
        rw [hkr] at HST
        obtain ⟨hm1, hm1e⟩ := hGdef.out k kr hkr
        have hm2 : Int.tdiv (bs2.length : Int) 6 = ((bs2.length / 6 : Nat) : Int) := by rfl
        have hm2e : (bs2.length : Int) / 6 = ((bs2.length / 6 : Nat) : Int) := by rfl
        obtain ⟨hm3, hm3e⟩ := hGdef.out (bs2.length / 6) r HRR.out
        have hkl : kr ≤ 40 := by rw [← hkr]; have := Nat.mod_le k (q0 + 1); omega
        have hrl : r ≤ 5 := by rw [← HRR.out]; have := Nat.mod_lt (bs2.length / 6) (show 0 < q0 + 1 by omega); omega
        have hyl : bs2.length / 6 ≤ 1048576 := by omega
        have hm1e : (k : Int) % (1 + (q0 : Int)) = (kr : Int) := by rw [← hkr, show (1 + (q0 : Int)) = ((q0 + 1 : Nat) : Int) by omega]; rfl
        have hm2e : (bs2.length : Int) / 6 = ((bs2.length / 6 : Nat) : Int) := by rfl
        have hm3e : ((bs2.length / 6 : Nat) : Int) % (1 + (q0 : Int)) = (r : Int) := by rw [← HRR.out, show (1 + (q0 : Int)) = ((q0 + 1 : Nat) : Int) by omega]; rfl
        have hw6 : wrap64 ((bs2.length / 6 : Nat) : Int) = ((bs2.length / 6 : Nat) : Int) := IntWalk.wrap64_in _ ⟨by omega, by omega⟩
        generalize bs2.length / 6 = y6 at *
        subst eA
        clear hst htx hkr ea hu hGdef
        go_upto_if 103 with (fail)
        go_cut [20] (fun z wx => z = .int .i64 (b : Int) ∧ wr = wx)
        case first =>
          by_cases h2 : k + 1 < bks.length
          · have h2i : (k : Int) + 1 < bks.length := by omega
            obtain ⟨g', off', eA', _, d0⟩ := HPA.out (k + 1) h2 wr hb
            injection eA' with eA'
            injection eA' with eA1 eA2
            subst eA1 eA2
            have eb' : (plcAt bks (k + 1)).1 = b := by unfold plE8 at eb; rw [if_pos h2] at eb; exact eb
            rw [eb'] at d0
            clear eb' eb hm1 hm2 hm3 hm1e hm2e hm3e hw6 HST
            go_wp2_with fail
            go_meet
            exact ⟨rfl, rfl⟩
          · have h2i : ¬ (k : Int) + 1 < bks.length := by omega
            have eb' : (X.length : Int) = b := by unfold plE8 at eb; rw [if_neg h2] at eb; exact eb
            have eb2 : b = X.length := by omega
            subst eb2
            clear eb' eb hm1 hm2 hm3 hm1e hm2e hm3e hw6 HST
            go_wp2_with fail
            go_meet
            exact ⟨rfl, rfl⟩
        case rest =>
          obtain ⟨rfl, rfl⟩ := hcut
          clear eb
          go_upto_region 18 with (fail)
          clear hl1 hli0 hdl hd z1 z2 z3 z4 z5 z6 hn1 hn64 hs0 hs1 hq hq5 hpn hc6 hc62 zg6 cC
          by_cases hkr : kr = r
          · have hne : ((kr : Int) == (r : Int)) = true := by simp; omega
            have hne2 : (kr == r) = true := by simp; omega
            have hne3 : ((kr : Int) != (r : Int)) = false := by simp; omega
            have HN : Go.RowKit.Hid (u = catT (keepB (q0 + 1) r (bks.take (k + 1)))) := by show _ = _; rw [HST.out, if_neg (by omega), List.append_nil]
            clear HST hkr
            go_quiet (fail)
            clear hm1 hm2 hm3 hm1e hm2e hm3e hw6
            go_wp2
            go_roundw
            case rel => exact ⟨k + 1, u, by omega, by go_num, rfl, HN, (by repeat (first | (with_reducible exact Below.refl _ _) | (with_reducible assumption) | (with_reducible refine Below.drew ?_) | (with_reducible refine Below.alloc ?_ (by first | omega | (simp <;> omega)) _) | (with_reducible refine Below.setCell ?_ (by first | omega | (simp <;> omega)) _) | (with_reducible refine belowN ?_ _)))⟩
            case measure => simp [intOf]; omega
          · have hne : ((kr : Int) == (r : Int)) = false := by simp; omega
            have hne2 : (kr == r) = false := by simp; omega
            have hne3 : ((kr : Int) != (r : Int)) = true := by simp; omega
            have HN : Go.RowKit.Hid (u ++ (X.drop a).take (b - a) = catT (keepB (q0 + 1) r (bks.take (k + 1)))) := by show _ = _; rw [HST.out, if_pos hkr]
            clear HST hkr
            go_quiet (fail)
            clear hm1 hm2 hm3 hm1e hm2e hm3e hw6
            go_wp2
            go_roundw
            case rel => exact ⟨k + 1, u ++ (X.drop a).take (b - a), by omega, by go_num, (by first | rfl | simp), HN, (by repeat (first | (with_reducible exact Below.refl _ _) | (with_reducible assumption) | (with_reducible refine Below.drew ?_) | (with_reducible refine Below.alloc ?_ (by first | omega | (simp <;> omega)) _) | (with_reducible refine Below.setCell ?_ (by first | omega | (simp <;> omega)) _) | (with_reducible refine belowN ?_ _)))⟩
            case measure => simp [intOf]; omega
      · have hki : ¬ (k : Int) < bks.length := by omega
        have hke : k = bks.length := by omega
        have hue : u = catT (keepB (q0 + 1) r bks) := by rw [hu.out, hke, List.take_length]
        obtain ⟨s8, g8⟩ := HW.out wr hb
        have c1 := fun A cap w hs => cC.out X A cap w (by omega) hs
        have c2 := fun A cap w hs => cC.out u A cap w (by omega) hs
        rw [HR1.out] at c1
        rw [hue, HR2.out, ← hue] at c2
        unfold rbRes at c1 c2
        have zg8 := g8.size
        clear hue hke hu
        go_wp2_with fail
        refine (c1 _ _ _ s8).mono ?_
        rintro e w9 ⟨rfl, b9⟩
        have z9 := b9.size
        have g9 := g8.trans (b9.mono (by omega))
        have s9 := s8.below b9
        clear b9 g8 s8 c1
        go_wp2_with fail
        refine (c2 _ _ _ s9).mono ?_
        rintro e w10 ⟨rfl, b10⟩
        have g10 := g9.trans (b10.mono (by omega))
        go_wp2
        go_ret
        exact ⟨ret_bool (by first | rfl | simp), g10⟩
end Go.Proofs.YtfonokhafdflcaaGreat
