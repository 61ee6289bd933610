/- The law of lost numbers. -/
import Derived.Test.YtoogaalbnnlloaaGreatM1
import Derived.Test.YtoogaalbnnlloaaGreatGU3
namespace Go.Proofs.YtoogaalbnnlloaaGreat
open Go.RowKit
set_option linter.unusedSimpArgs false
set_option linter.unusedVariables false
set_option maxRecDepth 100000
attribute [local go_sem high] run_index_S binOp_eql_S binOp_neq_S append_S toList_S size_S run_slice_S run_slice_from_S run_slice_to_S wrap64_byteAt wrap64_byteAt_mul bits_or_bytes convU conv1_some convU2 conv2_some
abbrev iVm (x : Int) : Value := .int .i64 x
set_option maxHeartbeats 1000000 in
theorem soInts_same (vs : List Int) (A B : Option Addr) (ca cb : Nat) (w : World) (ha : Sl w A vs.length ca 1 (vs.map iVm)) (hb : Sl w B vs.length cb 1 (vs.map iVm)) (hn : vs.length ≤ 9000000) :
    Calls Tryz.prog 16 #[.slice A vs.length ca, .slice B vs.length cb] w fun e w' => e = .returned (.bool true) ∧ Below w.heap.size w w' := by
  have h1 := ha.1
  have h2 := hb.1
  have HA : Go.RowKit.Hid (∀ wr, Below w.heap.size w wr → Sl wr A vs.length ca 1 (vs.map iVm)) := fun wr h => ha.below h
  have HB : Go.RowKit.Hid (∀ wr, Below w.heap.size w wr → Sl wr B vs.length cb 1 (vs.map iVm)) := fun wr h => hb.below h
  clear ha hb
  go_enter Tryz.func16, Tryz.ntmps16
  go_wp2
  go_loopw [5] (fun a wr => ∃ k : Nat, k ≤ vs.length ∧ a = .int .i64 (k : Int) ∧ Below w.heap.size w wr) (fun a _ => vs.length - (intOf a).toNat)
  case atStart => exact ⟨0, by omega, rfl, Below.refl _ _⟩
  case round =>
    obtain ⟨k, hk, rfl, hbw⟩ := hrel
    have hz := hbw.size
    by_cases hlt : k < vs.length
    · have h1 : (k : Int) < vs.length := by omega
      obtain ⟨g, off, u, rfl, hg, hu, hc⟩ := Sl.at1 (HA.out wr hbw) hlt
      rw [List.getElem?_map, List.getElem?_eq_getElem hlt] at hu
      simp at hu
      subst hu
      obtain ⟨g2, off2, u2, rfl, hg2, hu2, hc2⟩ := Sl.at1 (HB.out wr hbw) hlt
      rw [List.getElem?_map, List.getElem?_eq_getElem hlt] at hu2
      simp at hu2
      subst hu2
      generalize vs[k] = x at *
      go_wp2
      go_quiet (fail)
      go_wp2
      go_roundw
      case rel => exact ⟨k + 1, by omega, by go_num, (by repeat (first | (with_reducible exact Below.refl _ _) | (with_reducible assumption) | (with_reducible refine Below.drew ?_) | (with_reducible refine Below.alloc ?_ (by first | omega | (simp <;> omega)) _) | (with_reducible refine Below.setCell ?_ (by first | omega | (simp <;> omega)) _) | (with_reducible refine belowN ?_ _)))⟩
      case measure => simp [intOf]; omega
    · have h1 : ¬ (k : Int) < vs.length := by omega
      go_wp2
      go_ret
      exact ⟨rfl, hbw⟩
theorem info_boolM : (Tryz.prog.info? 4).map (fun i => (i.zero, i.size, i.bytes)) = some (some (.bool false), 1, 1) := by kernel_rfl
/-- Which numbers below n are in a list. -/
def seenM (n : Nat) (o : List Int) : List Value := (List.range n).map fun i : Nat => .bool (decide ((i : Int) ∈ o))
theorem seenM_nil (n : Nat) : seenM n [] = List.replicate n (.bool false) := by
  unfold seenM
  apply List.ext_getElem
  · simp
  · intro i h1 h2; simp
theorem seenM_at (n : Nat) (o : List Int) (j : Nat) (h : j < n) : (seenM n o)[j]? = some (.bool (decide ((j : Int) ∈ o))) := by
  unfold seenM; rw [List.getElem?_map, List.getElem?_range h]; rfl
theorem seenM_set (n : Nat) (o : List Int) (j : Nat) (h : j < n) : (seenM n o).set j (.bool true) = seenM n (o ++ [(j : Int)]) := by
  have hl : (seenM n o).length = n := by simp [seenM]
  apply List.ext_getElem?
  intro i
  by_cases hi : i < n
  · rw [List.getElem?_set]
    by_cases e : j = i
    · subst e
      rw [if_pos rfl, hl, if_pos h, seenM_at n _ j h]
      simp
    · rw [if_neg e, seenM_at n _ i hi, seenM_at n _ i hi]
      have : ¬ (i : Int) = (j : Int) := by omega
      simp [this]
  · rw [List.getElem?_eq_none (by simp [hl]; omega), List.getElem?_eq_none (by simp [seenM]; omega)]
theorem not_seen {ps : List Pc} {x : Int} (h : hasP ps x = none) : ¬ x ∈ ps.map (·.1) := by
  intro hx
  obtain ⟨p, hp, e⟩ := List.mem_map.1 hx
  unfold hasP at h
  rw [Option.map_eq_none_iff, List.find?_eq_none] at h
  have := h p hp
  simp [e] at this
theorem joinB_iff {ps : List Pc} {c : Int} : (joinB ps c 1 0 = none → lostB ps c = []) ∧ (∀ d, joinB ps c 1 0 = some d → PV ps c) := by
  constructor
  · intro h
    by_cases hp : PV ps c
    · rw [joinB_yes ⟨hp, by omega, by omega, by omega, by omega⟩] at h; cases h
    · exact lostB_no hp
  · intro d h
    by_cases hp : PV ps c
    · exact hp
    · rw [joinB_no (fun h2 => hp h2.1)] at h; cases h
set_option maxHeartbeats 2000000 in
theorem law_Lost (bs : Bs) (A : Option Addr) (cap : Nat) (w : World) (hs : Sl w A bs.length cap 1 (bs.map u8v)) :
    Calls Tryz.prog 3 #[.slice A bs.length cap] w fun e w' => e = .returned (.bool true) ∧ Below w.heap.size w w' := by
  go_enter Tryz.func3, Tryz.ntmps3
  by_cases hl0 : 1048576 < bs.length
  · have hli : (1048576 : Int) < bs.length := by omega
    go_wp2
    go_ret
    exact ⟨rfl, Below.refl _ _⟩
  have hli0 : ¬ (1048576 : Int) < bs.length := by omega
  clear hl0
  go_wp2_with fail
  refine (drawLost_any bs A cap _ hs).mono ?_
  rintro e w1 ⟨⟨ps, c, A1, c1, rfl, hpl, hpd, hc0, hc1, S1⟩, g1⟩
  have z1 := g1.size
  have hpd2 : ∀ p ∈ ps, p.2.length ≤ 100000 := fun p hp => by have := hpd p hp; omega
  have cL := lostNumbers_any ps c A1 c1 w1 S1 (by omega) hpd2
  have HSP : Go.RowKit.Hid (∀ wr, Below w1.heap.size w1 wr → Sl wr A1 ps.length c1 2 (pcsV ps)) := fun wr h => S1.below h
  have cSL : Go.RowKit.Hid (∀ wr, Below w1.heap.size w1 wr → Calls Tryz.prog 17 #[.slice A1 ps.length c1, .int .i64 c] wr (IsRes (lostB ps c) wr)) := fun wr h => sLostNumbers_any ps c A1 c1 wr (S1.below h) (by omega) hpd2 (by omega) (by omega)
  have cJ : Go.RowKit.Hid (∀ wr, Below w1.heap.size w1 wr → Calls Tryz.prog 18 #[.slice A1 ps.length c1, .int .i64 c, .int .i64 1, .int .i64 0] wr fun e w' => e = datRes (joinB ps c 1 0) ∧ Below wr.heap.size wr w') := fun wr h => joinPieces_any ps c 1 0 A1 c1 wr (S1.below h) (by omega) hpd2
  have HJ1 := Go.Lib.hid (joinB_iff (ps := ps) (c := c)).1
  have HJ2 := Go.Lib.hid (joinB_iff (ps := ps) (c := c)).2
  have HLB : Go.RowKit.Hid (PV ps c → lostB ps c = lstTo ps c.toNat) := fun h => lostB_yes h
  have hcp1 := S1.1
  have hcp2 := S1.2.1
  have hvl : (lostB ps c).length ≤ 41 := by
    by_cases hp : PV ps c
    · rw [lostB_yes hp]; have := lstTo_len ps c.toNat; omega
    · rw [lostB_no hp]; simp
  unfold IsRes at cL cSL
  clear S1 hpd hpd2 hs
  generalize lostB ps c = vs at *
  generalize joinB ps c 1 0 = J at *
  go_wp2_with fail
  refine cL.mono ?_
  rintro e w2 ⟨A2, c2, rfl, o2, b2⟩
  have z2 := b2.size
  have S2 := own_Sl o2
  clear cL o2
  go_wp2_with fail
  refine (cSL.out _ b2).mono ?_
  rintro e w3 ⟨A3, c3, rfl, o3, b3⟩
  have z3 := b3.size
  have S3 := own_Sl o3
  have S23 := S2.below b3
  have b13 := b2.trans (b3.mono z2)
  clear o3 S2 b2 b3 cSL
  go_wp2_with fail
  refine (soInts_same vs A2 A3 c2 c3 w3 S23 S3 (by omega)).mono ?_
  rintro e w4 ⟨rfl, b4⟩
  have z4 := b4.size
  have S4 := S23.below b4
  have b14 := b13.trans (b4.mono (by omega))
  clear S3 S23 b13 b4
  go_wp2_with fail
  refine (cJ.out _ b14).mono ?_
  rintro e w5 ⟨rfl, b5⟩
  have z5 := b5.size
  have S5 := S4.below b5
  have b15 := b14.trans (b5.mono (by omega))
  have g5 := g1.trans (b15.mono z1)
  clear S4 b14 b5 cJ
  unfold datRes
  cases J with
  | none =>
    have hE := HJ1.out rfl
    subst hE
    go_wp2
    go_ret
    exact ⟨rfl, g5⟩
  | some d =>
    have hP := HJ2.out d rfl
    have hE := HLB.out hP
    obtain ⟨n, rfl⟩ := Int.eq_ofNat_of_zero_le hP.1
    rw [Int.toNat_natCast] at hE
    have hall := lost_all hP
    rw [Int.toNat_natCast, ← hE] at hall
    have hasc := lstTo_asc ps n
    rw [← hE] at hasc
    have HAS := Go.Lib.hid hasc
    have HO := Go.Lib.hid hP.2.2
    have hn : n ≤ 40 := by have := hP.2.1; omega
    have HPB : Go.RowKit.Hid (∀ (k : Nat) (h : k < ps.length), 0 ≤ ps[k].1 ∧ ps[k].1 < (n : Int)) := fun k h => ⟨(hP.2.2.1 k h).1, (hP.2.2.1 k h).2.1⟩
    clear hP hE HJ1 HJ2 HLB hasc
    obtain ⟨i0, hi, hz0, hz1, hz2⟩ := info_parts info_boolM
    go_wp2_with (at_make; go_must (refine wpList_make_full _ rfl _ _ 31 rfl w5.heap.size 4 i0 (.bool false) 1 Tryz.underlying31 hi hz0 hz1 _ _ _ _ n rfl rfl (by omega) (by omega) (by rw [hz2]; omega) (by unfold maxLen; omega) (by omega) ?_); intro w6 hown hg6)
    have b6 : Below w5.heap.size w5 w6 := (Below.refl _ _).grown hg6 (Nat.le_refl _) (by simp)
    have hown2 : w6.ownsRow w5.heap.size 4 1 (.slice (some ⟨w5.heap.size, 0, none⟩) n n) n (seenM n ((ps.take 0).map (·.1))) := by
      rw [List.take_zero, List.map_nil, seenM_nil, ← toList_madeCells_one]
      rw [Nat.mul_one] at hown
      exact hown
    have HW : Go.RowKit.Hid (∀ wr, Below w5.heap.size w5 wr → Sl wr A1 ps.length c1 2 (pcsV ps) ∧ Sl wr A2 vs.length c2 1 (vs.map iVm) ∧ Below w.heap.size w wr) := fun wr h => ⟨HSP.out wr (b15.trans (h.mono (by omega))), S5.below h, g5.trans (h.mono (by omega))⟩
    have hcv := S5.1
    have hcv2 := S5.2.1
    clear hg6 hown S5 b15 g5 HSP
    obtain ⟨sb, hsb⟩ : ∃ sb, w5.heap.size = sb := ⟨_, rfl⟩
    rw [hsb] at hown2 b6 HW
    go_wp2
    go_loopw [9] (fun i wr => ∃ k : Nat, i = .int .i64 (k : Int) ∧ k ≤ ps.length ∧ wr.ownsRow sb 4 1 (.slice (some ⟨sb, 0, none⟩) n n) n (seenM n ((ps.take k).map (·.1))) ∧ Below sb w5 wr) (fun i _ => ps.length - (intOf i).toNat)
    case atStart => exact ⟨0, rfl, by omega, hown2, b6⟩
    case round =>
      obtain ⟨k, rfl, hk, ow, hb⟩ := hrel
      clear hown2 b6
      have hz := hb.size
      by_cases hlt : k < ps.length
      · have hki : (k : Int) < ps.length := by omega
        obtain ⟨g, off, rfl, hg, c0, _⟩ := ((HW.out wr hb).1).pc hlt
        have hpb := HPB.out k hlt
        have HT : Go.RowKit.Hid ((ps.take (k + 1)).map (·.1) = (ps.take k).map (·.1) ++ [ps[k].1]) := by show _ = _; rw [List.take_succ_eq_append_getElem hlt, List.map_append]; rfl
        generalize ps[k].1 = x at *
        obtain ⟨hx0, hx1⟩ := hpb
        obtain ⟨j, rfl⟩ := Int.eq_ofNat_of_zero_le hx0
        have hjn : j < n := by omega
        have hcl := (ow.cellAt j (by omega)).trans (seenM_at n _ j hjn)
        have hfr := ow.frozenAt j
        have hst := (ow.stored j (.bool true)).1
        rw [seenM_set _ _ _ hjn, ← HT.out] at hst
        have b3 : Below sb w5 (wr.setCell ⟨sb, j, none⟩ (.bool true)) := hb.setCell (Nat.le_refl _) _
        have HST := Go.Lib.hid (And.intro hst b3)
        clear hst b3 ow hb HT
        go_wp2
        go_roundw
        case rel => exact ⟨k + 1, by go_num, by omega, HST.out.1, HST.out.2⟩
        case measure => simp [intOf]; omega
      · have hki : ¬ (k : Int) < ps.length := by omega
        have hkl : ps.take k = ps := List.take_of_length_le (by omega)
        rw [hkl] at ow
        have hsl := own_Sl ow
        obtain ⟨_, hvs, hgw⟩ := HW.out wr hb
        clear hkl
        go_wp2
        generalize wr = w7 at *
        go_loopw [10] (fun i wq => ∃ k : Nat, i = .int .i64 (k : Int) ∧ k ≤ vs.length ∧ Below w7.heap.size w7 wq) (fun i _ => vs.length - (intOf i).toNat)
        case atStart => exact ⟨0, rfl, by omega, Below.refl _ _⟩
        case round =>
          obtain ⟨k2, rfl, hk2, hbq⟩ := hrel
          have hvq := hvs.below hbq
          have hsq := hsl.below hbq
          have hzq := hbq.size
          by_cases hl2 : k2 < vs.length
          · have hki2 : (k2 : Int) < vs.length := by omega
            obtain ⟨g, off, u, rfl, hg, hu, hc⟩ := Sl.at1 hvq hl2
            rw [List.getElem?_map, List.getElem?_eq_getElem hl2] at hu
            simp at hu
            subst hu
            have hx := HAS.out.1 vs[k2] (List.getElem_mem hl2)
            have HPR : Go.RowKit.Hid (∀ j, k2 = j + 1 → ∃ y, wr.cell? ⟨g, off + j, none⟩ = some (iVm y) ∧ y < vs[k2]) := fun j e => by
              subst e
              obtain ⟨g', off', u', e', _, hu', hc'⟩ := Sl.at1 hvq (show j < vs.length by omega)
              injection e' with e'
              injection e' with e1 e2
              subst e1 e2
              rw [List.getElem?_map, List.getElem?_eq_getElem (show j < vs.length by omega)] at hu'
              simp at hu'
              subst hu'
              exact ⟨vs[j], hc', List.pairwise_iff_getElem.1 HAS.out.2 j (j + 1) (by omega) hl2 (by omega)⟩
            generalize vs[k2] = x at *
            obtain ⟨hx0, hx1, hx2⟩ := hx
            have hns := not_seen hx2
            obtain ⟨j, rfl⟩ := Int.eq_ofNat_of_zero_le hx0
            have hjn : j < n := by omega
            obtain ⟨gs, os, us, eS, hgs, hus, hcs⟩ := Sl.at1 hsq (show j < n by omega)
            injection eS with eS
            injection eS with e1 e2
            subst e1 e2
            rw [seenM_at n _ j hjn, show decide ((j : Int) ∈ ps.map (·.1)) = false by simpa using hns] at hus
            injection hus with hus
            subst hus
            rw [Nat.zero_add] at hcs
            clear hns hx2
            rcases Nat.eq_zero_or_pos k2 with rfl | hk0
            · clear HPR
              simp only [Nat.add_zero] at hc
              go_wp2
              go_quiet (fail)
              go_wp2
              go_roundw
              case rel => exact ⟨1, by go_num, by omega, (by repeat (first | (with_reducible exact Below.refl _ _) | (with_reducible assumption) | (with_reducible refine Below.drew ?_) | (with_reducible refine Below.alloc ?_ (by first | omega | (simp <;> omega)) _) | (with_reducible refine Below.setCell ?_ (by first | omega | (simp <;> omega)) _) | (with_reducible refine belowN ?_ _)))⟩
              case measure => simp [intOf]; omega
            · obtain ⟨j2, rfl⟩ : ∃ j2, k2 = j2 + 1 := ⟨k2 - 1, by omega⟩
              obtain ⟨y, hcy, hyx⟩ := HPR.out j2 rfl
              have hyd : decide ((j : Int) ≤ y) = false := by simp; omega
              have hny : ¬ (j : Int) ≤ y := by omega
              have hkp : (0 : Int) < ((j2 + 1 : Nat) : Int) := by omega
              have hkp2 : (0 : Int) < (j2 : Int) + 1 := by omega
              have hji : (j2 : Int) < vs.length := by omega
              clear HPR
              go_wp2
              go_quiet (fail)
              go_wp2
              go_roundw
              case rel => exact ⟨j2 + 2, by go_num, by omega, (by repeat (first | (with_reducible exact Below.refl _ _) | (with_reducible assumption) | (with_reducible refine Below.drew ?_) | (with_reducible refine Below.alloc ?_ (by first | omega | (simp <;> omega)) _) | (with_reducible refine Below.setCell ?_ (by first | omega | (simp <;> omega)) _) | (with_reducible refine belowN ?_ _)))⟩
              case measure => simp [intOf]; omega
          · have hki2 : ¬ (k2 : Int) < vs.length := by omega
            have hsum : ((vs.length : Int) + (ps.length : Int) == (n : Int)) = true := by simp; omega
            have g9 : Below w.heap.size w wr := hgw.trans (hbq.mono hgw.size)
            go_wp2
            go_ret
            exact ⟨ret_bool (by first | (simp; done) | (simp; omega)), g9⟩
end Go.Proofs.YtoogaalbnnlloaaGreat
