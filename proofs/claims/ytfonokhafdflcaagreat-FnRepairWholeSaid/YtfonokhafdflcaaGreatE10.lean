/- Walks: parities of the groups of a container's blocks, by the program. -/
import Derived.Test.YtfonokhafdflcaaGreatE9
namespace Go.Proofs.YtfonokhafdflcaaGreat
open Go.RowKit
set_option linter.unusedVariables false
set_option linter.unusedSimpArgs false
set_option maxRecDepth 100000
attribute [local go_sem high] run_index_S binOp_eql_S binOp_neq_S append_S toList_S size_S run_slice_S run_slice_from_S run_slice_to_S wrap64_byteAt wrap64_byteAt_mul bits_or_bytes convU conv1_some convU2 conv2_some
/-- The lengths of the first k strings; the others are empty still. -/
def lnC (ls : List Bs) (k : Nat) : List Value := ((ls.take k).map (fun t : Bs => two t.length)).map sv ++ List.replicate (ls.length - k) (sv [])
theorem lnC_length (ls : List Bs) (k : Nat) (h : k ≤ ls.length) : (lnC ls k).length = ls.length := by simp [lnC]; omega
theorem lnC_zero (ls : List Bs) : lnC ls 0 = List.replicate ls.length (sv []) := by simp [lnC]
theorem lnC_full (ls : List Bs) : lnC ls ls.length = (ls.map (fun t : Bs => two t.length)).map sv := by simp [lnC]
theorem lnC_cur (ls : List Bs) (k : Nat) (h : k < ls.length) : (lnC ls k)[k]? = some (sv []) := by
  unfold lnC
  have e : (((ls.take k).map (fun t : Bs => two t.length)).map sv).length = k := by simp; omega
  rw [List.getElem?_append_right (by omega), e, Nat.sub_self, List.getElem?_replicate, if_pos (by omega)]
theorem lnC_set (ls : List Bs) (k : Nat) (h : k < ls.length) : (lnC ls k).set k (sv (two ls[k].length)) = lnC ls (k + 1) := by
  unfold lnC
  have e : (((ls.take k).map (fun t : Bs => two t.length)).map sv).length = k := by simp; omega
  rw [List.set_append_right _ _ (by omega), e, Nat.sub_self, show ls.length - k = (ls.length - (k + 1)) + 1 by omega, List.replicate_succ, List.set_cons_zero, List.take_succ_eq_append_getElem h, List.map_append, List.map_append, List.append_assoc]
  rfl
/-- A part of a slice. -/
theorem Sl.sub {w : World} {g off n cap size : Nat} {cs : List Value} (h : Sl w (some ⟨g, off, none⟩) n cap size cs) {f t : Nat} (hft : f ≤ t) (ht : t ≤ n) : Sl w (some ⟨g, off + f * size, none⟩) (t - f) (cap - f) size ((cs.drop (f * size)).take ((t - f) * size)) := by
  obtain ⟨h1, h2, h3, h4⟩ := h
  have e1 : f * size + (t - f) * size = t * size := by rw [← Nat.add_mul]; congr 1; omega
  have e2 : t * size ≤ n * size := Nat.mul_le_mul_right _ ht
  refine ⟨by omega, by omega, by rw [List.length_take, List.length_drop]; omega, fun hp => ?_⟩
  obtain ⟨g', off', e, hg, hc⟩ := h4 (by omega)
  injection e with e; injection e with e3 e4
  subst e3 e4
  refine ⟨g, off + f * size, rfl, hg, fun j u hu => ?_⟩
  rw [List.getElem?_take] at hu
  split at hu
  · rw [List.getElem?_drop] at hu
    have := hc _ _ hu
    rw [Nat.add_assoc]; exact this
  · cases hu
theorem grpT_end' (bs : List Blk) (f j g : Nat) (h : j ≤ g) (he : j = g ∨ f + j = bs.length) : grpT bs f j = grpT bs f g := by
  rcases he with rfl | he
  · rfl
  · exact grpT_end bs f j g h (by omega)
set_option maxHeartbeats 2000000 in
theorem parity_any (ls : List Bs) (A : Option Addr) (cap : Nat) (w : World) (hs : Sl w A ls.length cap 1 (ls.map sv)) (hl : ls.length ≤ 100000) (ht : ∀ t ∈ ls, t.length ≤ 1500000) :
    Calls Tryz.prog 43 #[.slice A ls.length cap] w fun e w' => e = .returned (sv (parT ls)) ∧ Below w.heap.size w w' := by
  obtain ⟨i0, hi, hz0, hz1, hz2⟩ := info_parts info_str
  have HT := Go.Lib.hid ht
  have HS : Go.RowKit.Hid (∀ wr, Below w.heap.size w wr → Sl wr A ls.length cap 1 (ls.map sv)) := fun wr h => hs.below h
  have hcap := hs.1
  obtain ⟨n, hn⟩ : ∃ n, ls.length = n := ⟨_, rfl⟩
  go_enter Tryz.func43, Tryz.ntmps43
  rw [hn]
  go_wp2_with (at_make; go_must (refine wpList_make_full _ rfl _ _ 50 rfl w.heap.size 9 i0 (.string ⟨#[]⟩) 1 Tryz.underlying50 hi hz0 hz1 _ _ _ _ n rfl rfl (by omega) (by omega) (by rw [hz2]; omega) (by unfold maxLen; omega) (by omega) ?_); intro w2 hown hg1)
  have b2 : Below w.heap.size w w2 := (Below.refl _ _).grown hg1 (Nat.le_refl _) (by simp)
  rw [← hn] at *
  clear hg1 hs
  go_loopw [11] (fun i wr => ∃ k : Nat, i = .int .i64 (k : Int) ∧ k ≤ ls.length ∧ wr.ownsRow w.heap.size 9 1 (.slice (some ⟨w.heap.size, 0, none⟩) ls.length ls.length) ls.length (lnC ls k) ∧ Below w.heap.size w wr) (fun i _ => ls.length - (intOf i).toNat)
  case atStart =>
    refine ⟨0, rfl, by omega, ?_, b2⟩
    rw [lnC_zero, ← toList_madeCells_one]
    rw [Nat.mul_one] at hown
    exact hown
  case round =>
    obtain ⟨k, rfl, hk, hown, hb⟩ := hrel
    have hz := hb.size
    have hlt3 : w.heap.size < wr.heap.size := (hown.lt _ rfl).2
    by_cases hlt : k < ls.length
    · have hki : (k : Int) < ls.length := by omega
      obtain ⟨g, off, u, rfl, hg, hu, hc⟩ := Sl.at1 (HS.out wr hb) hlt
      rw [List.getElem?_map, List.getElem?_eq_getElem hlt] at hu
      simp at hu
      subst hu
      have htl := HT.out ls[k] (List.getElem_mem hlt)
      have HSET := Go.Lib.hid (lnC_set ls k hlt)
      have HCUR := Go.Lib.hid (lnC_cur ls k hlt)
      generalize ls[k] = t at *
      go_wp2_with fail
      refine (two_any _ _ (by omega) (by omega)).mono ?_
      rintro e w4 ⟨rfl, hb4⟩
      have z4 := hb4.size
      have o4 := owns_keep hown hb4
      have b4 := hb.trans (hb4.mono (by omega))
      have hfr := o4.frozenAt k
      have hcl := (o4.cellAt k (by omega)).trans HCUR.out
      have hst := o4.stored k (sv (two t.length))
      rw [HSET.out] at hst
      have HST := Go.Lib.hid hst
      have b5 : Below w.heap.size w (w4.setCell ⟨w.heap.size, k, none⟩ (sv (two t.length))) := b4.setCell (Nat.le_refl _) _
      clear hst hb4 hown o4 hb
      go_wp2
      go_roundw
      case rel => exact ⟨k + 1, by go_num, by omega, HST.out.1, b5⟩
      case measure => simp [intOf]; omega
    · have hki : ¬ (k : Int) < ls.length := by omega
      have hke : k = ls.length := by omega
      subst hke
      rw [lnC_full] at hown
      have S3 := own_Sl hown
      have hlg := longestB_le ls 1500000 HT.out
      have hlg2 := longestB_le _ 1500000 (lens_two HT.out)
      have cX := fun w A cap (h : Sl w A ls.length cap 1 (ls.map sv)) => xorTexts_any ls A cap w h hl HT.out
      have hll : (ls.map (fun t : Bs => two t.length)).length = ls.length := by simp
      have cY : ∀ w A cap (h : Sl w A ls.length cap 1 ((ls.map (fun t : Bs => two t.length)).map sv)), Calls Tryz.prog 66 #[.slice A ls.length cap] w fun e w' => e = .returned (sv (xorT (ls.map (fun t : Bs => two t.length)))) ∧ Below w.heap.size w w' := fun w A cap h => by
        have := xorTexts_any (ls.map (fun t : Bs => two t.length)) A cap w (by rw [hll]; exact h) (by rw [hll]; exact hl) (lens_two HT.out)
        rw [hll] at this; exact this
      rw [← xorT_length] at hlg hlg2
      have HPT : Go.RowKit.Hid (xorT (ls.map (fun t : Bs => two t.length)) ++ xorT ls = parT ls) := rfl
      have S4 := HS.out wr hb
      generalize xorT (ls.map (fun t : Bs => two t.length)) = X at *
      generalize (ls.map (fun t : Bs => two t.length)).map sv = xs at *
      generalize xorT ls = Y at *
      have hq : ¬ 9223372036854775807 < X.length + Y.length := by omega
      clear hll hown
      go_wp2_with fail
      refine (cY _ _ _ S3).mono ?_
      rintro e w2 ⟨rfl, hb2⟩
      have z2 := hb2.size
      have g2 := hb.trans (hb2.mono (by omega))
      have S5 := S4.below hb2
      clear hb2 hb S4 S3 cY
      go_wp2_with fail
      refine (cX _ _ _ S5).mono ?_
      rintro e w3 ⟨rfl, hb3⟩
      have z3 := hb3.size
      have g3 := g2.trans (hb3.mono (by omega))
      clear hb3 g2 S5 cX
      go_wp2
      go_ret
      exact ⟨by rw [← HPT.out]; simp [sv], g3⟩
set_option maxHeartbeats 4000000 in
theorem parityOf_any (l : Bs) (g : Int) (w : World) (hs : l.length ≤ 1500000) (hg0 : -9223372036854775808 ≤ g) (hg1 : g ≤ 9223372036854775807) :
    Calls Tryz.prog 16 #[sv l, .int .i64 g] w (PaRes (parB l g) w) := by
  obtain ⟨i, hi, hz0, hz1, hz2⟩ := info_parts info_str
  have cB := fun w => containerBlocks_any l w hs
  unfold PaRes
  have e0 : Go.RowKit.Hid (∀ w' : World, w'.ownsRow w.heap.size 9 1 (.slice none 0 0) 0 []) := fun w' => ⟨by simp, .inl ⟨rfl, rfl⟩⟩
  cases hB : blocksB l with
  | none =>
    rw [parB_none hB]
    rw [hB] at cB
    go_enter Tryz.func16, Tryz.ntmps16
    go_wp2_with fail
    refine (cB _).mono ?_
    rintro e w1 ⟨A1, c1, rfl, o1, hb1⟩
    go_wp2
    go_ret2
    exact ⟨none, 0, rfl, e0.out _, hb1⟩
  | some bs =>
    have hok := NumOk_mem (blocks_some hB).1
    have hlen := (blocks_short hB).2
    by_cases hg : 1 ≤ g ∧ g ≤ 40
    · obtain ⟨h1, h2⟩ := hg
      obtain ⟨n, rfl⟩ := Int.eq_ofNat_of_zero_le (by omega : 0 ≤ g)
      have HPB : Go.RowKit.Hid (parB l n = some (parL bs n (cnt bs.length n))) := parB_some hB (by omega) (by omega)
      rw [HPB.out]
      rw [hB] at cB
      have HOK := Go.Lib.hid hok
      have hn1 : 1 ≤ n := by omega
      have hn2 : n ≤ 40 := by omega
      have HCI : Go.RowKit.Hid (∀ m, bs.length ≤ m * n → (m = 0 ∨ (m - 1) * n < bs.length) → m = cnt bs.length n) := fun m h h' => cnt_is hn1 h h'
      simp only [Option.getD_some, Option.isSome_some, parL_length]
      clear HPB hB
      have HLE : Go.RowKit.Hid (∀ f : Nat, (parT (grpT bs f n)).length ≤ 76) := fun f => parT_bd hok
      have HGT : Go.RowKit.Hid (∀ f : Nat, (grpT bs f n).length ≤ 40 ∧ ∀ t ∈ grpT bs f n, t.length ≤ 1500000) := fun f => ⟨by rw [grpT_length]; omega, fun t ht => by have := grpT_le hok t ht; omega⟩
      go_enter Tryz.func16, Tryz.ntmps16
      go_wp2_with fail
      refine (cB _).mono ?_
      rintro e w1 ⟨A1, c1, rfl, o1, hb1⟩
      have z1 := hb1.size
      simp only [Option.getD_some] at o1
      have hc1 := (own_Sl o1).1
      have O1 := Go.Lib.hid o1
      clear hok o1 cB
      go_wp2
      go_loopw [8, 9] (fun o x wr => ∃ (A3 : Option Addr) (c3 m : Nat), o = .slice A3 m c3 ∧ x = .int .i64 ((m * n : Nat) : Int) ∧ (m = 0 ∨ (m - 1) * n < bs.length) ∧ wr.ownsRow w.heap.size 9 1 (.slice A3 m c3) m ((parL bs n m).map sv) ∧ wr.ownsRow w.heap.size 38 4 (.slice A1 bs.length c1) bs.length (bksV bs) ∧ Below w.heap.size w wr) (fun _ x _ => bs.length - (intOf x).toNat)
      case atStart => exact ⟨none, 0, 0, rfl, by simp, .inl rfl, e0.out _, O1.out, hb1⟩
      case round =>
        obtain ⟨A3, c3, m, rfl, rfl, hm, hown, hbo, hb⟩ := hrel
        have hbs := hb.size
        clear O1 hb1
        have hmm : m * 1 ≤ m * n := Nat.mul_le_mul_left _ hn1
        by_cases hlt : m * n < bs.length
        · have hki : ((m * n : Nat) : Int) < bs.length := by omega
          obtain ⟨wo, rfl⟩ : ∃ wo, wo = wr := ⟨wr, rfl⟩
          have HMS : Go.RowKit.Hid ((m + 1) * n = m * n + n) := by show _ = _; rw [Nat.add_mul]; omega
          have HSN : Go.RowKit.Hid ((parL bs n (m + 1)).map sv = (parL bs n m).map sv ++ [sv (parT (grpT bs (m * n) n))]) := by show _ = _; rw [parL_snoc, List.map_append]; rfl
          have hle := HLE.out (m * n)
          have hgt := HGT.out (m * n)
          obtain ⟨hgt1, hgt2⟩ := hgt
          have CP := Go.Lib.hid (fun A cap w hs => parity_any (grpT bs (m * n) n) A cap w hs (by omega) hgt2)
          have hGL := grpT_length bs (m * n) n
          generalize hT : parT (grpT bs (m * n) n) = T at *
          have hT := Go.Lib.hid hT
          clear hgt2
          generalize (parL bs n m).map sv = xs at *
          generalize hq : m * n = q at *
          have hm1 : m + 1 ≤ maxLen := by unfold maxLen; omega
          have hm2 : (m + 1) * 16 ≤ 140737488355328 := by omega
          obtain ⟨gb, off, hA1, hgb, _⟩ := (own_Sl hbo).bk hlt
          subst hA1
          have hqn : q + n ≤ 80 := by omega
          obtain ⟨L, hL⟩ : ∃ L : Nat, L = min n (bs.length - q) := ⟨_, rfl⟩
          have hmin : min ((q : Int) + n) (bs.length : Int) = (q : Int) + L := by omega
          have hL1 : q + L ≤ bs.length := by omega
          have hL2 : L = n ∨ q + L = bs.length := by omega
          have hL3 : L ≤ n := by omega
          rw [← hL] at hGL
          clear hL
          go_wp2
          all_goals first | rw [show ((q : Int) + n).toNat - q = L by omega] | rw [show bs.length - q = L by omega]
          all_goals
            go_loopw [10, 47] (fun o x wx => ∃ (A4 : Option Addr) (c4 j : Nat), o = .slice A4 j c4 ∧ x = .int .i64 (j : Int) ∧ j ≤ L ∧ wx.ownsRow wo.heap.size 9 1 (.slice A4 j c4) j ((grpT bs q j).map sv) ∧ Below wo.heap.size wo wx) (fun _ x _ => L - (intOf x).toNat)
            case atStart => exact ⟨none, 0, 0, rfl, rfl, by omega, by rw [grpT_zero]; exact ⟨by simp, .inl ⟨rfl, rfl⟩⟩, (by repeat (first | (with_reducible exact Below.refl _ _) | (with_reducible assumption) | (with_reducible refine Below.drew ?_) | (with_reducible refine Below.alloc ?_ (by first | omega | (simp <;> omega)) _) | (with_reducible refine Below.setCell ?_ (by first | omega | (simp <;> omega)) _) | (with_reducible refine belowN ?_ _)))⟩
            case round =>
              obtain ⟨A4, c4, j, rfl, rfl, hj, hown4, hb4⟩ := hrel
              have hbs4 := hb4.size
              by_cases hjl : j < L
              · have hji : (j : Int) < L := by omega
                have hjb : q + j < bs.length := by omega
                obtain ⟨gx, offx, hA, hgx, c0, c1', c2, c3'⟩ := ((own_Sl hbo).below hb4).bk hjb
                injection hA with hA
                injection hA with hA1 hA2
                subst hA1 hA2
                rw [show off + (q + j) * 4 = off + q * 4 + j * 4 by omega] at c0 c1' c2 c3'
                have hbok := HOK.out bs[q + j] (List.getElem_mem hjb)
                have htl := text_le hbok
                have cT : Go.RowKit.Hid (∀ w, Calls Tryz.prog 42 #[bkV bs[q + j]] w fun e w' => e = .returned (.tuple #[sv bs[q + j].text, .bool true]) ∧ Below w.heap.size w w') := fun w => by
                  refine (formatBlock_any bs[q + j] w (Blk.ok_sm hbok)).mono ?_
                  rintro e w' ⟨rfl, h⟩
                  exact ⟨by unfold fbRes; rw [if_pos hbok, hbok], h⟩
                have HSJ : Go.RowKit.Hid ((grpT bs q (j + 1)).map sv = (grpT bs q j).map sv ++ [sv bs[q + j].text]) := by show _ = _; rw [grpT_snoc bs q j hjb, List.map_append]; rfl
                clear hbok
                generalize bs[q + j].text = t at *
                generalize bs[q + j] = b at *
                obtain ⟨n2, r, n4, D⟩ := b
                simp only at c0 c1' c2 c3'
                generalize (grpT bs q j).map sv = ys at *
                have hm3 : j + 1 ≤ maxLen := by unfold maxLen; omega
                have hm4 : (j + 1) * 16 ≤ 140737488355328 := by omega
                clear hown hbo hb
                go_wp2_with fail
                refine (cT.out _).mono ?_
                rintro e w5 ⟨rfl, hb5⟩
                have z5 := hb5.size
                simp only [World.size_alloc] at z5
                have o5 := owns_keep (hown4.alloc _) hb5
                have g5 : Below wo.heap.size wo w5 := (hb4.alloc (by omega) _).trans (hb5.mono (by simp; omega))
                clear hb5 hown4 hb4 c0 c1' c2 c3'
                go_wp2_with (at_builtin; go_must (refine wpList_ap _ rfl _ _ 50 rfl (wo.heap.size) 9 i _ 1 16 Tryz.underlying50 hi hz0 hz1 hz2 rfl (by omega) _ _ _ rfl (o5.alloc _) _ 1 1 [sv t] rfl (Sl.newAt w5 #[sv t] _ 1 1 (by first | rfl | simp) (by simp) (by omega)) (by simp [Value.oneCell']) hm3 hm4 ?_ ?_))
                try (case refine_1 => first | omega | (simp <;> omega; done))
                intro A6 c6 w6 o6 hg6 _
                have g6 := app_below g5 hg6 (by omega) (fun k hk => by have := (o5.lt k hk).1; omega)
                have O6 := Go.Lib.hid o6
                clear hg6 o6 o5 g5
                go_wp2
                go_roundw
                case rel => exact ⟨A6, c6, j + 1, rfl, by go_num, by omega, by rw [HSJ.out]; exact O6.out, g6⟩
                case measure => simp [intOf]; omega
              · have hji : ¬ (j : Int) < L := by omega
                have hjL : j = L := by omega
                subst hjL
                have hge : grpT bs q j = grpT bs q n := grpT_end' bs q j n hL3 hL2
                rw [hge] at hown4
                have p4 := owns_keep hown hb4
                have q4 := owns_keep hbo hb4
                have g4 := hb.trans (hb4.mono (by omega))
                have S4 := own_Sl hown4
                rw [hGL] at CP
                clear hown hbo hb hb4 hown4 hge
                go_wp2_with fail
                refine (CP.out _ _ _ S4).mono ?_
                rintro e w5 ⟨rfl, hb5⟩
                have z5 := hb5.size
                have p5 := owns_keep p4 hb5
                have q5 := owns_keep q4 hb5
                have g5 := g4.trans (hb5.mono (by omega))
                clear hb5 g4 p4 q4 S4 CP
                go_wp2_with (at_builtin; go_must (refine wpList_ap _ rfl _ _ 50 rfl (w.heap.size) 9 i _ 1 16 Tryz.underlying50 hi hz0 hz1 hz2 rfl (by omega) _ _ _ rfl (p5.alloc _) _ 1 1 [sv T] rfl (Sl.newAt w5 #[sv T] _ 1 1 (by first | rfl | simp) (by simp) (by omega)) (by simp [Value.oneCell']) hm1 hm2 ?_ ?_))
                try (case refine_1 => first | omega | (simp <;> omega; done))
                intro A6 c6 w6 o6 hg6 _
                have g6 := app_below g5 hg6 (by omega) (fun k hk => by have := (p5.lt k hk).1; omega)
                have q6 := (q5.alloc _).kept hg6 (own_own2 q5 p5 (by decide))
                have O6 := Go.Lib.hid o6
                clear hg6 o6 p5 g5 q5
                go_wp2
                go_roundw
                case rel => exact ⟨A6, c6, m + 1, rfl, (by rw [HMS.out]; go_num), .inr (by rw [Nat.add_sub_cancel, hq]; omega), by rw [HSN.out]; exact O6.out, q6, g6⟩
                case measure => simp [intOf]; omega
        · have hki : ¬ ((m * n : Nat) : Int) < bs.length := by omega
          have he := HCI.out m (by omega) hm
          subst he
          go_wp2
          go_ret2
          exact ⟨A3, c3, rfl, hown, hb⟩
    · rw [parB_out hg]
      rw [hB] at cB
      have hcd : g < 1 ∨ ¬ g < 1 ∧ 40 < g := by omega
      rcases hcd with hcd | ⟨hcd, hcd2⟩
      all_goals
        go_enter Tryz.func16, Tryz.ntmps16
        go_wp2_with fail
        refine (cB _).mono ?_
        rintro e w1 ⟨A1, c1, rfl, o1, hb1⟩
        clear o1
        go_wp2
        go_ret2
        exact ⟨none, 0, rfl, e0.out _, hb1⟩
end Go.Proofs.YtfonokhafdflcaaGreat
