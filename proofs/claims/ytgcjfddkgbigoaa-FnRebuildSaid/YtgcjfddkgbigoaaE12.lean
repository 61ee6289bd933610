/- Walks: the law of restored blocks. -/
import Derived.Test.YtgcjfddkgbigoaaE10
import Derived.Test.YtgcjfddkgbigoaaE11
import Derived.Test.YtgcjfddkgbigoaaFp
namespace Go.Proofs.Ytgcjfddkgbigoaa
open Go.RowKit
set_option linter.unusedSimpArgs false
set_option linter.unusedVariables false
set_option maxRecDepth 100000
attribute [local go_sem high] run_index_S binOp_eql_S binOp_neq_S append_S toList_S size_S run_slice_S run_slice_from_S run_slice_to_S wrap64_byteAt wrap64_byteAt_mul bits_or_bytes convU conv1_some convU2 conv2_some
set_option maxHeartbeats 1000000 in
theorem soTexts_same (ls : List Bs) (A : Option Addr) (cap : Nat) (A' : Option Addr) (cap' : Nat) (w : World) (hs : SlS w A cap ls) (hs' : SlS w A' cap' ls) (hl : ls.length ≤ 1000000) :
    Calls Try.prog 41 #[.slice A ls.length cap, .slice A' ls.length cap'] w fun e w' => e = .returned (.bool true) ∧ Below w.heap.size w w' := by
  go_enter Try.func41, Try.ntmps41
  go_wp2
  have hS : Go.RowKit.Hid (∀ wr, Below w.heap.size w wr → SlS wr A cap ls) := fun wr h => hs.below h
  have hS' : Go.RowKit.Hid (∀ wr, Below w.heap.size w wr → SlS wr A' cap' ls) := fun wr h => hs'.below h
  have hcap := hs.1
  have hcap' := hs'.1
  clear hs hs'
  go_loopw [5] (fun i wr => ∃ k : Nat, i = .int .i64 k ∧ k ≤ ls.length ∧ Below w.heap.size w wr) (fun i _ => ls.length - (intOf i).toNat)
  case atStart => exact ⟨0, rfl, by omega, (by repeat (first | (with_reducible exact Below.refl _ _) | (with_reducible assumption) | (with_reducible refine Below.drew ?_) | (with_reducible refine Below.alloc ?_ (by first | omega | (simp <;> omega)) _) | (with_reducible refine Below.setCell ?_ (by first | omega | (simp <;> omega)) _) | (with_reducible refine belowN ?_ _)))⟩
  case round =>
    obtain ⟨k, rfl, hk, hb⟩ := hrel
    have hws := hb.size
    by_cases hlt : k < ls.length
    · have hki : (k : Int) < ls.length := by omega
      obtain ⟨g, off, rfl, hg, c0⟩ := (hS.out wr hb).at hlt
      obtain ⟨g', off', rfl, hg', d0⟩ := (hS'.out wr hb).at hlt
      generalize ls[k] = t at *
      go_wp2_with fail
      go_quiet (fail)
      go_wp2
      go_roundw
      case rel => exact ⟨k + 1, by go_num, by omega, (by repeat (first | (with_reducible exact Below.refl _ _) | (with_reducible assumption) | (with_reducible refine Below.drew ?_) | (with_reducible refine Below.alloc ?_ (by first | omega | (simp <;> omega)) _) | (with_reducible refine Below.setCell ?_ (by first | omega | (simp <;> omega)) _) | (with_reducible refine belowN ?_ _)))⟩
      case measure => simp [intOf]; omega
    · have hki : ¬ (k : Int) < ls.length := by omega
      go_wp2
      go_ret
      exact ⟨rfl, (by repeat (first | (with_reducible exact Below.refl _ _) | (with_reducible assumption) | (with_reducible refine Below.drew ?_) | (with_reducible refine Below.alloc ?_ (by first | omega | (simp <;> omega)) _) | (with_reducible refine Below.setCell ?_ (by first | omega | (simp <;> omega)) _) | (with_reducible refine belowN ?_ _)))⟩
theorem soText_any (b : Blk) (w : World) (hb : b.ok = true) :
    Calls Try.prog 42 #[bkV b] w fun e w' => e = .returned (sv b.text) ∧ Below w.heap.size w w' := by
  have cT : ∀ w, Calls Try.prog 65 #[bkV b] w fun e w' => e = .returned (.tuple #[sv b.text, .bool true]) ∧ Below w.heap.size w w' := fun w => by
    refine (formatBlock_any b w (Blk.ok_sm hb)).mono ?_
    rintro e w' ⟨rfl, h⟩
    exact ⟨by unfold fbRes; rw [if_pos hb, hb], h⟩
  generalize b.text = t at *
  obtain ⟨n2, r, n4, D⟩ := b
  clear hb
  have K0 := Bk.new w (bkC ⟨n2, r, n4, D⟩) 32
  have X0 := K0.cell
  go_enter Try.func42, Try.ntmps42
  go_wp2_with fail
  refine (cT _).mono ?_
  rintro e w1 ⟨rfl, hb1⟩
  have g1 : Below w.heap.size w w1 := ((Below.refl _ _).alloc (Nat.le_refl _) _).trans (hb1.mono (by simp))
  go_wp2
  go_ret
  exact ⟨rfl, g1⟩
theorem fmtPar_some {ls : List Bs} (h : parOk ls = true) : decide (fmtPar ls = []) = false := by
  unfold fmtPar
  rw [if_pos h]
  unfold orDash
  split
  · rfl
  · rename_i h2; simpa using h2
theorem parL_ok {bs : List Blk} {n : Nat} (hok : ∀ b ∈ bs, b.ok = true) (hn : 1 ≤ n) (hl : bs.length ≤ 40) : parOk (parL bs n (cnt bs.length n)) = true := by
  unfold parOk
  simp only [Bool.and_eq_true, decide_eq_true_eq, List.all_eq_true]
  refine ⟨by rw [parL_length]; have := cnt_le (n := bs.length) hn; omega, fun l hl => ⟨parL_ge hok hn l hl, parL_bd hok l hl⟩⟩
theorem cnt_int {b n : Nat} (hn : 1 ≤ n) : ((b : Int) + n - 1) / n = (cnt b n : Int) := by
  unfold cnt
  rw [show (b : Int) + n - 1 = ((b + n - 1 : Nat) : Int) by omega]
  rfl
set_option maxHeartbeats 1000000 in
theorem law_Rebuild (bs : Bs) (A : Option Addr) (cap : Nat) (w : World) (hs : Sl w A bs.length cap 1 (bs.map u8v)) :
    Calls Try.prog 10 #[.slice A bs.length cap] w fun e w' => e = .returned (.bool true) ∧ Below w.heap.size w w' := by
  go_enter Try.func10, Try.ntmps10
  by_cases hl0 : 1048576 < bs.length
  · have hli : (1048576 : Int) < bs.length := by omega
    go_wp2
    go_ret
    exact ⟨rfl, Below.refl _ _⟩
  have hli0 : ¬ (1048576 : Int) < bs.length := by omega
  clear hl0
  go_wp2_with fail
  refine (drawParityOf_any bs A cap _ hs).mono ?_
  rintro e w1 ⟨⟨l, g, rfl, hl, hg0, hg1⟩, g1⟩
  have z1 := g1.size
  clear hs
  have cP := fun w => parityOf_any l g w (by omega) (by omega) (by omega)
  have cQ := fun w => sParityOf_any l g w (by omega) (by omega) (by omega)
  have cB := fun w => containerBlocks_any l w (by omega)
  have cT := soTexts_same
  unfold PaRes at cP cQ
  cases hPB : parB l g with
  | none =>
    rw [hPB] at cP cQ
    simp only [Option.getD_none, Option.isSome_none, List.length_nil] at cP cQ
    clear hPB cB
    go_wp2_with fail
    refine (cP _).mono ?_
    rintro e w2 ⟨A2, c2, rfl, o2, hb2⟩
    have z2 := hb2.size
    have g2 := g1.trans (hb2.mono (by omega))
    have S2 := own_Sl o2
    clear hb2 g1 o2 cP
    go_wp2_with fail
    refine (cQ _).mono ?_
    rintro e w3 ⟨A3, c3, rfl, o3, hb3⟩
    have z3 := hb3.size
    have g3 := g2.trans (hb3.mono (by omega))
    have T3 := own_Sl o3
    have S3 := S2.below hb3
    clear hb3 g2 o3 cQ S2
    go_wp2_with fail
    refine (cT [] _ _ _ _ _ S3 T3 (by simp)).mono ?_
    rintro e w4 ⟨rfl, hb4⟩
    have z4 := hb4.size
    have g4 := g3.trans (hb4.mono (by omega))
    have S4 := S3.below hb4
    have T4 := T3.below hb4
    clear hb4 g3 S3 T3
    go_wp2_with fail
    refine (cT [] _ _ _ _ _ S4 T4 (by simp)).mono ?_
    rintro e w5 ⟨rfl, hb5⟩
    have g5 := g4.trans (hb5.mono (by omega))
    go_wp2
    go_ret
    exact ⟨rfl, g5⟩
  | some ps =>
    obtain ⟨n, bks, hgn, hn1, hn2, hBk, hps⟩ : ∃ (n : Nat) (bks : List Blk), g = n ∧ 1 ≤ n ∧ n ≤ 40 ∧ blocksB l = some bks ∧ ps = parL bks n (cnt bks.length n) := by
      unfold parB at hPB
      split at hPB
      · next hc =>
        obtain ⟨n, rfl⟩ := Int.eq_ofNat_of_zero_le (by omega : 0 ≤ g)
        cases hb : blocksB l with
        | none => rw [hb] at hPB; cases hPB
        | some bks =>
          rw [hb] at hPB
          injection hPB with hPB
          exact ⟨n, bks, rfl, by omega, by omega, rfl, hPB.symm⟩
      · cases hPB
    subst hgn
    rw [hPB] at cP cQ
    unfold BksRes at cB
    rw [hBk] at cB
    have hok := NumOk_mem (blocks_some hBk).1
    have hlen := (blocks_short hBk).2
    have hpl : ps.length = cnt bks.length n := by rw [hps, parL_length]
    have hpok : parOk ps = true := by rw [hps]; exact parL_ok hok hn1 hlen
    have hcntle := cnt_le (n := bks.length) hn1
    have HCI := Go.Lib.hid (cnt_int (b := bks.length) hn1)
    have HPI : Go.RowKit.Hid (∀ i (h : i < bks.length), ∃ h2 : i / n < ps.length, ps[i / n] = parT (grpT bks (i / n * n) n)) := fun i h => by
      have h3 := lt_cnt hn1 h
      refine ⟨by omega, ?_⟩
      have := parL_at bks n (cnt bks.length n) (i / n) h3
      rw [← hps, List.getElem?_eq_getElem (by omega)] at this
      injection this
    have HLE : Go.RowKit.Hid (∀ f : Nat, (parT (grpT bks f n)).length ≤ 76) := fun f => parT_bd hok
    have HOK := Go.Lib.hid hok
    have cF := Go.Lib.hid (fun A cap w hs => iFormatParity_any ps A cap w hs (fun t ht => by rw [hps] at ht; have := parL_bd hok t ht; omega) (by omega))
    have hfm := fmtPar_some hpok
    simp only [Option.getD_some, Option.isSome_some] at cP cQ cB
    have hpl40 : ps.length ≤ 40 := by omega
    have HPL := Go.Lib.hid hpl
    clear hPB hBk hok hps hpok hpl hcntle
    generalize cnt bks.length n = m at *
    generalize fmtPar ps = FP at *
    go_wp2_with fail
    refine (cP _).mono ?_
    rintro e w2 ⟨A2, c2, rfl, o2, hb2⟩
    have z2 := hb2.size
    have g2 := g1.trans (hb2.mono (by omega))
    have S2 := SlS.of_own o2
    clear hb2 g1 o2 cP
    go_wp2_with fail
    refine (cQ _).mono ?_
    rintro e w3 ⟨A3, c3, rfl, o3, hb3⟩
    have z3 := hb3.size
    have g3 := g2.trans (hb3.mono (by omega))
    have T3 := SlS.of_own o3
    have S3 := S2.below hb3
    clear hb3 g2 o3 cQ S2
    go_wp2_with fail
    refine (cT ps _ _ _ _ _ S3 T3 (by omega)).mono ?_
    rintro e w4 ⟨rfl, hb4⟩
    have z4 := hb4.size
    have g4 := g3.trans (hb4.mono (by omega))
    have S4 := S3.below hb4
    clear hb4 g3 S3 T3
    go_wp2_with fail
    refine (cB _).mono ?_
    rintro e w5 ⟨A5, c5, rfl, o5, hb5⟩
    have z5 := hb5.size
    have g5 := g4.trans (hb5.mono (by omega))
    have S5 := S4.below hb5
    have B5 := own_Sl o5
    have hc5 := B5.1
    have hc2 := S5.1
    have HS : Go.RowKit.Hid (∀ wr, Below w5.heap.size w5 wr → SlS wr A2 c2 ps) := fun wr h => S5.below h
    have HB : Go.RowKit.Hid (∀ wr, Below w5.heap.size w5 wr → Sl wr A5 bks.length c5 4 (bksV bks)) := fun wr h => B5.below h
    clear hb5 g4 S4 o5 cB S5 B5
    have hn0 : ¬ (n : Int) = 0 := by omega
    go_wp2
    go_loopw [11] (fun i wr => ∃ k : Nat, i = .int .i64 (k : Int) ∧ k ≤ bks.length ∧ Below w5.heap.size w5 wr) (fun i _ => bks.length - (intOf i).toNat)
    case atStart => exact ⟨0, rfl, by omega, (by repeat (first | (with_reducible exact Below.refl _ _) | (with_reducible assumption) | (with_reducible refine Below.drew ?_) | (with_reducible refine Below.alloc ?_ (by first | omega | (simp <;> omega)) _) | (with_reducible refine Below.setCell ?_ (by first | omega | (simp <;> omega)) _) | (with_reducible refine belowN ?_ _)))⟩
    case round =>
      obtain ⟨i, rfl, hi, hb⟩ := hrel
      have hz := hb.size
      by_cases hlt : i < bks.length
      · have hii : (i : Int) < bks.length := by omega
        obtain ⟨hq2, hpi⟩ := HPI.out i hlt
        have hdm := Nat.div_add_mod i n
        have hml := Nat.mod_lt i (show 0 < n by omega)
        have hdi : (i : Int) / (n : Int) = ((i / n : Nat) : Int) := rfl
        have hle := HLE.out (i / n * n)
        obtain ⟨gq, oq, hA2, hgq, hcq⟩ := (HS.out wr hb).at hq2
        rw [hpi] at hcq
        have hRB : Go.RowKit.Hid (∀ j, i < i / n * n + j → i / n * n + j ≤ bks.length → j ≤ n → (j = n ∨ i / n * n + j = bks.length) → rebuildT (oth bks (i / n * n) i j) (parT (grpT bks (i / n * n) n)) = some bks[i].text) :=
          fun j h1 h2 h3 h4 => rebuild_grp HOK.out hlen (by rw [Nat.mul_comm]; omega) h1 h2 h3 h4
        have hff : i / n * n ≤ i := by rw [Nat.mul_comm]; omega
        have hfn : i < i / n * n + n := by rw [Nat.mul_comm]; omega
        have hmi : ((i / n : Nat) : Int) * n = ((i / n * n : Nat) : Int) := by push_cast; rfl
        subst hA2
        clear hpi hdm hml
        generalize i / n * n = f at *
        generalize i / n = q at *
        generalize parT (grpT bks f n) = T at *
        have hq2i : (q : Int) < ps.length := by omega
        have HX : Go.RowKit.Hid (∀ (k : Nat) (h : k < bks.length) w, Calls Try.prog 42 #[bkV bks[k]] w fun e w' => e = .returned (sv bks[k].text) ∧ Below w.heap.size w w') := fun k h w => soText_any bks[k] w (HOK.out _ (List.getElem_mem h))
        obtain ⟨wo, rfl⟩ : ∃ wo, wo = wr := ⟨wr, rfl⟩
        have o0 : (wo.alloc (.cells #[] 9)).ownsRow wo.heap.size 9 1 (.slice (some ⟨wo.heap.size, 0, none⟩) 0 0) 0 [] := lit_own (Bk.new wo #[] _) (Nat.le_refl _)
        have gA : Below wo.heap.size wo (wo.alloc (.cells #[] 9)) := (by repeat (first | (with_reducible exact Below.refl _ _) | (with_reducible assumption) | (with_reducible refine Below.drew ?_) | (with_reducible refine Below.alloc ?_ (by first | omega | (simp <;> omega)) _) | (with_reducible refine Below.setCell ?_ (by first | omega | (simp <;> omega)) _) | (with_reducible refine belowN ?_ _)))
        go_wp2
        go_loopw [12, 13] (fun o x wx => ∃ (A6 : Option Addr) (c6 j : Nat), o = .slice A6 (oth bks f i j).length c6 ∧ x = .int .i64 ((f + j : Nat) : Int) ∧ j ≤ n ∧ f + j ≤ bks.length ∧ wx.ownsRow wo.heap.size 9 1 (.slice A6 (oth bks f i j).length c6) (oth bks f i j).length ((oth bks f i j).map sv) ∧ Below wo.heap.size wo wx) (fun _ x _ => bks.length - (intOf x).toNat)
        case atStart => exact ⟨some ⟨wo.heap.size, 0, none⟩, 0, 0, by rw [oth_zero _ hff]; rfl, by simp, by omega, by omega, by rw [oth_zero _ hff]; exact o0, gA⟩
        case round =>
          obtain ⟨A6, c6, j, rfl, rfl, hj, hfj, hown, hb6⟩ := hrel
          have hz6 := hb6.size
          have hol := oth_len bks j hff
          have hb56 := hb.trans (hb6.mono hz)
          clear o0 gA
          by_cases hc : f + j < bks.length ∧ j < n
          · obtain ⟨h1, h2⟩ := hc
            have h1i : ((f + j : Nat) : Int) < bks.length := by omega
            have h2i : ((f + j : Nat) : Int) < (f : Int) + n := by omega
            by_cases h3 : f + j = i
            · have h3i : (((f + j : Nat) : Int) != (i : Int)) = false := by simp; omega
              have HS1 := Go.Lib.hid (oth_self bks h3)
              generalize oth bks f i j = os at *
              clear h3
              go_wp2
              go_roundw
              case rel => exact ⟨A6, c6, j + 1, by rw [HS1.out], by go_num, by omega, by omega, by rw [HS1.out]; exact hown, hb6⟩
              case measure => simp [intOf]; omega
            · have h3i : (((f + j : Nat) : Int) != (i : Int)) = true := by simp; omega
              have HS1 := Go.Lib.hid (oth_next bks h3 h1)
              have CX := HX.out (f + j) h1
              obtain ⟨gx, ox, rfl, hgx, c0, c1, c2', c3'⟩ := (HB.out wr hb56).bk h1
              generalize bks[f + j].text = t at *
              generalize bks[f + j] = b at *
              obtain ⟨x2, r, x4, D⟩ := b
              simp only at c0 c1 c2' c3'
              generalize oth bks f i j = os at *
              have hm1 : os.length + 1 ≤ maxLen := by unfold maxLen; omega
              have hm2 : (os.length + 1) * 16 ≤ 140737488355328 := by omega
              obtain ⟨i1, hi1, hz01, hz11, hz21⟩ := info_parts info_str
              clear h3
              go_wp2_with fail
              refine (CX _).mono ?_
              rintro e w7 ⟨rfl, hb7⟩
              have z7 := hb7.size
              have o7 := owns_keep hown hb7
              have g7 := hb6.trans (hb7.mono hz6)
              clear hb7 hb6 hb56 hown c0 c1 c2' c3' CX
              go_wp2_with (at_builtin; go_must (refine wpList_ap _ rfl _ _ 59 rfl (wo.heap.size) 9 i1 _ 1 16 Try.underlying59 hi1 hz01 hz11 hz21 rfl (by omega) _ _ _ rfl (o7.alloc _) _ 1 1 [sv t] rfl (Sl.newAt w7 #[sv t] _ 1 1 (by first | rfl | simp) (by simp) (by omega)) (by simp [Value.oneCell']) hm1 hm2 ?_ ?_))
              try (case refine_1 => first | omega | (simp <;> omega; done))
              intro A8 c8 w8 o8 hg8 _
              have g8 := app_below g7 hg8 (by omega) (fun k hk => by have := (o7.lt k hk).1; omega)
              have O8 := Go.Lib.hid o8
              clear hg8 o8 o7 g7
              go_wp2
              go_roundw
              case rel => exact ⟨A8, c8, j + 1, by rw [HS1.out, List.length_append]; rfl, by go_num, by omega, by omega, by rw [HS1.out, List.length_append, List.map_append]; exact O8.out, g8⟩
              case measure => simp [intOf]; omega
          · have hex : j = n ∨ f + j = bks.length := by omega
            have hr := hRB.out j (by omega) hfj hj hex
            have CR := rebuildText_any (oth bks f i j) T A6 c6 wr (own_Sl hown) (by omega) (by omega) (fun t ht => by have := oth_le HOK.out t ht; omega)
            rw [hr] at CR
            unfold rbRes at CR
            have hd : ¬ ((f + j : Nat) : Int) < bks.length ∨ ((f + j : Nat) : Int) < bks.length ∧ ¬ ((f + j : Nat) : Int) < (f : Int) + n := by omega
            have hcq6 := (hb6.cell (p := ⟨gq, oq + q, none⟩) hgq).trans hcq
            have CX := HX.out i hlt
            have HC := Go.Lib.hid (fun w (h : Below w5.heap.size w5 w) => (HB.out w h).bk hlt)
            generalize bks[i].text = t at *
            generalize bks[i] = b at *
            obtain ⟨x2, r, x4, D⟩ := b
            generalize oth bks f i j = os at *
            clear hr hex hown hc
            rcases hd with hd | ⟨hd, hd2⟩
            all_goals
              go_wp2_with fail
              refine CR.mono ?_
              rintro e w7 ⟨rfl, hb7⟩
              have z7 := hb7.size
              have g7 := hb56.trans (hb7.mono (by omega))
              obtain ⟨gx, ox, rfl, hgx, c0, c1, c2', c3'⟩ := HC.out w7 g7
              try simp only at c0 c1 c2' c3'
              clear hb7 hb56 hb6 CR hcq6
              go_wp2_with fail
              refine (CX _).mono ?_
              rintro e w8 ⟨rfl, hb8⟩
              have z8 := hb8.size
              have g8 := g7.trans (hb8.mono (by omega))
              clear hb8 g7 CX
              go_wp2
              go_roundw
              case rel => exact ⟨i + 1, by go_num, by omega, g8⟩
              case measure => simp [intOf]; omega
      · have hii : ¬ (i : Int) < bks.length := by omega
        have hc1 := HCI.out
        have hpm : ((ps.length : Int) == (m : Int)) = true := by rw [HPL.out]; simp
        by_cases hp0 : ps.length = 0
        · have hp1 : ((ps.length : Int) == 0) = true := by rw [hp0]; rfl
          clear hp0
          go_wp2
          go_ret
          exact ⟨ret_bool (by first | rfl | simp), g5.trans (hb.mono (by omega))⟩
        · have hp1 : ((ps.length : Int) == 0) = false := by simpa using hp0
          clear hp0
          have S6 := HS.out wr hb
          go_wp2_with fail
          refine (cF.out _ _ _ S6).mono ?_
          rintro e w6 ⟨rfl, hb6⟩
          go_wp2
          go_ret
          exact ⟨ret_bool (by first | rfl | simp), (g5.trans (hb.mono (by omega))).trans (hb6.mono (by omega))⟩
end Go.Proofs.Ytgcjfddkgbigoaa
