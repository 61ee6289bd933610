/- Walks: parities of the groups of a container's blocks, by the reference. -/
import Derived.Test.YtoogaalbnnlloaaGreatDoorGP3
import Derived.Test.YtoogaalbnnlloaaGreatDoorGB
namespace Go.Proofs.YtoogaalbnnlloaaGreatDoor
open Go.RowKit
set_option linter.unusedVariables false
set_option linter.unusedSimpArgs false
set_option maxRecDepth 100000
attribute [local go_sem high] run_index_S binOp_eql_S binOp_neq_S append_S toList_S size_S run_slice_S run_slice_from_S run_slice_to_S wrap64_byteAt wrap64_byteAt_mul bits_or_bytes convU conv1_some convU2 conv2_some
/-- It returns strings in a row of its own. -/
def TxRes (ls : List Bs) (w : World) (e : Ending) (w' : World) : Prop := ∃ A cap, e = .returned (.slice A ls.length cap) ∧ w'.ownsRow w.heap.size 9 1 (.slice A ls.length cap) ls.length (ls.map sv) ∧ Below w.heap.size w w'
/-- It returns parities and whether they are those of a container. -/
def PaRes (o : Option (List Bs)) (w : World) (e : Ending) (w' : World) : Prop := ∃ A cap, e = .returned (.tuple #[.slice A (o.getD []).length cap, .bool o.isSome]) ∧ w'.ownsRow w.heap.size 9 1 (.slice A (o.getD []).length cap) (o.getD []).length ((o.getD []).map sv) ∧ Below w.heap.size w w'
theorem Sl.bk {w : World} {A : Option Addr} {bs : List Blk} {cap : Nat} (h : Sl w A bs.length cap 4 (bksV bs)) {k : Nat} (hk : k < bs.length) : ∃ g off, A = some ⟨g, off, none⟩ ∧ g < w.heap.size ∧
    w.cell? ⟨g, off + k * 4, none⟩ = some (.int .i64 bs[k].num) ∧ w.cell? ⟨g, off + k * 4 + 1, none⟩ = some (.bool bs[k].raw) ∧ w.cell? ⟨g, off + k * 4 + 2, none⟩ = some (.int .i64 bs[k].size) ∧ w.cell? ⟨g, off + k * 4 + 3, none⟩ = some (.string ⟨bs[k].body.toArray⟩) := by
  obtain ⟨g, off, e, hg, hc⟩ := Sl.cellK h hk
  have hcs := bksV_at bs k hk
  exact ⟨g, off, e, hg, hc 0 _ hcs.1, hc 1 _ hcs.2.1, hc 2 _ hcs.2.2.1, hc 3 _ hcs.2.2.2⟩
theorem lens_two {ls : List Bs} (h : ∀ t ∈ ls, t.length ≤ 1500000) : ∀ t ∈ ls.map (fun t : Bs => two t.length), t.length ≤ 1500000 := by
  intro t ht
  obtain ⟨s, _, rfl⟩ := List.mem_map.1 ht
  rw [two_len]; omega
theorem parB_none {l : Bs} {g : Int} (h : blocksB l = none) : parB l g = none := by unfold parB; rw [h]; split <;> rfl
theorem parB_out {l : Bs} {g : Int} (h : ¬ (1 ≤ g ∧ g ≤ 40)) : parB l g = none := by unfold parB; rw [if_neg h]
theorem parB_some {l : Bs} {g : Nat} {bs : List Blk} (h : blocksB l = some bs) (h1 : 1 ≤ g) (h2 : g ≤ 40) : parB l g = some (parL bs g (cnt bs.length g)) := by unfold parB; rw [if_pos (by omega), h]; rfl
theorem own_own2 {w : World} {B B' : Nat} {e e' : TypeId} {s s' n n' : Nat} {v v' : Value} {xs xs' : List Value} (h : w.ownsRow B e s v n xs) (h' : w.ownsRow B' e' s' v' n' xs') (hne : e ≠ e') : v.ownBlock = none ∨ v.ownBlock ≠ v'.ownBlock := by
  rcases h.2 with ⟨rfl, _⟩ | ⟨g, cap, cur, rfl, _, hh, _⟩
  · exact .inl rfl
  · right
    rcases h'.2 with ⟨rfl, _⟩ | ⟨g', cap', cur', rfl, _, hh', _⟩
    · intro hc; cases hc
    · intro hc
      injection hc with hc
      have hc : g = g' := hc
      subst hc
      rw [hh] at hh'
      injection hh' with hh'
      injection hh' with _ hh'
      exact hne hh'
set_option maxHeartbeats 2000000 in
theorem l7Group_any (bs : List Blk) (f g : Nat) (A : Option Addr) (cap : Nat) (w : World) (hs : Sl w A bs.length cap 4 (bksV bs)) (hok : ∀ b ∈ bs, b.ok = true) (hl : bs.length ≤ 1000) (hf : f ≤ bs.length) (hg : g ≤ 40) :
    Calls Tryz.prog 35 #[.slice A bs.length cap, .int .i64 (f : Int), .int .i64 (g : Int)] w (TxRes (grpT bs f g) w) := by
  obtain ⟨i, hi, hz0, hz1, hz2⟩ := info_parts info_str
  have HOK := Go.Lib.hid hok
  have hcap := hs.1
  have hS : Go.RowKit.Hid (∀ wr, Below w.heap.size w wr → Sl wr A bs.length cap 4 (bksV bs)) := fun wr h => hs.below h
  unfold TxRes
  clear hs hok
  go_enter Tryz.func35, Tryz.ntmps35
  go_wp2
  have o0 := lit_own (base := w.heap.size) (size := 1) (Bk.new w #[] 9) (Nat.le_refl _)
  go_loopw [7, 8] (fun o x wr => ∃ (A3 : Option Addr) (c3 k : Nat), o = .slice A3 k c3 ∧ x = .int .i64 ((f + k : Nat) : Int) ∧ k ≤ g ∧ f + k ≤ bs.length ∧ wr.ownsRow w.heap.size 9 1 (.slice A3 k c3) k ((grpT bs f k).map sv) ∧ Below w.heap.size w wr) (fun _ x _ => f + g - (intOf x).toNat)
  case atStart => exact ⟨_, 0, 0, rfl, rfl, by omega, by omega, by rw [grpT_zero]; exact o0, (by repeat (first | (with_reducible exact Below.refl _ _) | (with_reducible assumption) | (with_reducible refine Below.drew ?_) | (with_reducible refine Below.alloc ?_ (by first | omega | (simp <;> omega)) _) | (with_reducible refine Below.setCell ?_ (by first | omega | (simp <;> omega)) _) | (with_reducible refine belowN ?_ _)))⟩
  case round =>
    obtain ⟨A3, c3, k, rfl, rfl, hk, hfk, hown, hb⟩ := hrel
    have hbs := hb.size
    clear o0
    by_cases hlt1 : k < g
    · have hgi : ((f + k : Nat) : Int) < (f : Int) + g := by omega
      by_cases hlt : f + k < bs.length
      · have hki : ((f + k : Nat) : Int) < bs.length := by omega
        have HSN : Go.RowKit.Hid ((grpT bs f (k + 1)).map sv = (grpT bs f k).map sv ++ [sv bs[f + k].text]) := by show _ = _; rw [grpT_snoc bs f k hlt, List.map_append]; rfl
        have hbo := HOK.out bs[f + k] (List.getElem_mem hlt)
        have htl := text_le hbo
        have cT : Go.RowKit.Hid (∀ w, Calls Tryz.prog 51 #[bkV bs[f + k]] w fun e w' => e = .returned (.string ⟨bs[f + k].text.toArray⟩) ∧ Below w.heap.size w w') := fun w => l5Text_any bs[f + k] w (Blk.ok_sm hbo)
        obtain ⟨g0, off, rfl, hg0, c0, c1, c2, c3'⟩ := (hS.out wr hb).bk hlt
        clear hbo
        generalize bs[f + k].text = t at *
        generalize bs[f + k] = b at *
        obtain ⟨n2, r, n4, D⟩ := b
        simp only at c0 c1 c2 c3'
        generalize (grpT bs f k).map sv = xs at *
        have hm1 : k + 1 ≤ maxLen := by unfold maxLen; omega
        have hm2 : (k + 1) * 16 ≤ 140737488355328 := by omega
        go_wp2_with fail
        refine (cT.out _).mono ?_
        rintro e w2 ⟨rfl, hb2⟩
        have z2 := hb2.size
        have o2 := owns_keep hown hb2
        have g2 := hb.trans (hb2.mono (by omega))
        clear hb2 hown hb c0 c1 c2 c3'
        go_wp2_with (at_builtin; go_must (refine wpList_ap _ rfl _ _ 23 rfl (w.heap.size) 9 i _ 1 16 Tryz.underlying23 hi hz0 hz1 hz2 rfl (by omega) _ _ _ rfl (o2.alloc _) _ 1 1 [sv t] rfl (Sl.newAt w2 #[sv t] _ 1 1 (by first | rfl | simp) (by simp) (by omega)) (by simp [Value.oneCell']) hm1 hm2 ?_ ?_))
        try (case refine_1 => first | omega | (simp <;> omega; done))
        intro A4 c4 w4 o4 hg4 _
        have g4 := app_below g2 hg4 (by omega) (fun k hk => by have := (o2.lt k hk).1; omega)
        have O4 := Go.Lib.hid o4
        clear hg4 o4 o2 g2
        go_wp2
        go_roundw
        case rel => exact ⟨A4, c4, k + 1, rfl, by go_num, by omega, by omega, by rw [HSN.out]; exact O4.out, g4⟩
        case measure => simp [intOf]; omega
      · have hki : ¬ ((f + k : Nat) : Int) < bs.length := by omega
        have HE := Go.Lib.hid (grpT_end bs f k g hk (by omega))
        have hlen : (grpT bs f g).length = k := by rw [grpT_length]; omega
        go_wp2
        go_ret
        rw [← HE.out]
        exact ⟨A3, c3, rfl, hown, hb⟩
    · have hgi : ¬ ((f + k : Nat) : Int) < (f : Int) + g := by omega
      have hke : k = g := by omega
      subst hke
      have hlen : (grpT bs f k).length = k := by rw [grpT_length]; omega
      go_wp2
      go_ret
      skip
      exact ⟨A3, c3, rfl, hown, hb⟩
set_option maxHeartbeats 2000000 in
theorem l7Parity_any (ls : List Bs) (A : Option Addr) (cap : Nat) (w : World) (hs : Sl w A ls.length cap 1 (ls.map sv)) (hl : ls.length ≤ 100000) (ht : ∀ t ∈ ls, t.length ≤ 1500000) :
    Calls Tryz.prog 34 #[.slice A ls.length cap] w fun e w' => e = .returned (sv (parT ls)) ∧ Below w.heap.size w w' := by
  obtain ⟨i, hi, hz0, hz1, hz2⟩ := info_parts info_str
  have HT := Go.Lib.hid ht
  have HS : Go.RowKit.Hid (∀ wr, Below w.heap.size w wr → Sl wr A ls.length cap 1 (ls.map sv)) := fun wr h => hs.below h
  have hcap := hs.1
  clear hs ht
  go_enter Tryz.func34, Tryz.ntmps34
  go_wp2
  have o0 := lit_own (base := w.heap.size) (size := 1) (Bk.new w #[] 9) (Nat.le_refl _)
  go_loopw [3, 4] (fun o x wr => ∃ (A3 : Option Addr) (c3 k : Nat), o = .slice A3 k c3 ∧ x = .int .i64 (k : Int) ∧ k ≤ ls.length ∧ wr.ownsRow w.heap.size 9 1 (.slice A3 k c3) k (((ls.take k).map (fun t : Bs => two t.length)).map sv) ∧ Below w.heap.size w wr) (fun _ x _ => ls.length - (intOf x).toNat)
  case atStart => exact ⟨_, 0, 0, rfl, rfl, by omega, by simpa using o0, (by repeat (first | (with_reducible exact Below.refl _ _) | (with_reducible assumption) | (with_reducible refine Below.drew ?_) | (with_reducible refine Below.alloc ?_ (by first | omega | (simp <;> omega)) _) | (with_reducible refine Below.setCell ?_ (by first | omega | (simp <;> omega)) _) | (with_reducible refine belowN ?_ _)))⟩
  case round =>
    obtain ⟨A3, c3, k, rfl, rfl, hk, hown, hb⟩ := hrel
    have hbs := hb.size
    clear o0
    by_cases hlt : k < ls.length
    · have hki : (k : Int) < ls.length := by omega
      obtain ⟨g, off, u, rfl, hg, hu, hc⟩ := Sl.at1 (HS.out wr hb) hlt
      rw [List.getElem?_map, List.getElem?_eq_getElem hlt] at hu
      simp at hu
      subst hu
      have htl := HT.out ls[k] (List.getElem_mem hlt)
      have HTK : Go.RowKit.Hid (((ls.take (k + 1)).map (fun t : Bs => two t.length)).map sv = ((ls.take k).map (fun t : Bs => two t.length)).map sv ++ [sv (two ls[k].length)]) := by
        show _ = _; rw [List.take_succ_eq_append_getElem hlt, List.map_append, List.map_append]; rfl
      generalize ls[k] = t at *
      generalize ((ls.take k).map (fun t : Bs => two t.length)).map sv = xs at *
      have hm1 : k + 1 ≤ maxLen := by unfold maxLen; omega
      have hm2 : (k + 1) * 16 ≤ 140737488355328 := by omega
      go_wp2_with fail
      refine (l4Two_any _ _ (by omega) (by omega)).mono ?_
      rintro e w2 ⟨rfl, hb2⟩
      have o2 := owns_keep hown hb2
      have g2 := hb.trans (hb2.mono (by omega))
      have hz2' := hb2.size
      clear hb2 hown hb hc
      go_wp2_with (at_builtin; go_must (refine wpList_ap _ rfl _ _ 23 rfl (w.heap.size) 9 i _ 1 16 Tryz.underlying23 hi hz0 hz1 hz2 rfl (by omega) _ _ _ rfl (o2.alloc _) _ 1 1 [sv (two t.length)] rfl (Sl.newAt w2 #[sv (two t.length)] _ 1 1 (by first | rfl | simp) (by simp) (by omega)) (by simp [Value.oneCell']) hm1 hm2 ?_ ?_))
      try (case refine_1 => first | omega | (simp <;> omega; done))
      intro A4 c4 w4 o4 hg4 _
      have g4 := app_below g2 hg4 (by omega) (fun k hk => by have := (o2.lt k hk).1; omega)
      have O4 := Go.Lib.hid o4
      clear hg4 o4 o2 g2
      go_wp2
      go_roundw
      case rel => exact ⟨A4, c4, k + 1, rfl, by go_num, by omega, by rw [HTK.out]; exact O4.out, g4⟩
      case measure => simp [intOf]; omega
    · have hki : ¬ (k : Int) < ls.length := by omega
      have hke : k = ls.length := by omega
      subst hke
      rw [List.take_length] at hown
      have S3 := own_Sl hown
      have hlg := longestB_le ls 1500000 HT.out
      have hlg2 := longestB_le _ 1500000 (lens_two HT.out)
      have cX := fun w A cap (h : Sl w A ls.length cap 1 (ls.map sv)) => sXorTexts_any ls A cap w h hl HT.out
      have hll : (ls.map (fun t : Bs => two t.length)).length = ls.length := by simp
      have cY : ∀ w A cap (h : Sl w A ls.length cap 1 ((ls.map (fun t : Bs => two t.length)).map sv)), Calls Tryz.prog 50 #[.slice A ls.length cap] w fun e w' => e = .returned (sv (xorT (ls.map (fun t : Bs => two t.length)))) ∧ Below w.heap.size w w' := fun w A cap h => by
        have := sXorTexts_any (ls.map (fun t : Bs => two t.length)) A cap w (by rw [hll]; exact h) (by rw [hll]; exact hl) (lens_two HT.out)
        rw [hll] at this; exact this
      rw [← xorT_length] at hlg hlg2
      have HPT : Go.RowKit.Hid (xorT (ls.map (fun t : Bs => two t.length)) ++ xorT ls = parT ls) := rfl
      have S4 := HS.out wr hb
      generalize xorT (ls.map (fun t : Bs => two t.length)) = X at *
      generalize (ls.map (fun t : Bs => two t.length)).map sv = xs at *
      generalize xorT ls = Y at *
      have hq : ¬ 9223372036854775807 < X.length + Y.length := by omega
      clear hll hown
      go_wp2_with fail
      refine (cY _ _ _ S3).mono ?_
      rintro e w2 ⟨rfl, hb2⟩
      have z2 := hb2.size
      have g2 := hb.trans (hb2.mono (by omega))
      have S5 := S4.below hb2
      clear hb2 hb S4 S3 cY
      go_wp2_with fail
      refine (cX _ _ _ S5).mono ?_
      rintro e w3 ⟨rfl, hb3⟩
      have z3 := hb3.size
      have g3 := g2.trans (hb3.mono (by omega))
      clear hb3 g2 S5 cX
      go_wp2
      go_ret
      exact ⟨by rw [← HPT.out]; simp [sv], g3⟩
set_option maxHeartbeats 2000000 in
theorem sParityOf_any (l : Bs) (g : Int) (w : World) (hs : l.length ≤ 1500000) (hg0 : -9223372036854775808 ≤ g) (hg1 : g ≤ 9223372036854775807) :
    Calls Tryz.prog 13 #[sv l, .int .i64 g] w (PaRes (parB l g) w) := by
  obtain ⟨i, hi, hz0, hz1, hz2⟩ := info_parts info_str
  have cB := fun w => l5Blocks_any l w hs
  unfold PaRes
  cases hB : blocksB l with
  | none =>
    rw [parB_none hB]
    rw [hB] at cB
    go_enter Tryz.func13, Tryz.ntmps13
    go_wp2_with fail
    have K0 := lit_own (base := w.heap.size) (size := 1) (Bk.new w #[] 9) (Nat.le_refl _)
    have g0 : Below w.heap.size w (w.alloc (.cells #[] 9)) := (by repeat (first | (with_reducible exact Below.refl _ _) | (with_reducible assumption) | (with_reducible refine Below.drew ?_) | (with_reducible refine Below.alloc ?_ (by first | omega | (simp <;> omega)) _) | (with_reducible refine Below.setCell ?_ (by first | omega | (simp <;> omega)) _) | (with_reducible refine belowN ?_ _)))
    refine (cB _).mono ?_
    rintro e w1 ⟨A1, c1, rfl, o1, hb1⟩
    have z1 := hb1.size
    have K1 := owns_keep K0 hb1
    have g1 := g0.trans (hb1.mono (by simp))
    go_wp2
    go_ret2
    exact ⟨_, 0, rfl, K1, g1⟩
  | some bs =>
    have hok := NumOk_mem (blocks_some hB).1
    have hlen := (blocks_short hB).2
    by_cases hg : 1 ≤ g ∧ g ≤ 40
    · obtain ⟨h1, h2⟩ := hg
      obtain ⟨n, rfl⟩ := Int.eq_ofNat_of_zero_le (by omega : 0 ≤ g)
      have HPB : Go.RowKit.Hid (parB l n = some (parL bs n (cnt bs.length n))) := parB_some hB (by omega) (by omega)
      rw [HPB.out]
      rw [hB] at cB
      have HOK := Go.Lib.hid hok
      have hn1 : 1 ≤ n := by omega
      have hn2 : n ≤ 40 := by omega
      have HCI : Go.RowKit.Hid (∀ m, bs.length ≤ m * n → (m = 0 ∨ (m - 1) * n < bs.length) → m = cnt bs.length n) := fun m h h' => cnt_is hn1 h h'
      simp only [Option.getD_some, Option.isSome_some, parL_length]
      clear HPB hB
      have hcd : decide ((1 : Int) ≤ n ∧ (n : Int) ≤ 40) = true := by simp; omega
      have cI := l1In_any
      have HLE : Go.RowKit.Hid (∀ f : Nat, (parT (grpT bs f n)).length ≤ 76) := fun f => parT_bd hok
      have HGT : Go.RowKit.Hid (∀ f : Nat, (grpT bs f n).length ≤ 40 ∧ ∀ t ∈ grpT bs f n, t.length ≤ 1500000) := fun f => ⟨by rw [grpT_length]; omega, fun t ht => by have := grpT_le hok t ht; omega⟩
      go_enter Tryz.func13, Tryz.ntmps13
      go_wp2_with fail
      have K0 := lit_own (base := w.heap.size) (size := 1) (Bk.new w #[] 9) (Nat.le_refl _)
      have g0 : Below w.heap.size w (w.alloc (.cells #[] 9)) := (by repeat (first | (with_reducible exact Below.refl _ _) | (with_reducible assumption) | (with_reducible refine Below.drew ?_) | (with_reducible refine Below.alloc ?_ (by first | omega | (simp <;> omega)) _) | (with_reducible refine Below.setCell ?_ (by first | omega | (simp <;> omega)) _) | (with_reducible refine belowN ?_ _)))
      refine (cB _).mono ?_
      rintro e w1 ⟨A1, c1, rfl, o1, hb1⟩
      have z1 := hb1.size
      have K1 := owns_keep K0 hb1
      have g1 := g0.trans (hb1.mono (by simp))
      simp only [Option.getD_some] at o1
      have O1 := own_mono o1 (by simp : w.heap.size ≤ (w.alloc (.cells #[] 9)).heap.size)
      have hc1 := (own_Sl o1).1
      have hzw1 : w.heap.size ≤ w1.heap.size := by simp at z1; omega
      have cG := Go.Lib.hid (fun f w hs hf => l7Group_any bs f n A1 c1 w hs HOK.out (by omega) hf hn2)
      clear hok o1 hb1 z1 K0 g0 cB
      go_wp2_with (first | (go_at_call 33; refine (cI _ _ _ _).mono ?_; rintro e w' ⟨rfl, rfl⟩))
      go_loopw [6, 9] (fun o x wr => ∃ (A3 : Option Addr) (c3 m : Nat), o = .slice A3 m c3 ∧ x = .int .i64 ((m * n : Nat) : Int) ∧ (m = 0 ∨ (m - 1) * n < bs.length) ∧ wr.ownsRow w.heap.size 9 1 (.slice A3 m c3) m ((parL bs n m).map sv) ∧ wr.ownsRow w.heap.size 77 4 (.slice A1 bs.length c1) bs.length (bksV bs) ∧ Below w.heap.size w wr) (fun _ x _ => bs.length - (intOf x).toNat)
      case atStart => exact ⟨_, 0, 0, rfl, by simp, .inl rfl, K1, O1, g1⟩
      case round =>
        obtain ⟨A3, c3, m, rfl, rfl, hm, hown, hbo, hb⟩ := hrel
        have hbs := hb.size
        clear O1 K1
        have hmm : m * 1 ≤ m * n := Nat.mul_le_mul_left _ hn1
        by_cases hlt : m * n < bs.length
        · have hki : ((m * n : Nat) : Int) < bs.length := by omega
          have HMS : Go.RowKit.Hid ((m + 1) * n = m * n + n) := by show _ = _; rw [Nat.add_mul]; omega
          have HSN : Go.RowKit.Hid ((parL bs n (m + 1)).map sv = (parL bs n m).map sv ++ [sv (parT (grpT bs (m * n) n))]) := by show _ = _; rw [parL_snoc, List.map_append]; rfl
          have hle := HLE.out (m * n)
          have CG := cG.out (m * n) wr (own_Sl hbo) (by omega)
          have hgt := HGT.out (m * n)
          obtain ⟨hgt1, hgt2⟩ := hgt
          have CP := Go.Lib.hid (fun A cap w hs => l7Parity_any (grpT bs (m * n) n) A cap w hs (by omega) hgt2)
          unfold TxRes at CG
          clear hgt2
          generalize parT (grpT bs (m * n) n) = T at *
          generalize grpT bs (m * n) n = GR at *
          generalize (parL bs n m).map sv = xs at *
          generalize hq : m * n = q at *
          have hm1 : m + 1 ≤ maxLen := by unfold maxLen; omega
          have hm2 : (m + 1) * 16 ≤ 140737488355328 := by omega
          go_wp2_with fail
          refine CG.mono ?_
          rintro e w2 ⟨A2, c2, rfl, o2, hb2⟩
          have z2 := hb2.size
          have p2 := owns_keep hown hb2
          have q2 := owns_keep hbo hb2
          have g2 := hb.trans (hb2.mono (by omega))
          have S2 := own_Sl o2
          clear hb2 hown hbo hb o2 CG
          go_wp2_with fail
          refine (CP.out _ _ _ S2).mono ?_
          rintro e w3 ⟨rfl, hb3⟩
          have z3 := hb3.size
          have p3 := owns_keep p2 hb3
          have q3 := owns_keep q2 hb3
          have g3 := g2.trans (hb3.mono (by omega))
          clear hb3 g2 p2 q2 S2 CP
          go_wp2_with (at_builtin; go_must (refine wpList_ap _ rfl _ _ 23 rfl (w.heap.size) 9 i _ 1 16 Tryz.underlying23 hi hz0 hz1 hz2 rfl (by omega) _ _ _ rfl (p3.alloc _) _ 1 1 [sv T] rfl (Sl.newAt w3 #[sv T] _ 1 1 (by first | rfl | simp) (by simp) (by omega)) (by simp [Value.oneCell']) hm1 hm2 ?_ ?_))
          try (case refine_1 => first | omega | (simp <;> omega; done))
          intro A4 c4 w4 o4 hg4 _
          have g4 := app_below g3 hg4 (by omega) (fun k hk => by have := (p3.lt k hk).1; omega)
          have q4 := (q3.alloc _).kept hg4 (own_own2 q3 p3 (by decide))
          have O4 := Go.Lib.hid o4
          clear hg4 o4 p3 g3 q3
          go_wp2
          go_roundw
          case rel => exact ⟨A4, c4, m + 1, rfl, (by rw [HMS.out]; go_num), .inr (by rw [Nat.add_sub_cancel, hq]; omega), by rw [HSN.out]; exact O4.out, q4, g4⟩
          case measure => simp [intOf]; omega
        · have hki : ¬ ((m * n : Nat) : Int) < bs.length := by omega
          have he := HCI.out m (by omega) hm
          subst he
          go_wp2
          go_ret2
          exact ⟨A3, c3, rfl, hown, hb⟩
    · rw [parB_out hg]
      rw [hB] at cB
      have hcd : decide ((1 : Int) ≤ g ∧ g ≤ 40) = false := by simpa using hg
      have cI := l1In_any
      go_enter Tryz.func13, Tryz.ntmps13
      go_wp2_with fail
      have K0 := lit_own (base := w.heap.size) (size := 1) (Bk.new w #[] 9) (Nat.le_refl _)
      have g0 : Below w.heap.size w (w.alloc (.cells #[] 9)) := (by repeat (first | (with_reducible exact Below.refl _ _) | (with_reducible assumption) | (with_reducible refine Below.drew ?_) | (with_reducible refine Below.alloc ?_ (by first | omega | (simp <;> omega)) _) | (with_reducible refine Below.setCell ?_ (by first | omega | (simp <;> omega)) _) | (with_reducible refine belowN ?_ _)))
      refine (cB _).mono ?_
      rintro e w1 ⟨A1, c1, rfl, o1, hb1⟩
      have z1 := hb1.size
      have K1 := owns_keep K0 hb1
      have g1 := g0.trans (hb1.mono (by simp))
      clear hb1 o1
      go_wp2_with (first | (go_at_call 33; refine (cI _ _ _ _).mono ?_; rintro e w' ⟨rfl, rfl⟩))
      go_ret2
      exact ⟨_, 0, rfl, K1, g1⟩
end Go.Proofs.YtoogaalbnnlloaaGreatDoor
