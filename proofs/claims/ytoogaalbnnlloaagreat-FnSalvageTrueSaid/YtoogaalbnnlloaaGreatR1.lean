/- Walks: the data of all blocks, of a container, of a block; the pieces of what is found: by the reference. -/
import Derived.Test.YtoogaalbnnlloaaGreatGU1
import Derived.Test.YtoogaalbnnlloaaGreatGS5
import Derived.Deep.Cut
namespace Go.Proofs.YtoogaalbnnlloaaGreat
open Go.RowKit
set_option linter.unusedVariables false
set_option linter.unusedSimpArgs false
set_option maxRecDepth 100000
attribute [local go_sem high] run_index_S binOp_eql_S binOp_neq_S append_S toList_S size_S run_slice_S run_slice_from_S run_slice_to_S wrap64_byteAt wrap64_byteAt_mul bits_or_bytes convU conv1_some convU2 conv2_some
set_option maxHeartbeats 1000000 in
theorem l5All_any (o l m : Int) (dict : Bs) (bs : List Blk) (A : Option Addr) (cap : Nat) (w : World) (hf : fits o l m dict) (hs : Sl w A bs.length cap 4 (bksV bs)) (hok : ∀ b ∈ bs, b.ok = true) (hl : bs.length ≤ 100000) :
    Calls Tryz.prog 126 #[.agg #[.int .i64 o, .int .i64 l, .int .i64 m], sv dict, .slice A bs.length cap] w fun e w' => e = datRes (datsB (startW o l m dict) bs) ∧ Below w.heap.size w w' := by
  have cL : Go.RowKit.Hid (∀ b w, b.ok = true → Calls Tryz.prog 66 #[.agg #[.int .i64 o, .int .i64 l, .int .i64 m], sv dict, bkV b] w fun e w' => e = datRes (b.dat (startW o l m dict)) ∧ Below w.heap.size w w') := fun b w h => l5Data_any o l m dict b w hf (by have := ok_body h; omega)
  clear hf
  generalize startW o l m dict = K at *
  have hcap := hs.1
  have hcap2 := hs.2.1
  have HOK := Go.Lib.hid hok
  clear hok
  have HSL : Go.RowKit.Hid (∀ wr, Below w.heap.size w wr → Sl wr A bs.length cap 4 (bksV bs)) := fun wr h => hs.below h
  clear hs
  obtain ⟨R, hR⟩ : ∃ R, datsB K bs = R := ⟨_, rfl⟩
  rw [hR]
  have HR := Go.Lib.hid hR
  clear hR
  go_enter Tryz.func126, Tryz.ntmps126
  have hK0 : Bk (w.alloc (.cells #[.int .i64 o, .int .i64 l, .int .i64 m] 38)) w.heap.size 38 #[.int .i64 o, .int .i64 l, .int .i64 m] := (by (repeat (first | (with_reducible assumption) | (with_reducible exact Bk.new _ _ _) | (with_reducible refine Bk.newAt _ _ _ (by simp; done)) | (with_reducible refine Bk.drew ?_) | (with_reducible refine Bk.drewN ?_ _) | (with_reducible refine Bk.alloc ?_ _))); done)
  have g0 : Below w.heap.size w (w.alloc (.cells #[.int .i64 o, .int .i64 l, .int .i64 m] 38)) := (by repeat (first | (with_reducible exact Below.refl _ _) | (with_reducible assumption) | (with_reducible refine Below.drew ?_) | (with_reducible refine Below.alloc ?_ (by first | omega | (simp <;> omega)) _) | (with_reducible refine Below.setCell ?_ (by first | omega | (simp <;> omega)) _) | (with_reducible refine belowN ?_ _)))
  go_upto_region 1 with (fail)
  generalize w.alloc (.cells #[.int .i64 o, .int .i64 l, .int .i64 m] 38) = w0 at *
  go_wp2
  go_loopw [8, 9] (fun a i wr => ∃ (k : Nat) (X : Bs), a = sv X ∧ i = .int .i64 (k : Int) ∧ k ≤ bs.length ∧ X.length ≤ 64 * k ∧ Go.RowKit.Hid (datsB K (bs.take k) = some X) ∧ Bk wr w.heap.size 38 #[.int .i64 o, .int .i64 l, .int .i64 m] ∧ Below w.heap.size w wr) (fun _ i _ => bs.length - (intOf i).toNat)
  case atStart => exact ⟨0, [], rfl, rfl, by omega, by simp, rfl, hK0, g0⟩
  case round =>
    obtain ⟨k, X, rfl, rfl, hk, hX, HX, hB, hb⟩ := hrel
    clear hK0 g0
    have hz := hb.size
    have hlt0 := hB.lt
    have hXc := hB.cell
    by_cases hlt : k < bs.length
    · have hki : (k : Int) < bs.length := by omega
      obtain ⟨g, off, rfl, hg, hc⟩ := Sl.cellK (HSL.out wr hb) hlt
      have hcs := bksV_at bs k hlt
      have c0 := hc 0 _ hcs.1
      have c1 := hc 1 _ hcs.2.1
      have c2 := hc 2 _ hcs.2.2.1
      have c3 := hc 3 _ hcs.2.2.2
      have hbo := HOK.out bs[k] (List.getElem_mem hlt)
      have cD := fun w => cL.out bs[k] w hbo
      have HN : Go.RowKit.Hid (bs[k].dat K = none → R = none) := fun h => by rw [← HR.out]; exact datsB_stop hlt h
      have HS : Go.RowKit.Hid (∀ d, bs[k].dat K = some d → datsB K (bs.take (k + 1)) = some (X ++ d)) := fun d h => datsB_step hlt HX.out h
      have HL : Go.RowKit.Hid (∀ d, bs[k].dat K = some d → d.length ≤ 64) := fun d h => by have := dat_len hbo h; have := Blk.ok_size hbo; omega
      generalize bs[k].dat K = D at *
      generalize bs[k] = b at *
      obtain ⟨n2, r, n4, T⟩ := b
      simp only [Nat.add_zero] at c0 c1 c2 c3
      clear hc hcs HX hbo
      have hG := box_class hXc hlt0
      have C0 := fun d os => cell_regrown c0 d os
      have C1 := fun d os => cell_regrown c1 d os
      have C2 := fun d os => cell_regrown c2 d os
      have C3 := fun d os => cell_regrown c3 d os
      go_wp2_with fail
      refine wp_region_quiet_below (by kernel_rfl) (by kernel_rfl) ?_
      repeat (go_big_quiet_step ((go_at_call 66; exact Calls.regrown_of (cD _))))
      refine wpQuiet_nil ?_
      intro w2 hw2
      have hb2 : Below _ _ w2 := below_of_class hw2
      clear hw2
      have z2 := hb2.size
      have hB2 := hB.below hb2 hlt0
      have g2 := hb.trans (hb2.mono hz)
      clear cD hb2 hB hb c0 c1 c2 c3 hXc hG C0 C1 C2 C3
      cases D with
      | none =>
        have h := HN.out rfl
        subst h
        go_wp2
        exact bodyPost_ret (v := .tuple #[sv [], .bool false]) (by simp [results, Tryz.results126, go_sem]) rfl ⟨rfl, g2⟩
      | some d =>
        have HX2 := Go.Lib.hid (HS.out d rfl)
        have hdl := HL.out d rfl
        have hq : ¬ 9223372036854775807 < X.length + d.length := by omega
        have hxl : (X ++ d).length ≤ 64 * (k + 1) := by simp; omega
        have HXL := Go.Lib.hid hxl
        clear hxl HS HN HL
        go_wp2
        go_roundw
        case rel => exact ⟨k + 1, X ++ d, by simp [sv], by go_num, by omega, HXL.out, HX2, hB2, g2⟩
        case measure => simp [intOf]; omega
    · have hki : ¬ (k : Int) < bs.length := by omega
      have h : R = some X := by rw [← HR.out, ← HX.out, List.take_of_length_le (by omega)]
      subst h
      go_wp2
      exact bodyPost_ret (v := .tuple #[sv X, .bool true]) (by simp [results, Tryz.results126, go_sem]) rfl ⟨rfl, hb⟩
set_option maxHeartbeats 1000000 in
theorem sContainerData_any (o l m : Int) (dict t : Bs) (w : World) (hdl : dict.length ≤ 9223372036854775807) (htl : t.length ≤ 1500000) :
    Calls Tryz.prog 73 #[.agg #[.int .i64 o, .int .i64 l, .int .i64 m], sv dict, sv t] w fun e w' => e = datRes (cdB o l m dict t) ∧ Below w.heap.size w w' := by
  have cB := fun w => l5Blocks_any t w htl
  have cR := fun w => l5Ready_any o l m dict w hdl
  have HNO : Go.RowKit.Hid (¬ fits o l m dict → cdB o l m dict t = none) := fun h => cdB_no h
  have HNB : Go.RowKit.Hid (blocksB t = none → cdB o l m dict t = none) := fun h => cdB_none h
  have HY : Go.RowKit.Hid (∀ bs, fits o l m dict → blocksB t = some bs → cdB o l m dict t = datsB (startW o l m dict) bs) := fun bs h h2 => cdB_some h h2
  have HOK : Go.RowKit.Hid (∀ bs, blocksB t = some bs → (∀ b ∈ bs, b.ok = true) ∧ bs.length ≤ 40) := fun bs h => ⟨blocks_ok h, (blocks_short h).2⟩
  generalize cdB o l m dict t = R at *
  generalize blocksB t = BB at *
  go_enter Tryz.func73, Tryz.ntmps73
  have hK0 : Bk (w.alloc (.cells #[.int .i64 o, .int .i64 l, .int .i64 m] 38)) w.heap.size 38 #[.int .i64 o, .int .i64 l, .int .i64 m] := (by (repeat (first | (with_reducible assumption) | (with_reducible exact Bk.new _ _ _) | (with_reducible refine Bk.newAt _ _ _ (by simp; done)) | (with_reducible refine Bk.drew ?_) | (with_reducible refine Bk.drewN ?_ _) | (with_reducible refine Bk.alloc ?_ _))); done)
  have g0 : Below w.heap.size w (w.alloc (.cells #[.int .i64 o, .int .i64 l, .int .i64 m] 38)) := (by repeat (first | (with_reducible exact Below.refl _ _) | (with_reducible assumption) | (with_reducible refine Below.drew ?_) | (with_reducible refine Below.alloc ?_ (by first | omega | (simp <;> omega)) _) | (with_reducible refine Below.setCell ?_ (by first | omega | (simp <;> omega)) _) | (with_reducible refine belowN ?_ _)))
  go_upto_region 1 with (fail)
  generalize w.alloc (.cells #[.int .i64 o, .int .i64 l, .int .i64 m] 38) = w0 at *
  have hz0 := hK0.lt
  go_wp2_with fail
  refine (cB _).mono ?_
  rintro e w1 ⟨A1, c1, rfl, o1, hb1⟩
  have hz1 := hb1.size
  have hK1 := hK0.below hb1 hz0
  have g1 := g0.trans (hb1.mono (by omega))
  have s1 := own_Sl o1
  have hX1 := hK1.cell
  clear hb1 hK0 g0 o1 cB
  cases BB with
  | none =>
    have h := HNB.out rfl
    subst h
    go_wp2
    exact bodyPost_ret (v := .tuple #[sv [], .bool false]) (by simp [results, Tryz.results73, go_sem]) rfl ⟨rfl, g1⟩
  | some bs =>
    simp only [Option.getD_some, Option.isSome_some] at s1 ⊢
    by_cases hf : fits o l m dict
    · have hd : decide (fits o l m dict) = true := by simpa using hf
      simp only [hd] at cR
      have hE := HY.out bs hf rfl
      obtain ⟨h1, h2⟩ := HOK.out bs rfl
      have cA := fun w h => l5All_any o l m dict bs A1 c1 w hf h h1 (by omega)
      rw [← hE] at cA
      clear HNO HNB HY HOK h1 hf hd hE
      go_wp2_with fail
      refine (cR _).mono ?_
      rintro e w2 ⟨rfl, hb2⟩
      have hz2 := hb2.size
      have hK2 := hK1.below hb2 (by omega)
      have s2 := s1.below hb2
      have g2 := g1.trans (hb2.mono (by omega))
      have hX2 := hK2.cell
      clear hb2 hK1 hX1 s1 g1 cR
      go_wp2_with fail
      refine (cA _ s2).mono ?_
      rintro e w3 ⟨rfl, hb3⟩
      have g3 := g2.trans (hb3.mono (by omega))
      unfold datRes
      go_wp2
      exact bodyPost_ret (v := .tuple #[sv (R.getD []), .bool R.isSome]) (by simp [results, Tryz.results73, go_sem]) rfl ⟨rfl, g3⟩
    · have hd : decide (fits o l m dict) = false := by simpa using hf
      simp only [hd] at cR
      have hE := HNO.out hf
      subst hE
      clear HNO HNB HY HOK hf hd
      go_wp2_with fail
      refine (cR _).mono ?_
      rintro e w2 ⟨rfl, hb2⟩
      have g2 := g1.trans (hb2.mono (by omega))
      clear hb2 hK1 hX1 s1 g1 cR
      go_wp2
      exact bodyPost_ret (v := .tuple #[sv [], .bool false]) (by simp [results, Tryz.results73, go_sem]) rfl ⟨rfl, g2⟩
theorem own_grownR {w w' : World} {B B' : Nat} {e e' : TypeId} {s s' n n' : Nat} {v v' : Value} {xs xs' : List Value} (h : w.ownsRow B e s v n xs) (hv : w.ownsRow B' e' s' v' n' xs') (hne : e ≠ e') (hg : w.grownBy w' v'.ownBlock) : w'.ownsRow B e s v n xs := by
  have hlt := h.lt
  have hoo := own_own h hv hne
  obtain ⟨h1, h2⟩ := h
  refine ⟨h1, ?_⟩
  rcases h2 with h2 | ⟨g, cap, cur, rfl, hgb, hh, rest⟩
  · exact .inl h2
  · refine .inr ⟨g, cap, cur, rfl, hgb, (hg.block g (hlt g rfl).2 (fun hc => ?_)).trans hh, rest⟩
    rcases hoo with hoo | hoo
    · cases hoo
    · exact hoo hc
/-- It returns pieces in a row of its own. -/
def PcRes (ps : List Pc) (w : World) (e : Ending) (w' : World) : Prop := ∃ A cap, e = .returned (.slice A ps.length cap) ∧ w'.ownsRow w.heap.size 33 2 (.slice A ps.length cap) ps.length (pcsV ps) ∧ Below w.heap.size w w'
theorem info_piece : (Tryz.prog.info? 33).map (fun i => (i.zero, i.size, i.bytes)) = some (some (.agg #[.int .i64 0, .string ⟨#[]⟩]), 2, 24) := by kernel_rfl
set_option maxHeartbeats 2000000 in
theorem sSalvage_any (o l m : Int) (dict t : Bs) (w : World) (hdl : dict.length ≤ 9223372036854775807) (htl : t.length ≤ 1500000) :
    Calls Tryz.prog 19 #[.agg #[.int .i64 o, .int .i64 l, .int .i64 m], sv dict, sv t] w (PcRes (pcsB o l m dict t) w) := by
  obtain ⟨i, hi, hz0, hz1, hz2⟩ := info_parts info_piece
  have cR := fun w => l5Ready_any o l m dict w hdl
  have cF := fun w => sFindBlocks_any t w htl
  by_cases hf : fits o l m dict
  · have hd : decide (fits o l m dict) = true := by simpa using hf
    simp only [hd] at cR
    have cD : Go.RowKit.Hid (∀ b w, b.ok = true → Calls Tryz.prog 66 #[.agg #[.int .i64 o, .int .i64 l, .int .i64 m], sv dict, bkV b] w fun e w' => e = datRes (b.dat (startW o l m dict)) ∧ Below w.heap.size w w') := fun b w h => l5Data_any o l m dict b w hf (by have := ok_body h; omega)
    rw [pcsB_yes hf]
    have HOK := Go.Lib.hid (find_ok t)
    have hfl : (findB t).length ≤ 1000000 := by
      have := findB_len t
      omega
    clear hf hd
    generalize startW o l m dict = K at *
    generalize findB t = fs at *
    have HE : Go.RowKit.Hid (∀ e w', PcRes (pcTo K fs 40) w e w' = PcRes (pcTo K fs 40) w e w') := fun _ _ => rfl
    go_enter Tryz.func19, Tryz.ntmps19
    have hK0 : Bk ((w.alloc (.cells #[.int .i64 o, .int .i64 l, .int .i64 m] 38)).alloc (.cells #[] 33)) w.heap.size 38 #[.int .i64 o, .int .i64 l, .int .i64 m] := (by (repeat (first | (with_reducible assumption) | (with_reducible exact Bk.new _ _ _) | (with_reducible refine Bk.newAt _ _ _ (by simp; done)) | (with_reducible refine Bk.drew ?_) | (with_reducible refine Bk.drewN ?_ _) | (with_reducible refine Bk.alloc ?_ _))); done)
    have hP0 : Bk ((w.alloc (.cells #[.int .i64 o, .int .i64 l, .int .i64 m] 38)).alloc (.cells #[] 33)) (w.heap.size + 1) 33 #[] := (by (repeat (first | (with_reducible assumption) | (with_reducible exact Bk.new _ _ _) | (with_reducible refine Bk.newAt _ _ _ (by simp; done)) | (with_reducible refine Bk.drew ?_) | (with_reducible refine Bk.drewN ?_ _) | (with_reducible refine Bk.alloc ?_ _))); done)
    have g0 : Below w.heap.size w ((w.alloc (.cells #[.int .i64 o, .int .i64 l, .int .i64 m] 38)).alloc (.cells #[] 33)) := (by repeat (first | (with_reducible exact Below.refl _ _) | (with_reducible assumption) | (with_reducible refine Below.drew ?_) | (with_reducible refine Below.alloc ?_ (by first | omega | (simp <;> omega)) _) | (with_reducible refine Below.setCell ?_ (by first | omega | (simp <;> omega)) _) | (with_reducible refine belowN ?_ _)))
    go_upto_region 2 with (fail)
    generalize (w.alloc (.cells #[.int .i64 o, .int .i64 l, .int .i64 m] 38)).alloc (.cells #[] 33) = w0 at *
    have o0 := lit_own (base := w.heap.size) (size := 2) hP0 (by omega)
    have hz0' := hP0.lt
    have hX0 := hK0.cell
    go_wp2_with fail
    refine (cR _).mono ?_
    rintro e w1 ⟨rfl, hb1⟩
    have z1 := hb1.size
    have hK1 := hK0.below hb1 (by omega)
    have o1 := owns_keep o0 hb1
    have g1 := g0.trans (hb1.mono (by omega))
    clear hb1 hK0 hP0 g0 o0 hX0 cR
    go_wp2_with fail
    refine (cF _).mono ?_
    rintro e w2 ⟨Af, cf, rfl, f2, hb2⟩
    have z2 := hb2.size
    have hK2 := hK1.below hb2 (by omega)
    have o2 := owns_keep o1 hb2
    have g2 := g1.trans (hb2.mono (by omega))
    have f2 := own_mono (B' := w.heap.size) f2 (by omega)
    clear hb2 hK1 g1 o1 cF
    go_wp2
    go_loopw [7, 9] (fun a i wr => ∃ (k : Nat) (A : Option Addr) (cap : Nat) (ps : List Pc), a = .slice A ps.length cap ∧ i = .int .i64 (k : Int) ∧ k ≤ 40 ∧ ps.length ≤ k ∧ Go.RowKit.Hid (pcTo K fs k = ps) ∧ wr.ownsRow w.heap.size 33 2 (.slice A ps.length cap) ps.length (pcsV ps) ∧ wr.ownsRow w.heap.size 69 5 (.slice Af fs.length cf) fs.length (fsV fs) ∧ Bk wr w.heap.size 38 #[.int .i64 o, .int .i64 l, .int .i64 m] ∧ Below w.heap.size w wr) (fun _ i _ => 40 - (intOf i).toNat)
    case atStart => exact ⟨0, _, 0, [], rfl, rfl, by omega, by simp, rfl, o2, f2, hK2, g2⟩
    case round =>
      obtain ⟨k, A, cap, ps, rfl, rfl, hk, hpl, HP, ow, ff, hB, hb⟩ := hrel
      clear o2 f2 hK2 g2
      have hz := hb.size
      have hlt0 := hB.lt
      by_cases hlt : k < 40
      · have hki : (k : Int) < 40 := by omega
        have cL := l7First_any fs k Af cf wr (own_Sl ff) hfl
        have HNO : Go.RowKit.Hid (firstF fs k = none → pcTo K fs (k + 1) = ps) := fun h => by rw [pcTo_none (pcOf_no h)]; exact HP.out
        have HBAD : Go.RowKit.Hid (∀ b, firstF fs k = some b → b.dat K = none → pcTo K fs (k + 1) = ps) := fun b h h2 => by rw [pcTo_none (pcOf_bad h h2)]; exact HP.out
        have HYES : Go.RowKit.Hid (∀ b d, firstF fs k = some b → b.dat K = some d → pcTo K fs (k + 1) = ps ++ [((k : Int), d)]) := fun b d h h2 => by rw [pcTo_some (pcOf_yes h h2), HP.out]
        have HFO := fun b h => HOK.out (k : Int) b h
        generalize firstF fs (k : Int) = F at *
        cases F with
        | none =>
          have HP2 := Go.Lib.hid (HNO.out rfl)
          clear HNO HBAD HYES HP
          go_wp2_with fail
          refine cL.mono ?_
          rintro e w3 ⟨rfl, hb3⟩
          have z3 := hb3.size
          have ow3 := (owns_keep ow hb3).alloc (.cells bkZC 67)
          have ff3 := (owns_keep ff hb3).alloc (.cells bkZC 67)
          have hB3 := (hB.below hb3 hlt0).alloc (.cells bkZC 67)
          have g3 := (hb.trans (hb3.mono hz)).alloc (by omega) (.cells bkZC 67)
          clear hb3 cL ow ff hB hb
          have hX := (Bk.new w3 bkZC 67).cell
          have hF := (Bk.new w3 bkZC 67).free
          unfold ffRes
          go_wp2
          go_roundw
          case rel => exact ⟨k + 1, A, cap, ps, rfl, by go_num, by omega, by omega, HP2, ow3, ff3, hB3, g3⟩
          case measure => simp [intOf]; omega
        | some b =>
          have hbo := HFO b rfl
          have cB := fun w => cD.out b w hbo
          have HBAD2 : Go.RowKit.Hid (b.dat K = none → pcTo K fs (k + 1) = ps) := HBAD.out b rfl
          have HYES2 : Go.RowKit.Hid (∀ d, b.dat K = some d → pcTo K fs (k + 1) = ps ++ [((k : Int), d)]) := fun d => HYES.out b d rfl
          clear HNO HBAD HYES HFO HP hbo
          generalize b.dat K = D at *
          obtain ⟨n2, r, n4, T⟩ := b
          go_wp2_with fail
          refine cL.mono ?_
          rintro e w3 ⟨rfl, hb3⟩
          have z3 := hb3.size
          have hN3 := Bk.new w3 (bkC ⟨n2, r, n4, T⟩) 67
          have ow3 := (owns_keep ow hb3).alloc (.cells (bkC ⟨n2, r, n4, T⟩) 67)
          have ff3 := (owns_keep ff hb3).alloc (.cells (bkC ⟨n2, r, n4, T⟩) 67)
          have hB3 := (hB.below hb3 hlt0).alloc (.cells (bkC ⟨n2, r, n4, T⟩) 67)
          have g3 := (hb.trans (hb3.mono hz)).alloc (by omega) (.cells (bkC ⟨n2, r, n4, T⟩) 67)
          clear hb3 cL ow ff hB hb
          unfold ffRes
          go_upto_region 9 with (fail)
          generalize w3.alloc (.cells _ 67) = W at *
          have hX := hB3.cell
          have hY := hN3.cell
          have hlN := hN3.lt
          go_wp2_with fail
          refine (cB _).mono ?_
          rintro e w4 ⟨rfl, hb4⟩
          have z4 := hb4.size
          have ow4 := owns_keep ow3 hb4
          have ff4 := owns_keep ff3 hb4
          have hB4 := hB3.below hb4 (by omega)
          have g4 := g3.trans (hb4.mono (by omega))
          clear hb4 ow3 ff3 hB3 g3 cB hN3 hX hY
          cases D with
          | none =>
            have HP2 := Go.Lib.hid (HBAD2.out rfl)
            unfold datRes
            go_wp2
            go_roundw
            case rel => exact ⟨k + 1, A, cap, ps, rfl, by go_num, by omega, by omega, HP2, ow4, ff4, hB4, g4⟩
            case measure => simp [intOf]; omega
          | some d =>
            have HP2 := Go.Lib.hid (HYES2.out d rfl)
            clear HBAD2 HYES2
            unfold datRes
            have hm1 : ps.length + 1 ≤ maxLen := by unfold maxLen; omega
            have hm2 : (ps.length + 1) * 24 ≤ 140737488355328 := by omega
            go_wp2_with (at_builtin; go_must (refine wpList_ap _ rfl _ _ 23 rfl (w.heap.size) 33 i _ 2 24 Tryz.underlying23 hi hz0 hz1 hz2 rfl (by omega) _ _ _ rfl (ow4.alloc _) _ 1 1 [.int .i64 (k : Int), .string ⟨d.toArray⟩] rfl (Sl.newAt w4 #[.int .i64 (k : Int), .string ⟨d.toArray⟩] _ 1 2 (by first | rfl | simp) (by simp) (by omega)) (by simp [Value.oneCell']) hm1 hm2 ?_ ?_))
            try (case refine_1 => first | omega | (simp <;> omega; done))
            intro A5 cap5 w5 ow5 hg5 _
            have g5 := app_below g4 hg5 (by omega) (fun q hq => by have := (ow4.lt q hq).1; omega)
            have ff5 := own_grownR (ff4.alloc (.cells #[.int .i64 (k : Int), .string ⟨d.toArray⟩] 33)) (ow4.alloc (.cells #[.int .i64 (k : Int), .string ⟨d.toArray⟩] 33)) (by decide) hg5
            have hB5 := (hB4.alloc (.cells #[.int .i64 (k : Int), .string ⟨d.toArray⟩] 33)).grown hg5 (own_ne (ow4.alloc (.cells #[.int .i64 (k : Int), .string ⟨d.toArray⟩] 33)) (hB4.alloc (.cells #[.int .i64 (k : Int), .string ⟨d.toArray⟩] 33)) (by decide))
            have ow5' : w5.ownsRow w.heap.size 33 2 (.slice A5 (ps ++ [((k : Int), d)]).length cap5) (ps ++ [((k : Int), d)]).length (pcsV (ps ++ [((k : Int), d)])) := by
              rw [pcsV_snoc, List.length_append]; exact ow5
            have hol : (ps ++ [((k : Int), d)]).length = ps.length + 1 := by simp
            have HOL := Go.Lib.hid hol
            clear ow5 hg5 ow4 ff4 hB4 g4 hol
            go_wp2
            go_roundw
            case rel => exact ⟨k + 1, A5, cap5, _, (by rw [HOL.out]), by go_num, by omega, by rw [HOL.out]; omega, HP2, ow5', ff5, hB5, g5⟩
            case measure => simp [intOf]; omega
      · have hki : ¬ (k : Int) < 40 := by omega
        have hk40 : k = 40 := by omega
        subst hk40
        have h := HP.out
        subst h
        go_wp2
        go_ret
        exact ⟨A, cap, rfl, ow, hb⟩
  · have hd : decide (fits o l m dict) = false := by simpa using hf
    simp only [hd] at cR
    rw [pcsB_no hf]
    clear hf hd cF
    go_enter Tryz.func19, Tryz.ntmps19
    have hK0 : Bk ((w.alloc (.cells #[.int .i64 o, .int .i64 l, .int .i64 m] 38)).alloc (.cells #[] 33)) w.heap.size 38 #[.int .i64 o, .int .i64 l, .int .i64 m] := (by (repeat (first | (with_reducible assumption) | (with_reducible exact Bk.new _ _ _) | (with_reducible refine Bk.newAt _ _ _ (by simp; done)) | (with_reducible refine Bk.drew ?_) | (with_reducible refine Bk.drewN ?_ _) | (with_reducible refine Bk.alloc ?_ _))); done)
    have hP0 : Bk ((w.alloc (.cells #[.int .i64 o, .int .i64 l, .int .i64 m] 38)).alloc (.cells #[] 33)) (w.heap.size + 1) 33 #[] := (by (repeat (first | (with_reducible assumption) | (with_reducible exact Bk.new _ _ _) | (with_reducible refine Bk.newAt _ _ _ (by simp; done)) | (with_reducible refine Bk.drew ?_) | (with_reducible refine Bk.drewN ?_ _) | (with_reducible refine Bk.alloc ?_ _))); done)
    have g0 : Below w.heap.size w ((w.alloc (.cells #[.int .i64 o, .int .i64 l, .int .i64 m] 38)).alloc (.cells #[] 33)) := (by repeat (first | (with_reducible exact Below.refl _ _) | (with_reducible assumption) | (with_reducible refine Below.drew ?_) | (with_reducible refine Below.alloc ?_ (by first | omega | (simp <;> omega)) _) | (with_reducible refine Below.setCell ?_ (by first | omega | (simp <;> omega)) _) | (with_reducible refine belowN ?_ _)))
    go_upto_region 2 with (fail)
    generalize (w.alloc (.cells #[.int .i64 o, .int .i64 l, .int .i64 m] 38)).alloc (.cells #[] 33) = w0 at *
    have o0 := lit_own (base := w.heap.size) (size := 2) hP0 (by omega)
    have hz0' := hP0.lt
    have hX0 := hK0.cell
    go_wp2_with fail
    refine (cR _).mono ?_
    rintro e w1 ⟨rfl, hb1⟩
    have o1 := owns_keep o0 hb1
    have g1 := g0.trans (hb1.mono (by omega))
    go_wp2
    go_ret
    exact ⟨_, 0, rfl, o1, g1⟩
end Go.Proofs.YtoogaalbnnlloaaGreat
