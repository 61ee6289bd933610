/- Walks: RepairContainer of the program. -/
import Derived.Test.YtfonokhafdflcaaGreatP12
import Derived.Test.YtfonokhafdflcaaGreatGP4
namespace Go.Proofs.YtfonokhafdflcaaGreat
open Go.RowKit
set_option linter.unusedVariables false
set_option linter.unusedSimpArgs false
set_option maxRecDepth 100000
attribute [local go_sem high] run_index_S binOp_eql_S binOp_neq_S append_S toList_S size_S run_slice_S run_slice_from_S run_slice_to_S wrap64_byteAt wrap64_byteAt_mul bits_or_bytes convU conv1_some convU2 conv2_some
/-- The texts of the first k numbers of n; the others are empty still. -/
def txC (fs : List Fd) (n k : Nat) : List Value := (List.range n).map fun i : Nat => if i < k then sv (txOf fs (i : Int)) else sv []
theorem txC_length (fs : List Fd) (n k : Nat) : (txC fs n k).length = n := by simp [txC]
theorem txC_zero (fs : List Fd) (n : Nat) : txC fs n 0 = List.replicate n (sv []) := by
  unfold txC
  apply List.ext_getElem?
  intro j
  by_cases h : j < n
  · simp [h]
  · simp [h]
theorem txC_full (fs : List Fd) (n : Nat) : txC fs n n = (List.range n).map fun i : Nat => sv (txOf fs (i : Int)) := by
  unfold txC
  apply List.map_congr_left
  intro j hj
  rw [if_pos (by simpa using hj)]
theorem txC_some (fs : List Fd) (n k : Nat) (hk : k < n) {b : Blk} (h : firstF fs (k : Int) = some b) : (txC fs n k).set k (sv b.text) = txC fs n (k + 1) := by
  apply List.ext_getElem?
  intro j
  rw [List.getElem?_set, txC_length]
  by_cases hj : k = j
  · subst hj
    rw [if_pos rfl, if_pos hk]
    unfold txC
    simp [hk, txOf_some h]
  · rw [if_neg hj]
    unfold txC
    simp only [List.getElem?_map]
    by_cases hn : j < n
    · rw [List.getElem?_range hn]
      simp only [Option.map_some]
      by_cases h1 : j < k
      · rw [if_pos h1, if_pos (by omega)]
      · rw [if_neg h1, if_neg (by omega)]
    · rw [List.getElem?_eq_none (by simp; omega)]; rfl
theorem txC_none (fs : List Fd) (n k : Nat) (h : firstF fs (k : Int) = none) : txC fs n k = txC fs n (k + 1) := by
  unfold txC
  apply List.map_congr_left
  intro j _
  by_cases hj : k = j
  · subst hj
    rw [if_neg (by omega), if_pos (by omega), txOf_none h]
  · by_cases h1 : j < k
    · rw [if_pos h1, if_pos (by omega)]
    · rw [if_neg h1, if_neg (by omega)]
theorem txC_at (fs : List Fd) (n k : Nat) (hk : k < n) : (txC fs n n)[k]? = some (sv (txOf fs (k : Int))) := by
  rw [txC_full, List.getElem?_map, List.getElem?_range hk]; rfl
theorem txC_cur (fs : List Fd) (n k : Nat) (hk : k < n) : (txC fs n k)[k]? = some (sv []) := by
  unfold txC
  rw [List.getElem?_map, List.getElem?_range hk]
  simp
/-- What is written for number k. -/
theorem repTxt_found {fs : List Fd} {pa : List Bs} {g c : Int} {k : Nat} {b : Blk} (h : firstF fs (k : Int) = some b) : repTxt fs pa g c k = some b.text := by unfold repTxt; exact txtN_some h
theorem repTxt_lost {fs : List Fd} {pa : List Bs} {g c : Int} {k q a kk : Nat} (hq : (k : Int) / g = (q : Int)) (ha : (q : Int) * g = (a : Int)) (hkk : (a : Int) + (kk : Int) = min (((q : Int) + 1) * g) c) (hp : q < pa.length) :
    repTxt fs pa g c k = txtN fs pa[q] (a : Int) kk (k : Int) := by
  unfold repTxt grpA grpK
  rw [hq, ha, show (min (((q : Int) + 1) * g) c - (a : Int)).toNat = kk by omega]
  congr 1
  simp [hp]
theorem div_at {g c : Int} {k n : Nat} (hg : 1 ≤ g) (hn : (n : Int) = (c + g - 1) / g) (hk : (k : Int) < c) : ∃ q : Nat, (k : Int) / g = (q : Int) ∧ q < n ∧ (q : Int) * g ≤ k ∧ (k : Int) < ((q : Int) + 1) * g := by
  have h0 := Int.ediv_nonneg (a := (k : Int)) (b := g) (by omega) (by omega)
  obtain ⟨q, hq⟩ := Int.eq_ofNat_of_zero_le h0
  have h1 := Int.mul_ediv_self_le (x := (k : Int)) (k := g) (by omega)
  have h2 := Int.lt_mul_ediv_self_add (x := (k : Int)) (k := g) (by omega)
  have e1 : (q : Int) * g = g * ((k : Int) / g) := by rw [hq, Int.mul_comm]
  have e2 : ((q : Int) + 1) * g = (q : Int) * g + g := by rw [Int.add_mul]; omega
  refine ⟨q, hq, ?_, by omega, by omega⟩
  have h3 := grp_end hg hn
  rcases Nat.lt_or_ge q n with h | h
  · exact h
  · exfalso
    have h4 : (n : Int) * g ≤ (q : Int) * g := Int.mul_le_mul_of_nonneg_right (by omega) (by omega)
    omega
theorem bld_new {w : World} {B : Nat} (hB : B ≤ w.heap.size) : Go.Lib.IsBuilderF 88 5 B w.heap.size [] (w.alloc (.cells #[.pointer none, .slice none 0 0] 88)) :=
  .inl ⟨hB, .slice none 0 0, heap_alloc_new w _, ⟨by simp, .inl ⟨rfl, rfl⟩⟩, by simp [Value.ownBlock]⟩
set_option maxHeartbeats 4000000 in
theorem repair_any (l : Bs) (pa : List Bs) (g c : Int) (A : Option Addr) (cap : Nat) (w : World) (hs : Sl w A pa.length cap 1 (pa.map sv)) (hl : l.length ≤ 1500000) (hpl : pa.length ≤ 1500000) (hp : ∀ t ∈ pa, t.length ≤ 1500000)
    (hg0 : -9223372036854775808 ≤ g) (hg1 : g ≤ 9223372036854775807) (hc0 : -9223372036854775808 ≤ c) (hc1 : c ≤ 9223372036854775807) :
    Calls Tryz.prog 17 #[sv l, .slice A pa.length cap, .int .i64 g, .int .i64 c] w fun e w' => e = rbRes (repairB l pa g c) ∧ Below w.heap.size w w' := by
  have hcap := hs.1
  have HS : Go.RowKit.Hid (∀ wr, Below w.heap.size w wr → Sl wr A pa.length cap 1 (pa.map sv)) := fun wr h => hs.below h
  have HP := Go.Lib.hid hp
  clear hs hp
  have HNO : Go.RowKit.Hid (¬ (l.length ≤ 8000 ∧ 1 ≤ g ∧ g ≤ 40 ∧ 0 ≤ c ∧ c ≤ 40 ∧ (pa.length : Int) = (c + g - 1) / g) → rbRes (repairB l pa g c) = rbRes none) := fun h => by rw [repair_no h]
  have HGR : Go.RowKit.Hid (∀ R, repairB l pa g c = R → rbRes (repairB l pa g c) = rbRes R) := fun R h => by rw [h]
  generalize rbRes (repairB l pa g c) = GG at *
  by_cases h1 : l.length ≤ 8000
  case neg =>
    have hN := Go.Lib.hid (HNO.out (fun h => h1 h.1))
    have hd : (8000 : Int) < l.length := by omega
    clear HNO HGR
    go_enter Tryz.func17, Tryz.ntmps17
    go_wp2
    go_ret2
    exact ⟨by rw [hN.out]; rfl, (by repeat (first | (with_reducible exact Below.refl _ _) | (with_reducible assumption) | (with_reducible refine Below.drew ?_) | (with_reducible refine Below.alloc ?_ (by first | omega | (simp <;> omega)) _) | (with_reducible refine Below.setCell ?_ (by first | omega | (simp <;> omega)) _) | (with_reducible refine belowN ?_ _)))⟩
  have hd1 : ¬ (8000 : Int) < l.length := by omega
  by_cases h2 : 1 ≤ g
  case neg =>
    have hN := Go.Lib.hid (HNO.out (fun h => h2 h.2.1))
    have hd : g < 1 := by omega
    clear HNO HGR
    go_enter Tryz.func17, Tryz.ntmps17
    go_wp2
    go_ret2
    exact ⟨by rw [hN.out]; rfl, (by repeat (first | (with_reducible exact Below.refl _ _) | (with_reducible assumption) | (with_reducible refine Below.drew ?_) | (with_reducible refine Below.alloc ?_ (by first | omega | (simp <;> omega)) _) | (with_reducible refine Below.setCell ?_ (by first | omega | (simp <;> omega)) _) | (with_reducible refine belowN ?_ _)))⟩
  have hd2 : ¬ g < 1 := by omega
  by_cases h3 : g ≤ 40
  case neg =>
    have hN := Go.Lib.hid (HNO.out (fun h => h3 h.2.2.1))
    have hd : 40 < g := by omega
    clear HNO HGR
    go_enter Tryz.func17, Tryz.ntmps17
    go_wp2
    go_ret2
    exact ⟨by rw [hN.out]; rfl, (by repeat (first | (with_reducible exact Below.refl _ _) | (with_reducible assumption) | (with_reducible refine Below.drew ?_) | (with_reducible refine Below.alloc ?_ (by first | omega | (simp <;> omega)) _) | (with_reducible refine Below.setCell ?_ (by first | omega | (simp <;> omega)) _) | (with_reducible refine belowN ?_ _)))⟩
  have hd3 : ¬ 40 < g := by omega
  by_cases h4 : 0 ≤ c
  case neg =>
    have hN := Go.Lib.hid (HNO.out (fun h => h4 h.2.2.2.1))
    have hd : c < 0 := by omega
    clear HNO HGR
    go_enter Tryz.func17, Tryz.ntmps17
    go_wp2
    go_ret2
    exact ⟨by rw [hN.out]; rfl, (by repeat (first | (with_reducible exact Below.refl _ _) | (with_reducible assumption) | (with_reducible refine Below.drew ?_) | (with_reducible refine Below.alloc ?_ (by first | omega | (simp <;> omega)) _) | (with_reducible refine Below.setCell ?_ (by first | omega | (simp <;> omega)) _) | (with_reducible refine belowN ?_ _)))⟩
  obtain ⟨n, rfl⟩ := Int.eq_ofNat_of_zero_le h4
  by_cases h5 : n ≤ 40
  case neg =>
    have hN := Go.Lib.hid (HNO.out (fun h => h5 (by have := h.2.2.2.2.1; omega)))
    have hd : (40 : Int) < n := by omega
    clear HNO HGR
    go_enter Tryz.func17, Tryz.ntmps17
    go_wp2
    go_ret2
    exact ⟨by rw [hN.out]; rfl, (by repeat (first | (with_reducible exact Below.refl _ _) | (with_reducible assumption) | (with_reducible refine Below.drew ?_) | (with_reducible refine Below.alloc ?_ (by first | omega | (simp <;> omega)) _) | (with_reducible refine Below.setCell ?_ (by first | omega | (simp <;> omega)) _) | (with_reducible refine belowN ?_ _)))⟩
  have hd5 : ¬ (40 : Int) < n := by omega
  have hg00 : ¬ g = 0 := by omega
  by_cases h6 : (pa.length : Int) = ((n : Int) + g - 1) / g
  case neg =>
    have hN := Go.Lib.hid (HNO.out (fun h => h6 h.2.2.2.2.2))
    have hd4 : ((pa.length : Int) != ((n : Int) + g - 1) / g) = true := by simpa using h6
    clear HNO HGR
    go_enter Tryz.func17, Tryz.ntmps17
    go_wp2
    go_ret2
    exact ⟨by rw [hN.out]; rfl, (by repeat (first | (with_reducible exact Below.refl _ _) | (with_reducible assumption) | (with_reducible refine Below.drew ?_) | (with_reducible refine Below.alloc ?_ (by first | omega | (simp <;> omega)) _) | (with_reducible refine Below.setCell ?_ (by first | omega | (simp <;> omega)) _) | (with_reducible refine belowN ?_ _)))⟩
  have hd4 : ((pa.length : Int) != ((n : Int) + g - 1) / g) = false := by simpa using h6
  have HY : Go.RowKit.Hid (l.length ≤ 8000 ∧ 1 ≤ g ∧ g ≤ 40 ∧ 0 ≤ (n : Int) ∧ (n : Int) ≤ 40 ∧ (pa.length : Int) = ((n : Int) + g - 1) / g) := ⟨h1, h2, h3, h4, by omega, h6⟩
  have cFB : Go.RowKit.Hid (∀ w, Calls Tryz.prog 9 #[sv l] w (FsRes (findB l) w)) := fun w => findBlocks_any l w hl
  have hfok := find_ok l
  have hfl : (findB l).length ≤ 1000000 := by
    have := findGo_len l (l.length + 1) (nextB l 0)
    unfold findB; omega
  have HRN : Go.RowKit.Hid (catTo (repTxt (findB l) pa g n) n = none → GG = rbRes none) := fun h => HGR.out none (repair_none HY.out h)
  have HRS : Go.RowKit.Hid (∀ x, catTo (repTxt (findB l) pa g n) n = some x → GG = rbRes (if (blocksB x).isSome = true then some x else none)) := fun x h => HGR.out _ (repair_some HY.out h)
  clear HNO HGR hl h1
  have h7 := Go.Lib.hid h6
  have HFO := Go.Lib.hid hfok
  clear h6 hfok
  generalize findB l = fs at *
  obtain ⟨i0, hi, hz0, hz1, hz2⟩ := info_parts info_str
  go_enter Tryz.func17, Tryz.ntmps17
  go_wp2_with fail
  refine (cFB.out _).mono ?_
  rintro e w1 ⟨A1, c1, rfl, o1, hb1⟩
  have S1 := own_Sl o1
  have hz1' := hb1.size
  have hfl2 : fs.length ≤ 1000000 := hfl
  clear cFB o1 hd1 hd2 hd3 hd4 hd5
  go_wp2_with (at_make; go_must (refine wpList_make_full _ rfl _ _ 50 rfl w1.heap.size 9 i0 (.string ⟨#[]⟩) 1 Tryz.underlying50 hi hz0 hz1 _ _ _ _ n rfl rfl (by omega) (by omega) (by rw [hz2]; omega) (by unfold maxLen; omega) (by omega) ?_); intro w2 hown hg1)
  have b2 : Below w1.heap.size w1 w2 := (Below.refl _ _).grown hg1 (Nat.le_refl _) (by simp)
  have HF : Go.RowKit.Hid (∀ wr, Below w1.heap.size w1 wr → ∀ m : Int, Calls Tryz.prog 36 #[.slice A1 fs.length c1, .int .i64 m] wr fun e w' => e = ffRes (firstF fs m) ∧ Below wr.heap.size wr w') := fun wr h m => firstFound_any fs m A1 c1 wr (S1.below h) hfl
  have HBB : Go.RowKit.Hid (∀ wr, Below w1.heap.size w1 wr → Below w.heap.size w wr) := fun wr h => hb1.trans (h.mono hz1')
  clear hg1 S1 hb1
  go_loopw [56] (fun i wr => ∃ k : Nat, i = .int .i64 (k : Int) ∧ k ≤ n ∧ wr.ownsRow w1.heap.size 9 1 (.slice (some ⟨w1.heap.size, 0, none⟩) n n) n (txC fs n k) ∧ Below w1.heap.size w1 wr) (fun i _ => n - (intOf i).toNat)
  case atStart =>
    refine ⟨0, rfl, by omega, ?_, b2⟩
    rw [txC_zero, ← toList_madeCells_one]
    rw [Nat.mul_one] at hown
    exact hown
  case round =>
    obtain ⟨k, rfl, hk, hown, hb⟩ := hrel
    have hz := hb.size
    have hlt3 : w1.heap.size < wr.heap.size := (hown.lt _ rfl).2
    by_cases hlt : k < n
    · have hki : (k : Int) < (n : Int) := by omega
      have cF := HF.out wr hb (k : Int)
      cases hff : firstF fs (k : Int) with
      | none =>
        rw [hff] at cF
        have HTX := Go.Lib.hid (txC_none fs n k hff)
        clear hff
        go_wp2_with fail
        refine cF.mono ?_
        rintro e w3 ⟨rfl, hb3⟩
        have z3 := hb3.size
        have o3 := (owns_keep hown hb3).alloc (.cells bkZC 38)
        have b3 := hb.trans (hb3.mono (by omega))
        have O3 := Go.Lib.hid o3
        clear hb3 cF hown hb o3
        have hX := (Bk.new w3 bkZC 38).cell
        have hF := (Bk.new w3 bkZC 38).free
        unfold ffRes
        go_wp2
        go_roundw
        case rel => exact ⟨k + 1, by go_num, by omega, by rw [← HTX.out]; exact O3.out, (by repeat (first | (with_reducible exact Below.refl _ _) | (with_reducible assumption) | (with_reducible refine Below.drew ?_) | (with_reducible refine Below.alloc ?_ (by first | omega | (simp <;> omega)) _) | (with_reducible refine Below.setCell ?_ (by first | omega | (simp <;> omega)) _) | (with_reducible refine belowN ?_ _)))⟩
        case measure => simp [intOf]; omega
      | some b =>
        rw [hff] at cF
        have HTX := Go.Lib.hid (txC_some fs n k hlt hff)
        have hbo := HFO.out _ _ hff
        have cT : Go.RowKit.Hid (∀ w, Calls Tryz.prog 42 #[bkV b] w fun e w' => e = .returned (.tuple #[sv b.text, .bool true]) ∧ Below w.heap.size w w') := fun w => by
          refine (formatBlock_any b w (ok_smB hbo)).mono ?_
          rintro e w' ⟨rfl, h⟩
          exact ⟨by unfold fbRes; rw [if_pos hbo, hbo], h⟩
        clear hff hbo
        generalize b.text = t at *
        obtain ⟨n2, r, n4, D⟩ := b
        go_wp2_with fail
        refine cF.mono ?_
        rintro e w3 ⟨rfl, hb3⟩
        have z3 := hb3.size
        have o3 := (owns_keep hown hb3).alloc (.cells (bkC ⟨n2, r, n4, D⟩) 38)
        have b3 := (hb.trans (hb3.mono (by omega))).alloc (by omega) (.cells (bkC ⟨n2, r, n4, D⟩) 38)
        clear hb3 cF hown hb
        have hX := (Bk.new w3 (bkC ⟨n2, r, n4, D⟩) 38).cell
        have hF := (Bk.new w3 (bkC ⟨n2, r, n4, D⟩) 38).free
        unfold ffRes
        go_wp2_with fail
        refine (cT.out _).mono ?_
        rintro e w4 ⟨rfl, hb4⟩
        have z4 := hb4.size
        simp only [World.size_alloc] at z4
        have o4 := owns_keep o3 hb4
        have b4 := b3.trans (hb4.mono (by simp; omega))
        have hlt4 : w1.heap.size < w4.heap.size := (o4.lt _ rfl).2
        have hfr := o4.frozenAt k
        have hcl := (o4.cellAt k (by omega)).trans (txC_cur fs n k hlt)
        have hst := o4.stored k (sv t)
        rw [HTX.out] at hst
        have HST := Go.Lib.hid hst
        have b5 : Below w1.heap.size w1 (w4.setCell ⟨w1.heap.size, k, none⟩ (sv t)) := b4.setCell (Nat.le_refl _) _
        clear hst hb4 cT hX hF o3 b3 o4
        go_wp2
        go_roundw
        case rel => exact ⟨k + 1, by go_num, by omega, HST.out.1, b5⟩
        case measure => simp [intOf]; omega
    · have hki : ¬ (k : Int) < (n : Int) := by omega
      have hkk : n = k := by omega
      subst hkk
      have B0 := bld_new (w := wr) (B := w1.heap.size) hz
      have o5 := hown.alloc (.cells #[.pointer none, .slice none 0 0] 88)
      have b5 := hb.alloc hz (.cells #[.pointer none, .slice none 0 0] 88)
      obtain ⟨bb, hbb⟩ : ∃ bb, wr.heap.size = bb := ⟨_, rfl⟩
      have hbl : w1.heap.size < bb := by omega
      rw [hbb] at B0
      have hHC : Go.RowKit.Hid (catTo (repTxt fs pa g n) 0 = some []) := rfl
      clear hown HF hb
      go_wp2
      go_loopw [77] (fun i wq => ∃ (k : Nat) (X : Bs), i = .int .i64 (k : Int) ∧ k ≤ n ∧ X.length ≤ 74 * k ∧ Go.RowKit.Hid (catTo (repTxt fs pa g n) k = some X) ∧ wq.ownsRow w1.heap.size 9 1 (.slice (some ⟨w1.heap.size, 0, none⟩) n n) n (txC fs n n) ∧ Go.Lib.IsBuilderF 88 5 w1.heap.size bb (X.map u8v) wq ∧ Below w1.heap.size w1 wq) (fun i _ => n - (intOf i).toNat)
      case atStart => exact ⟨0, [], rfl, by omega, by simp, hHC, o5, B0, b5⟩
      case round =>
        obtain ⟨k, X, rfl, hk, hXl, HX, o, hB, hb⟩ := hrel
        clear B0 o5 b5 hHC
        have hz := hb.size
        by_cases hlt : k < n
        · have hki : (k : Int) < (n : Int) := by omega
          have hcl := (o.cellAt k (by omega)).trans (txC_at fs n k hlt)
          have hne : (Value.slice (some ⟨w1.heap.size, 0, none⟩) n n).ownBlock ≠ some bb := by
            simp [Value.ownBlock]; omega
          cases hff : firstF fs (k : Int) with
          | some b =>
            rw [txOf_some hff] at hcl
            have htl := text_bd (HFO.out _ _ hff)
            have HX2 : Go.RowKit.Hid (catTo (repTxt fs pa g n) (k + 1) = some (X ++ b.text)) := catTo_step HX.out (repTxt_found hff)
            clear hff
            generalize b.text = t at *
            have hte2 : (t == []) = false := by
              cases t with
              | nil => simp at htl
              | cons x y => rfl
            have hte : (decide (t = [])) = false := by
              cases t with
              | nil => simp at htl
              | cons x y => rfl
            have cW := bld_write w1.heap.size bb (X.map u8v) t _ hB (by simp; omega) hz
            go_wp2_with fail
            refine cW.mono ?_
            rintro e w3 ⟨rfl, hB3, b3, k3⟩
            have o3 := others_row k3 o (by decide) hne
            have b4 := hb.trans b3
            have hB4 : Go.Lib.IsBuilderF 88 5 w1.heap.size bb ((X ++ t).map u8v) w3 := by rw [List.map_append]; exact .inr hB3
            have HB4 := Go.Lib.hid hB4
            clear cW hB3 b3 k3 hB hB4
            go_wp2
            go_roundw
            case rel => exact ⟨k + 1, X ++ t, by go_num, by omega, by simp; omega, HX2.out, o3, HB4.out, b4⟩
            case measure => simp [intOf]; omega
          | none =>
            rw [txOf_none hff] at hcl
            obtain ⟨q, hq, hqp, hq1, hq2⟩ := div_at h2 h7.out hki
            have hqg0 : (0 : Int) ≤ (q : Int) * g := Int.mul_nonneg (by omega) (by omega)
            have hqe : ((q : Int) + 1) * g = (q : Int) * g + g := by rw [Int.add_mul]; omega
            obtain ⟨a, ha⟩ : ∃ a : Nat, (q : Int) * g = (a : Int) := ⟨((q : Int) * g).toNat, by omega⟩
            obtain ⟨b, hbq⟩ : ∃ b : Nat, ((q : Int) + 1) * g = (b : Int) := ⟨(((q : Int) + 1) * g).toNat, by omega⟩
            obtain ⟨kk, hkk⟩ : ∃ kk : Nat, (a : Int) + (kk : Int) = min (((q : Int) + 1) * g) (n : Int) := ⟨(min (((q : Int) + 1) * g) (n : Int) - (a : Int)).toNat, by omega⟩
            have hrt := repTxt_lost (fs := fs) (pa := pa) hq ha hkk hqp
            rw [hbq] at hkk hq2 hqe
            rw [ha] at hq1 hqg0 hqe
            obtain ⟨g0, off, u, rfl, hg, hu, hc⟩ := Sl.at1 (HS.out wr (HBB.out wr hb)) hqp
            rw [List.getElem?_map, List.getElem?_eq_getElem hqp] at hu
            simp at hu
            subst hu
            have htl := HP.out pa[q] (List.getElem_mem hqp)
            have S2 := own_Sl o
            rw [txC_full] at S2
            have cR := rebuildBlock_any fs pa[q] a kk k n _ _ wr HFO.out S2 (by omega) (by omega) (by omega) (by omega) hff htl
            have hqi : (q : Int) < (pa.length : Int) := by omega
            have HRT := Go.Lib.hid hrt
            have HLEN : Go.RowKit.Hid (∀ t, txtN fs pa[q] (a : Int) kk (k : Int) = some t → t.length ≤ 74) := fun t h => txtN_len HFO.out h
            generalize txtN fs pa[q] (a : Int) kk (k : Int) = TX at *
            generalize pa[q] = pt at *
            obtain ⟨m2, hm2⟩ : ∃ m2, a + kk = m2 := ⟨_, rfl⟩
            rw [hm2] at cR
            have hmin : min (b : Int) (n : Int) = (m2 : Int) := by omega
            have hb100 : b ≤ 100 := by omega
            clear hkk hm2 S2 hrt hff hqe
            have hnp1 : (0 : Int) ≤ (k : Int) := by omega
            go_wp2_with fail
            refine cR.mono ?_
            rintro e w3 ⟨⟨T, rfl, hT⟩, hb3⟩
            have z3 := hb3.size
            have o3 := owns_keep o hb3
            have B3 := bld_keepI hB hb3
            have b3 := hb.trans (hb3.mono (by omega))
            clear cR hb3 o hB hb
            cases TX with
            | none =>
              have hN := Go.Lib.hid (HRN.out (catTo_stop HRT.out n hlt))
              clear HRT HRN HRS
              go_wp2
              go_ret2
              exact ⟨by rw [hN.out]; rfl, HBB.out _ b3⟩
            | some T' =>
              have hTT := hT T' rfl
              subst hTT
              have htl2 := HLEN.out T' rfl
              have HX2 : Go.RowKit.Hid (catTo (repTxt fs pa g n) (k + 1) = some (X ++ T')) := catTo_step HX.out HRT.out
              have cW := bld_write w1.heap.size bb (X.map u8v) T' _ B3 (by simp; omega) (by omega)
              clear HRT HX hT
              go_wp2_with fail
              refine cW.mono ?_
              rintro e w4 ⟨rfl, hB4, b4, k4⟩
              have o4 := others_row k4 o3 (by decide) hne
              have b5 := b3.trans b4
              have hB5 : Go.Lib.IsBuilderF 88 5 w1.heap.size bb ((X ++ T').map u8v) w4 := by rw [List.map_append]; exact .inr hB4
              have HB5 := Go.Lib.hid hB5
              clear cW hB4 b4 k4 hB5 B3 o3 b3
              go_wp2
              go_roundw
              case rel => exact ⟨k + 1, X ++ T', by go_num, by omega, by simp; omega, HX2.out, o4, HB5.out, b5⟩
              case measure => simp [intOf]; omega
        · have hki : ¬ (k : Int) < (n : Int) := by omega
          have hkk : n = k := by omega
          subst hkk
          have HR2 := Go.Lib.hid (HRS.out X HX.out)
          have cB := fun w => containerBlocks_any X w (by omega)
          have cS := Tryz.Builder_String_any_k w1.heap.size bb X wr (by unfold Go.Lib.byteCells; exact hB) hz
          clear HX HRN HRS
          go_wp2_with fail
          refine cS.mono ?_
          rintro e w3 ⟨rfl, _, b3, _⟩
          have g3 := HBB.out _ (hb.trans b3)
          have z3 := g3.size
          clear cS b3 hb hB o
          go_wp2_with fail
          refine (cB _).mono ?_
          rintro e w4 ⟨Ab, cb, rfl, ob, hb4⟩
          have z4 := hb4.size
          have g4 := g3.trans (hb4.mono (by omega))
          clear hb4 ob cB g3
          cases hbo : (blocksB X).isSome
          · rw [hbo] at HR2
            go_wp2
            go_ret2
            exact ⟨by rw [HR2.out]; rfl, g4⟩
          · rw [hbo] at HR2
            go_wp2
            go_ret2
            exact ⟨by rw [HR2.out]; rfl, g4⟩
end Go.Proofs.YtfonokhafdflcaaGreat
