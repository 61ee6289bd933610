/- Walks: containers made by the program. -/
import Derived.Test.YtfonokhafdflcaaGreatJ25
import Derived.Test.YtfonokhafdflcaaGreatGP4
import Derived.Test.YtfonokhafdflcaaGreatGP1
import Derived.Test.YtfonokhafdflcaaGreatGU1
import Derived.Deep.Cut
namespace Go.Proofs.YtfonokhafdflcaaGreat
open Go.RowKit
set_option linter.unusedVariables false
set_option linter.unusedSimpArgs false
set_option maxRecDepth 100000
attribute [local go_sem high] run_index_S binOp_eql_S binOp_neq_S append_S toList_S size_S run_slice_S run_slice_from_S run_slice_to_S wrap64_byteAt wrap64_byteAt_mul bits_or_bytes convU conv1_some convU2 conv2_some
theorem numB_take (bs : List Blk) (k : Nat) (h : k < bs.length) : numB 0 (bs.take (k + 1)) = numB 0 (bs.take k) ++ [{ bs[k] with num := (k : Int) }] := by
  rw [List.take_succ_eq_append_getElem h, numB_snoc, List.length_take, Nat.min_eq_left (by omega), Nat.zero_add]
theorem fbRes_ok {b : Blk} (h : b.ok = true) : fbRes b = .returned (.tuple #[sv b.text, .bool true]) := by unfold fbRes; rw [if_pos h, h]
set_option maxHeartbeats 2000000 in
theorem iMakeOf_any (bs : List Blk) (A : Option Addr) (cap : Nat) (w : World) (hs : Sl w A bs.length cap 4 (bksV bs)) (hok : ∀ b ∈ bs, b.ok = true) (hl : bs.length ≤ 100000) :
    Calls Tryz.prog 28 #[.slice A bs.length cap] w fun e w' => e = cmRes (mcO bs) ∧ Below w.heap.size w w' := by
  have hcap := hs.1
  have hcap2 := hs.2.1
  have cS := fun (_ : True) => sizeOf_any bs A cap w hs hok (by omega)
  have hsb := sizesOf_bd bs hok
  obtain ⟨R, hR⟩ : ∃ R, mcO bs = R := ⟨_, rfl⟩
  rw [hR]
  by_cases h40 : bs.length ≤ 40
  case neg =>
    have hE : R = none := by rw [← hR]; unfold mcO; rw [if_neg (fun h => h40 h.1)]
    subst hE
    have h4i : (40 : Int) < bs.length := by omega
    unfold cmRes
    clear hR
    go_enter Tryz.func28, Tryz.ntmps28
    go_wp2
    go_ret2
    exact ⟨rfl, Below.refl _ _⟩
  have h4i : ¬ (40 : Int) < bs.length := by omega
  by_cases h2k : sizesOf bs ≤ 2000
  case neg =>
    have hE : R = none := by rw [← hR]; unfold mcO; rw [if_neg (fun h => h2k h.2)]
    subst hE
    have hsi : (2000 : Int) < sizesOf bs := by omega
    unfold cmRes
    clear hR
    generalize sizesOf bs = z at *
    go_enter Tryz.func28, Tryz.ntmps28
    go_wp2_with fail
    refine (cS trivial).mono ?_
    rintro e w1 ⟨rfl, b1⟩
    go_wp2
    go_ret2
    exact ⟨rfl, b1⟩
  have hE : R = some (catT (numB 0 bs)) := by rw [← hR]; unfold mcO; rw [if_pos ⟨h40, h2k⟩]
  subst hE
  have hsi : ¬ (2000 : Int) < sizesOf bs := by omega
  have HOK := Go.Lib.hid hok
  have HSL : Go.RowKit.Hid (∀ wr, Below w.heap.size w wr → Sl wr A bs.length cap 4 (bksV bs)) := fun wr h => hs.below h
  have HE : Go.RowKit.Hid (cmRes (some (catT (numB 0 bs))) = .returned (.tuple #[sv (catT (numB 0 bs)), .bool true])) := rfl
  rw [HE.out]
  obtain ⟨T, hT⟩ : ∃ T, catT (numB 0 bs) = T := ⟨_, rfl⟩
  rw [hT]
  have HT := Go.Lib.hid hT
  clear hR hs hok hT HE
  generalize sizesOf bs = z at *
  go_enter Tryz.func28, Tryz.ntmps28
  go_wp2_with fail
  refine (cS trivial).mono ?_
  rintro e w0 ⟨rfl, hb0⟩
  have hz0 := hb0.size
  clear cS
  have B0 := bld_newR (w := w0) (B := w0.heap.size) (Nat.le_refl _)
  have b0 : Below w0.heap.size w0 (w0.alloc (.cells #[.pointer none, .slice none 0 0] 88)) := (by repeat (first | (with_reducible exact Below.refl _ _) | (with_reducible assumption) | (with_reducible refine Below.drew ?_) | (with_reducible refine Below.alloc ?_ (by first | omega | (simp <;> omega)) _) | (with_reducible refine Below.setCell ?_ (by first | omega | (simp <;> omega)) _) | (with_reducible refine belowN ?_ _)))
  have HKB : Go.RowKit.Hid (∀ wr, Below w0.heap.size w0 wr → Below w.heap.size w wr) := fun wr h => hb0.trans (h.mono (by omega))
  have hsz : w0.heap.size ≤ (w0.alloc (.cells #[.pointer none, .slice none 0 0] 88)).heap.size := by simp
  obtain ⟨bb, hbb⟩ : ∃ bb, w0.heap.size = bb := ⟨_, rfl⟩
  rw [hbb] at B0 b0 HKB hz0 hsz
  clear hb0
  go_wp2
  go_loopw [19] (fun i wr => ∃ (k : Nat) (X : Bs), i = .int .i64 (k : Int) ∧ k ≤ bs.length ∧ X.length ≤ 74 * k ∧ Go.RowKit.Hid (catT (numB 0 (bs.take k)) = X) ∧ Go.Lib.IsBuilderF 88 5 bb bb (X.map u8v) wr ∧ Below bb w0 wr) (fun i _ => bs.length - (intOf i).toNat)
  case atStart => exact ⟨0, [], rfl, by omega, by simp, rfl, B0, b0⟩
  case round =>
    obtain ⟨k, X, rfl, hk, hX, HX, hB, hb⟩ := hrel
    clear B0 b0 hsz
    have hz := hb.size
    rw [hbb] at hz
    have hbw := HKB.out wr hb
    by_cases hlt : k < bs.length
    · have hki : (k : Int) < bs.length := by omega
      have hsA := HSL.out wr hbw
      obtain ⟨g, off, rfl, hg, hc⟩ := Sl.cellK hsA hlt
      have hcs := bksV_at bs k hlt
      have c0 := hc 0 _ hcs.1
      have c1 := hc 1 _ hcs.2.1
      have c2 := hc 2 _ hcs.2.2.1
      have c3 := hc 3 _ hcs.2.2.2
      have hbo := ok_num (HOK.out bs[k] (List.getElem_mem hlt)) (n := (k : Int)) (by omega) (by omega)
      have HS := Go.Lib.hid (numB_take bs k hlt)
      generalize bs[k] = b at *
      obtain ⟨n2, r, n4, D⟩ := b
      simp only at hbo HS
      have hbt := text_le hbo
      have hbs := Blk.ok_size hbo
      have hbl := ok_body hbo
      have cF := fun w => formatBlock_any ⟨(k : Int), r, n4, D⟩ w (by unfold Blk.sm; simp only at hbs hbl ⊢; omega)
      rw [fbRes_ok hbo] at cF
      have HS2 : Go.RowKit.Hid (catT (numB 0 (bs.take (k + 1))) = X ++ (⟨(k : Int), r, n4, D⟩ : Blk).text) := by show _ = _; rw [HS.out, catT_snoc, HX.out]
      generalize (⟨(k : Int), r, n4, D⟩ : Blk).text = d at *
      simp only [Nat.add_zero] at c0 c1 c2 c3
      have bW : Below wr.heap.size wr (wr.alloc (.cells (bkC ⟨(k : Int), r, n4, D⟩) 38)) := (by repeat (first | (with_reducible exact Below.refl _ _) | (with_reducible assumption) | (with_reducible refine Below.drew ?_) | (with_reducible refine Below.alloc ?_ (by first | omega | (simp <;> omega)) _) | (with_reducible refine Below.setCell ?_ (by first | omega | (simp <;> omega)) _) | (with_reducible refine belowN ?_ _)))
      have hB1 := bld_keepI hB bW
      have hN1 := Bk.new wr (bkC ⟨(k : Int), r, n4, D⟩) 38
      have g1 := hb.trans (bW.mono hz)
      clear hc hcs HX HS hbo hsA hB bW hbs hbl
      go_upto_region 8 with (fail)
      generalize wr.alloc (.cells _ 38) = W at *
      have hY1 := hN1.cell
      have hlN := hN1.lt
      clear c0 c1 c2 c3
      go_wp2_with fail
      refine (cF _).mono ?_
      rintro e w2 ⟨rfl, hb2⟩
      have z2 := hb2.size
      have hB2 := bld_keepI hB1 hb2
      have g2 := g1.trans (hb2.mono (by omega))
      clear cF hb2 hB1 hN1 g1 hY1
      have cW := bld_write bb bb (X.map u8v) d _ hB2 (by simp; omega) (by omega)
      have hxl : (X ++ d).length ≤ 74 * (k + 1) := by simp; omega
      have HXL := Go.Lib.hid hxl
      clear hxl
      go_wp2_with fail
      refine cW.mono ?_
      rintro e w3 ⟨rfl, hB3, b3, k3⟩
      have g3 := g2.trans b3
      have hB4 : Go.Lib.IsBuilderF 88 5 bb bb ((X ++ d).map u8v) w3 := by rw [List.map_append]; exact .inr hB3
      have HB4 := Go.Lib.hid hB4
      clear cW hB3 b3 k3 hB2 hB4
      go_wp2
      go_roundw
      case rel => exact ⟨k + 1, X ++ d, by go_num, by omega, HXL.out, HS2, HB4.out, g3⟩
      case measure => simp [intOf]; omega
    · have hki : ¬ (k : Int) < bs.length := by omega
      have h : T = X := by rw [← HT.out, ← HX.out, List.take_of_length_le (by omega)]
      subst h
      have cS := Tryz.Builder_String_any_k bb bb T wr (by unfold Go.Lib.byteCells; exact hB) hz
      go_wp2_with fail
      refine cS.mono ?_
      rintro e w3 ⟨rfl, _, b3, _⟩
      have gw := HKB.out _ (hb.trans b3)
      clear cS b3 hb hB
      go_wp2
      exact bodyPost_ret (v := .tuple #[sv T, .bool true]) (by simp [results, Tryz.results28, go_sem]) rfl ⟨rfl, gw⟩
set_option maxHeartbeats 2000000 in
theorem iMakeContainer_any (o l m : Int) (dict d : Bs) (size : Int) (w : World) (hl : dict.length ≤ 9223372036854775807) (hd : d.length ≤ 9223372036854775807) (hs0 : -1000000 ≤ size) (hs1 : size ≤ 1000000) :
    Calls Tryz.prog 7 #[.agg #[.int .i64 o, .int .i64 l, .int .i64 m], sv dict, sv d, .int .i64 size] w fun e w' => e = cmRes (mkC o l m dict d size) ∧ Below w.heap.size w w' := by
  have hNO : Go.RowKit.Hid (¬ (fits o l m dict ∧ 1 ≤ size ∧ size ≤ 64 ∧ (d.length : Int) ≤ size * 40 ∧ d.length ≤ 2000) → cmRes (mkC o l m dict d size) = .returned (.tuple #[sv [], .bool false])) := fun h => by unfold mkC; rw [if_neg h]; rfl
  by_cases h1 : fits o l m dict
  case neg =>
    have hN := Go.Lib.hid (hNO.out (fun h => h1 h.1))
    have cS := fun w => iStartWith_no o l m dict w h1 hl
    rw [hN.out]
    clear h1 hNO hN
    go_enter Tryz.func7, Tryz.ntmps7
    have hK0 : Bk (w.alloc (.cells #[.int .i64 o, .int .i64 l, .int .i64 m] 24)) w.heap.size 24 #[.int .i64 o, .int .i64 l, .int .i64 m] := (by (repeat (first | (with_reducible assumption) | (with_reducible exact Bk.new _ _ _) | (with_reducible refine Bk.newAt _ _ _ (by simp; done)) | (with_reducible refine Bk.drew ?_) | (with_reducible refine Bk.drewN ?_ _) | (with_reducible refine Bk.alloc ?_ _))); done)
    have g0 : Below w.heap.size w (w.alloc (.cells #[.int .i64 o, .int .i64 l, .int .i64 m] 24)) := (by repeat (first | (with_reducible exact Below.refl _ _) | (with_reducible assumption) | (with_reducible refine Below.drew ?_) | (with_reducible refine Below.alloc ?_ (by first | omega | (simp <;> omega)) _) | (with_reducible refine Below.setCell ?_ (by first | omega | (simp <;> omega)) _) | (with_reducible refine belowN ?_ _)))
    go_upto_region 1 with (fail)
    generalize w.alloc (.cells #[.int .i64 o, .int .i64 l, .int .i64 m] 24) = w0 at *
    have hX0 := hK0.cell
    have hz0 := hK0.lt
    go_wp2_with fail
    refine (cS _).mono ?_
    rintro e w1 ⟨rfl, hb1⟩
    have g1 := g0.trans (hb1.mono (by omega))
    have hz1 := g1.size
    go_wp2
    exact bodyPost_ret (v := .tuple #[sv [], .bool false]) (by simp [results, Tryz.results7, go_sem]) rfl ⟨rfl, (by repeat (first | (with_reducible exact Below.refl _ _) | (with_reducible assumption) | (with_reducible refine Below.drew ?_) | (with_reducible refine Below.alloc ?_ (by first | omega | (simp <;> omega)) _) | (with_reducible refine Below.setCell ?_ (by first | omega | (simp <;> omega)) _) | (with_reducible refine belowN ?_ _)))⟩
  have cS := fun w => iStartWith_any o l m dict w h1
  have hk := startW_ok h1
  have hYES : Go.RowKit.Hid (∀ n : Nat, size = n → 1 ≤ n → n ≤ 64 → d.length ≤ n * 40 → d.length ≤ 2000 → cmRes (mkC o l m dict d size) = cmRes (mcO (mks (startW o l m dict) n d.length d))) := fun n h0 ha hb hc he => by
    rw [mcO_mks o l m dict d n ha (by omega) he]
    unfold mkC
    rw [if_pos ⟨h1, by omega, by omega, by omega, he⟩, h0, Int.toNat_natCast]
  unfold KtRes at cS
  clear h1
  generalize cmRes (mkC o l m dict d size) = G at *
  generalize startW o l m dict = K at *
  by_cases h2 : 1 ≤ size ∧ size ≤ 64
  case neg =>
    have hN := hNO.out (fun h => h2 ⟨h.2.1, h.2.2.1⟩)
    have hdi : decide (1 ≤ size ∧ size ≤ 64) = false := decide_eq_false h2
    subst hN
    clear hNO hYES h2
    go_enter Tryz.func7, Tryz.ntmps7
    have hK0 : Bk (w.alloc (.cells #[.int .i64 o, .int .i64 l, .int .i64 m] 24)) w.heap.size 24 #[.int .i64 o, .int .i64 l, .int .i64 m] := (by (repeat (first | (with_reducible assumption) | (with_reducible exact Bk.new _ _ _) | (with_reducible refine Bk.newAt _ _ _ (by simp; done)) | (with_reducible refine Bk.drew ?_) | (with_reducible refine Bk.drewN ?_ _) | (with_reducible refine Bk.alloc ?_ _))); done)
    have g0 : Below w.heap.size w (w.alloc (.cells #[.int .i64 o, .int .i64 l, .int .i64 m] 24)) := (by repeat (first | (with_reducible exact Below.refl _ _) | (with_reducible assumption) | (with_reducible refine Below.drew ?_) | (with_reducible refine Below.alloc ?_ (by first | omega | (simp <;> omega)) _) | (with_reducible refine Below.setCell ?_ (by first | omega | (simp <;> omega)) _) | (with_reducible refine belowN ?_ _)))
    go_upto_region 1 with (fail)
    generalize w.alloc (.cells #[.int .i64 o, .int .i64 l, .int .i64 m] 24) = w0 at *
    have hX0 := hK0.cell
    have hz0 := hK0.lt
    go_wp2_with fail
    refine (cS _).mono ?_
    rintro e w1 ⟨A1, c1, rfl, o1, hb1⟩
    have hz1 := hb1.size
    have g1 := g0.trans (hb1.mono (by omega))
    have hB2 := Bk.new w1 (knC K A1 c1) 67
    have o2 := o1.alloc (.cells (knC K A1 c1) 67)
    have g2 := g1.alloc (by omega) (.cells (knC K A1 c1) 67)
    clear hb1 hX0 hK0 g0 o1 g1 cS
    go_upto_region 2 with (fail)
    unfold knC at hB2 o2 g2
    generalize w1.alloc (.cells #[.int .i64 K.o, .int .i64 K.l, .int .i64 K.m, .slice A1 K.ps.length c1, .int .i64 K.base, .int .i64 K.last] 67) = W at *
    have hl2 := hB2.lt
    have zg2 := g2.size
    go_wp2_with fail
    refine (sizeValid_any _ _).mono ?_
    rintro e w' ⟨rfl, rfl⟩
    rw [hdi]
    go_wp2
    exact bodyPost_ret (v := .tuple #[sv [], .bool false]) (by simp [results, Tryz.results7, go_sem]) rfl ⟨rfl, g2⟩
  have hdi : decide (1 ≤ size ∧ size ≤ 64) = true := decide_eq_true h2
  obtain ⟨h2a, h2b⟩ := h2
  obtain ⟨n, rfl⟩ := Int.eq_ofNat_of_zero_le (by omega : 0 ≤ size)
  have hnn : ∀ x : Int, (x ≤ 40 * (n : Int)) ↔ x ≤ (n : Int) * 40 := fun x => by omega
  by_cases h3 : d.length ≤ 2000
  case neg =>
    have hN := hNO.out (fun h => h3 h.2.2.2.2)
    have h3i : (2000 : Int) < d.length := by omega
    subst hN
    clear hNO hYES hnn
    go_enter Tryz.func7, Tryz.ntmps7
    have hK0 : Bk (w.alloc (.cells #[.int .i64 o, .int .i64 l, .int .i64 m] 24)) w.heap.size 24 #[.int .i64 o, .int .i64 l, .int .i64 m] := (by (repeat (first | (with_reducible assumption) | (with_reducible exact Bk.new _ _ _) | (with_reducible refine Bk.newAt _ _ _ (by simp; done)) | (with_reducible refine Bk.drew ?_) | (with_reducible refine Bk.drewN ?_ _) | (with_reducible refine Bk.alloc ?_ _))); done)
    have g0 : Below w.heap.size w (w.alloc (.cells #[.int .i64 o, .int .i64 l, .int .i64 m] 24)) := (by repeat (first | (with_reducible exact Below.refl _ _) | (with_reducible assumption) | (with_reducible refine Below.drew ?_) | (with_reducible refine Below.alloc ?_ (by first | omega | (simp <;> omega)) _) | (with_reducible refine Below.setCell ?_ (by first | omega | (simp <;> omega)) _) | (with_reducible refine belowN ?_ _)))
    go_upto_region 1 with (fail)
    generalize w.alloc (.cells #[.int .i64 o, .int .i64 l, .int .i64 m] 24) = w0 at *
    have hX0 := hK0.cell
    have hz0 := hK0.lt
    go_wp2_with fail
    refine (cS _).mono ?_
    rintro e w1 ⟨A1, c1, rfl, o1, hb1⟩
    have hz1 := hb1.size
    have g1 := g0.trans (hb1.mono (by omega))
    have hB2 := Bk.new w1 (knC K A1 c1) 67
    have o2 := o1.alloc (.cells (knC K A1 c1) 67)
    have g2 := g1.alloc (by omega) (.cells (knC K A1 c1) 67)
    clear hb1 hX0 hK0 g0 o1 g1 cS
    go_upto_region 2 with (fail)
    unfold knC at hB2 o2 g2
    generalize w1.alloc (.cells #[.int .i64 K.o, .int .i64 K.l, .int .i64 K.m, .slice A1 K.ps.length c1, .int .i64 K.base, .int .i64 K.last] 67) = W at *
    have hl2 := hB2.lt
    have zg2 := g2.size
    go_wp2_with fail
    refine (sizeValid_any _ _).mono ?_
    rintro e w' ⟨rfl, rfl⟩
    rw [hdi]
    go_wp2
    exact bodyPost_ret (v := .tuple #[sv [], .bool false]) (by simp [results, Tryz.results7, go_sem]) rfl ⟨rfl, g2⟩
  have h3i : ¬ (2000 : Int) < d.length := by omega
  by_cases h4 : d.length ≤ n * 40
  case neg =>
    have hN := hNO.out (fun h => h4 (by have := h.2.2.2.1; omega))
    have h4i : (40 : Int) * (n : Int) < d.length := by omega
    subst hN
    clear hNO hYES hnn
    go_enter Tryz.func7, Tryz.ntmps7
    have hK0 : Bk (w.alloc (.cells #[.int .i64 o, .int .i64 l, .int .i64 m] 24)) w.heap.size 24 #[.int .i64 o, .int .i64 l, .int .i64 m] := (by (repeat (first | (with_reducible assumption) | (with_reducible exact Bk.new _ _ _) | (with_reducible refine Bk.newAt _ _ _ (by simp; done)) | (with_reducible refine Bk.drew ?_) | (with_reducible refine Bk.drewN ?_ _) | (with_reducible refine Bk.alloc ?_ _))); done)
    have g0 : Below w.heap.size w (w.alloc (.cells #[.int .i64 o, .int .i64 l, .int .i64 m] 24)) := (by repeat (first | (with_reducible exact Below.refl _ _) | (with_reducible assumption) | (with_reducible refine Below.drew ?_) | (with_reducible refine Below.alloc ?_ (by first | omega | (simp <;> omega)) _) | (with_reducible refine Below.setCell ?_ (by first | omega | (simp <;> omega)) _) | (with_reducible refine belowN ?_ _)))
    go_upto_region 1 with (fail)
    generalize w.alloc (.cells #[.int .i64 o, .int .i64 l, .int .i64 m] 24) = w0 at *
    have hX0 := hK0.cell
    have hz0 := hK0.lt
    go_wp2_with fail
    refine (cS _).mono ?_
    rintro e w1 ⟨A1, c1, rfl, o1, hb1⟩
    have hz1 := hb1.size
    have g1 := g0.trans (hb1.mono (by omega))
    have hB2 := Bk.new w1 (knC K A1 c1) 67
    have o2 := o1.alloc (.cells (knC K A1 c1) 67)
    have g2 := g1.alloc (by omega) (.cells (knC K A1 c1) 67)
    clear hb1 hX0 hK0 g0 o1 g1 cS
    go_upto_region 2 with (fail)
    unfold knC at hB2 o2 g2
    generalize w1.alloc (.cells #[.int .i64 K.o, .int .i64 K.l, .int .i64 K.m, .slice A1 K.ps.length c1, .int .i64 K.base, .int .i64 K.last] 67) = W at *
    have hl2 := hB2.lt
    have zg2 := g2.size
    go_wp2_with fail
    refine (sizeValid_any _ _).mono ?_
    rintro e w' ⟨rfl, rfl⟩
    rw [hdi]
    go_wp2
    exact bodyPost_ret (v := .tuple #[sv [], .bool false]) (by simp [results, Tryz.results7, go_sem]) rfl ⟨rfl, g2⟩
  · have h4i : ¬ (40 : Int) * (n : Int) < d.length := by omega
    have hN := hYES.out n rfl (by omega) (by omega) h4 h3
    have cM : Go.RowKit.Hid (∀ A cap wr, Sl wr A K.ps.length cap 2 (psV K.ps) → Calls Tryz.prog 29 #[knV K A cap, sv d, .int .i64 (n : Int)] wr (BkR (mks K n d.length d) wr)) := fun A cap wr hs => makeBlocks_any K A cap d n wr hk hs (by omega) (by omega) h3
    have cC : Go.RowKit.Hid (∀ A cap wr, Sl wr A (mks K n d.length d).length cap 4 (bksV (mks K n d.length d)) → Calls Tryz.prog 28 #[.slice A (mks K n d.length d).length cap] wr fun e w' => e = cmRes (mcO (mks K n d.length d)) ∧ Below wr.heap.size wr w') := fun A cap wr hs => iMakeOf_any _ A cap wr hs (mks_ok hk n _ (by omega) (by omega) d) (by have := chunks_len n (by omega) 40 d.length d (by omega); unfold mks; rw [List.length_map]; omega)
    unfold BkR at cM
    subst hN
    clear hNO hYES hnn hk
    generalize mks K n d.length d = bs at *
    generalize mcO bs = O at *
    go_enter Tryz.func7, Tryz.ntmps7
    have hK0 : Bk (w.alloc (.cells #[.int .i64 o, .int .i64 l, .int .i64 m] 24)) w.heap.size 24 #[.int .i64 o, .int .i64 l, .int .i64 m] := (by (repeat (first | (with_reducible assumption) | (with_reducible exact Bk.new _ _ _) | (with_reducible refine Bk.newAt _ _ _ (by simp; done)) | (with_reducible refine Bk.drew ?_) | (with_reducible refine Bk.drewN ?_ _) | (with_reducible refine Bk.alloc ?_ _))); done)
    have g0 : Below w.heap.size w (w.alloc (.cells #[.int .i64 o, .int .i64 l, .int .i64 m] 24)) := (by repeat (first | (with_reducible exact Below.refl _ _) | (with_reducible assumption) | (with_reducible refine Below.drew ?_) | (with_reducible refine Below.alloc ?_ (by first | omega | (simp <;> omega)) _) | (with_reducible refine Below.setCell ?_ (by first | omega | (simp <;> omega)) _) | (with_reducible refine belowN ?_ _)))
    go_upto_region 1 with (fail)
    generalize w.alloc (.cells #[.int .i64 o, .int .i64 l, .int .i64 m] 24) = w0 at *
    have hX0 := hK0.cell
    have hz0 := hK0.lt
    go_wp2_with fail
    refine (cS _).mono ?_
    rintro e w1 ⟨A1, c1, rfl, o1, hb1⟩
    have hz1 := hb1.size
    have g1 := g0.trans (hb1.mono (by omega))
    have hB2 := Bk.new w1 (knC K A1 c1) 67
    have o2 := o1.alloc (.cells (knC K A1 c1) 67)
    have g2 := g1.alloc (by omega) (.cells (knC K A1 c1) 67)
    clear hb1 hX0 hK0 g0 o1 g1 cS
    go_upto_region 2 with (fail)
    unfold knC at hB2 o2 g2
    generalize w1.alloc (.cells #[.int .i64 K.o, .int .i64 K.l, .int .i64 K.m, .slice A1 K.ps.length c1, .int .i64 K.base, .int .i64 K.last] 67) = W at *
    have hl2 := hB2.lt
    have zg2 := g2.size
    go_wp2_with fail
    refine (sizeValid_any _ _).mono ?_
    rintro e w' ⟨rfl, rfl⟩
    rw [hdi]
    have s2 := Sl.own o2
    have hX2 := hB2.cell
    go_wp2_with fail
    refine (cM.out _ _ _ s2).mono ?_
    rintro e w3 ⟨A3, c3, rfl, o3, b3⟩
    have g3 := g2.trans (b3.mono (by omega))
    have s3 := Sl.own o3
    have z3 := b3.size
    clear cM s2 b3 o3 g2 hB2 hX2 o2
    go_wp2_with fail
    refine (cC.out _ _ _ s3).mono ?_
    rintro e w4 ⟨rfl, b4⟩
    have g4 := g3.trans (b4.mono (by omega))
    unfold cmRes
    go_wp2
    exact bodyPost_ret (v := .tuple #[sv (O.getD []), .bool O.isSome]) (by simp [results, Tryz.results7, go_sem]) rfl ⟨rfl, g4⟩
end Go.Proofs.YtfonokhafdflcaaGreat
