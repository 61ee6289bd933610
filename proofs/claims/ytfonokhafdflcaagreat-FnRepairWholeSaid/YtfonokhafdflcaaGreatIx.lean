/- Walks: the places of a container's blocks, and the place of an offset, by the program. -/
import Derived.Test.YtfonokhafdflcaaGreatP15
import Derived.Laws.StructEq
import Derived.Deep.Cut
namespace Go.Proofs.YtfonokhafdflcaaGreat
open Go.RowKit
set_option linter.unusedVariables false
set_option linter.unusedSimpArgs false
set_option maxRecDepth 100000
attribute [local go_sem high] run_index_S binOp_eql_S binOp_neq_S append_S toList_S size_S run_slice_S run_slice_from_S run_slice_to_S wrap64_byteAt wrap64_byteAt_mul bits_or_bytes convU conv1_some convU2 conv2_some
/-- The first k places of n; the others are zero still. -/
def plI (bs : List Blk) (k : Nat) : List Value := plV ((List.range k).map (plcAt bs)) ++ List.replicate ((bs.length - k) * 2) (.int .i64 0)
theorem plI_zero (bs : List Blk) : plI bs 0 = List.replicate (bs.length * 2) (.int .i64 0) := by simp [plI, plV]
theorem plI_full (bs : List Blk) : plI bs bs.length = plV (plc bs) := by simp [plI, plc]
theorem plI_set (bs : List Blk) (k : Nat) (h : k < bs.length) : ((plI bs k).set (k * 2) (.int .i64 (plcAt bs k).1)).set (k * 2 + 1) (.int .i64 (plcAt bs k).2) = plI bs (k + 1) := by
  unfold plI
  have e : (plV ((List.range k).map (plcAt bs))).length = k * 2 := by rw [plV_length]; simp
  rw [List.set_append_right _ _ (by omega), e, Nat.sub_self, show (bs.length - k) * 2 = (bs.length - (k + 1)) * 2 + 1 + 1 by omega, List.replicate_succ, List.replicate_succ, List.set_cons_zero,
    List.set_append_right _ _ (by omega), e, show k * 2 + 1 - k * 2 = 1 by omega, range_plc_snoc, plV_snoc, List.append_assoc]
  rfl
theorem plI_cur (bs : List Blk) (k j : Nat) (h : k < bs.length) (hj : j < 2) : (plI bs k)[k * 2 + j]? = some (.int .i64 0) := by
  unfold plI
  have e : (plV ((List.range k).map (plcAt bs))).length = k * 2 := by rw [plV_length]; simp
  rw [List.getElem?_append_right (by omega), e, List.getElem?_replicate, if_pos (by omega)]
theorem madeCells_two (n : Nat) : (madeCells #[.int .i64 0, .int .i64 0] (n * 2)).toList = List.replicate (n * 2) (.int .i64 0) := by
  apply List.ext_getElem?
  intro j
  by_cases hj : j < n * 2
  · have : j % 2 = 0 ∨ j % 2 = 1 := by omega
    rcases this with h | h <;> simp [madeCells, hj, h]
  · simp [madeCells, hj]
theorem plV_app (ps qs : List (Int × Int)) : plV (ps ++ qs) = plV ps ++ plV qs := by unfold plV; rw [List.flatMap_append]
def PlRes2 (l : Bs) (w : World) (e : Ending) (w' : World) : Prop :=
  ∃ A cap, e = .returned (.tuple #[.slice A ((blocksB l).elim [] plc).length cap, .bool (blocksB l).isSome]) ∧ PlRow w A cap ((blocksB l).elim [] plc) w'
set_option maxHeartbeats 600000 in
theorem indexOf_any (l : Bs) (w : World) (hl : l.length ≤ 1500000) : Calls Tryz.prog 11 #[sv l] w (PlRes2 l w) := by
  obtain ⟨i0, hi, hz0, hz1, hz2⟩ := info_parts info_place
  have cB := fun w => containerBlocks_any l w hl
  unfold PlRes2
  unfold BksRes at cB
  cases hB : blocksB l with
  | none =>
    rw [hB] at cB
    go_enter Tryz.func11, Tryz.ntmps11
    go_wp2_with fail
    refine (cB _).mono ?_
    rintro e w1 ⟨A1, c1, rfl, o1, hb1⟩
    go_wp2
    go_ret2
    exact ⟨none, 0, rfl, ⟨by simp [plV], .inl ⟨rfl, rfl⟩⟩, hb1⟩
  | some bs =>
    have hok := NumOk_mem (blocks_some hB).1
    have hlen := (blocks_short hB).2
    rw [hB] at cB
    simp only [Option.getD_some, Option.isSome_some] at cB
    clear hB
    have HBD : Go.RowKit.Hid (∀ k, 0 ≤ (plcAt bs k).1 ∧ (plcAt bs k).1 ≤ 74 * bs.length ∧ 0 ≤ (plcAt bs k).2 ∧ (plcAt bs k).2 ≤ 64 * bs.length) := plcAt_bd bs hok
    have HOK := Go.Lib.hid hok
    show Calls Tryz.prog 11 #[sv l] w fun e w' => ∃ A cap, e = .returned (.tuple #[.slice A (plc bs).length cap, .bool true]) ∧ PlRow w A cap (plc bs) w'
    unfold PlRow
    rw [plc_length]
    obtain ⟨n, hn⟩ : ∃ n, bs.length = n := ⟨_, rfl⟩
    go_enter Tryz.func11, Tryz.ntmps11
    go_wp2_with fail
    refine (cB _).mono ?_
    rintro e w1 ⟨A1, c1, rfl, o1, hb1⟩
    have z1 := hb1.size
    have S1 := own_Sl o1
    have hc1 := S1.1
    have HS : Go.RowKit.Hid (∀ wr, Below w1.heap.size w1 wr → Sl wr A1 bs.length c1 4 (bksV bs)) := fun wr h => S1.below h
    clear S1 o1 cB hok
    rw [hn]
    go_wp2_with (at_make; go_must (refine wpList_make_full _ rfl _ _ 34 rfl w1.heap.size 42 i0 (.agg #[.int .i64 0, .int .i64 0]) 2 Tryz.underlying34 hi hz0 hz1 _ _ _ _ n rfl rfl (by omega) (by omega) (by rw [hz2]; omega) (by unfold maxLen; omega) (by omega) ?_); intro w2 hown hg1)
    have b2 : Below w1.heap.size w1 w2 := (Below.refl _ _).grown hg1 (Nat.le_refl _) (by simp)
    rw [← hn] at *
    have z2 := b2.size
    have hlt2 : w1.heap.size < w2.heap.size := (hown.lt _ rfl).2
    clear hg1
    have K0 := Bk.new w2 #[.int .i64 0, .int .i64 0] 42
    have o2 := hown.alloc (.cells #[.int .i64 0, .int .i64 0] 42)
    have b3 : Below w1.heap.size w1 (w2.alloc (.cells #[.int .i64 0, .int .i64 0] 42)) := b2.alloc (by omega) _
    rw [show Value.cells (.agg #[.int .i64 0, .int .i64 0]) = #[.int .i64 0, .int .i64 0] from rfl, madeCells_two] at o2
    clear hown b2
    go_loopw [23] (fun i wr => ∃ k : Nat, i = .int .i64 (k : Int) ∧ k ≤ bs.length ∧ wr.ownsRow w1.heap.size 42 2 (.slice (some ⟨w1.heap.size, 0, none⟩) bs.length bs.length) bs.length (plI bs k) ∧ Bk wr w2.heap.size 42 #[.int .i64 (plcAt bs k).1, .int .i64 (plcAt bs k).2] ∧ Below w1.heap.size w1 wr) (fun i _ => bs.length - (intOf i).toNat)
    case atStart => exact ⟨0, rfl, by omega, by rw [plI_zero]; exact o2, by simpa [plcAt, catT, sizesOf] using K0, b3⟩
    case round =>
      obtain ⟨k, rfl, hk, hown, hK, hb⟩ := hrel
      have hz := hb.size
      clear o2 K0 b3
      have hbnl := hK.lt
      by_cases hlt : k < bs.length
      · have hki : (k : Int) < bs.length := by omega
        obtain ⟨g, off, rfl, hg, hc⟩ := Sl.cellK (HS.out wr hb) hlt
        have hcs := bksV_at bs k hlt
        have c0 := hc 0 _ hcs.1
        have c1' := hc 1 _ hcs.2.1
        have c2' := hc 2 _ hcs.2.2.1
        have c3' := hc 3 _ hcs.2.2.2
        clear hc hcs
        have HNX := Go.Lib.hid (plcAt_next bs k hlt)
        have HSE := Go.Lib.hid (plI_set bs k hlt)
        have hbd := HBD.out k
        have hblen := Blk.ok_len (HOK.out bs[k] (List.getElem_mem hlt))
        have hsz := Blk.ok_size (HOK.out bs[k] (List.getElem_mem hlt))
        obtain ⟨hzz1, hzz2, _, _⟩ := hsz
        generalize bs[k] = b at *
        obtain ⟨n2, r, n4, D⟩ := b
        simp only [Nat.add_zero] at c0 c1' c2' c3' HNX hblen hzz1 hzz2
        have hD2 : D.length ≤ 64 := hblen.2
        clear hblen
        obtain ⟨x, hx⟩ : ∃ x, (plcAt bs k).1 = x := ⟨_, rfl⟩
        obtain ⟨y, hy⟩ : ∃ y, (plcAt bs k).2 = y := ⟨_, rfl⟩
        rw [hx, hy] at hbd hK HSE HNX
        obtain ⟨hb0, hb1', hb2', hb3'⟩ := hbd
        have hlt3 : w1.heap.size < wr.heap.size := (hown.lt _ rfl).2
        have K1 := hK.alloc (.cells (bkC ⟨n2, r, n4, D⟩) 38)
        have L1 := Bk.new wr (bkC ⟨n2, r, n4, D⟩) 38
        have o3 := hown.alloc (.cells (bkC ⟨n2, r, n4, D⟩) 38)
        have b3 : Below w1.heap.size w1 (wr.alloc (.cells (bkC ⟨n2, r, n4, D⟩) 38)) := hb.alloc (by omega) _
        have hws : wr.heap.size < (wr.alloc (.cells (bkC ⟨n2, r, n4, D⟩) 38)).heap.size := by simp
        go_upto_region 9 with fail
        generalize wr.alloc (.cells _ 38) = W at *
        clear c0 c1' c2' c3' hown hK hb
        have x0 : W.cell? ⟨w2.heap.size, 0, none⟩ = some (.int .i64 x) := K1.cell 0
        have x1 : W.cell? ⟨w2.heap.size, 1, none⟩ = some (.int .i64 y) := K1.cell 1
        have hr1 := o3.frozenAt (k * 2)
        have hr2 := o3.frozenAt (k * 2 + 1)
        have hcl1 := (o3.cellAt (k * 2) (by omega)).trans (plI_cur bs k 0 hlt (by omega))
        have hcl2 := (o3.cellAt (k * 2 + 1) (by omega)).trans (plI_cur bs k 1 hlt (by omega))
        have K2 := K1.far (p := ⟨w1.heap.size, k * 2, none⟩) (by show w2.heap.size ≠ w1.heap.size; omega) (.int .i64 x)
        have L2 := L1.far (p := ⟨w1.heap.size, k * 2, none⟩) (by show wr.heap.size ≠ w1.heap.size; omega) (.int .i64 x)
        have K3 := K2.far (p := ⟨w1.heap.size, k * 2 + 1, none⟩) (by show w2.heap.size ≠ w1.heap.size; omega) (.int .i64 y)
        have L3 := L2.far (p := ⟨w1.heap.size, k * 2 + 1, none⟩) (by show wr.heap.size ≠ w1.heap.size; omega) (.int .i64 y)
        have o4 := (o3.stored (k * 2) (.int .i64 x)).1
        have o5 := (o4.stored (k * 2 + 1) (.int .i64 y)).1
        rw [HSE.out] at o5
        have b5 : Below w1.heap.size w1 ((W.setCell ⟨w1.heap.size, k * 2, none⟩ (.int .i64 x)).setCell ⟨w1.heap.size, k * 2 + 1, none⟩ (.int .i64 y)) := (b3.setCell (Nat.le_refl _) _).setCell (Nat.le_refl _) _
        have HH := Go.Lib.hid (And.intro K3 (And.intro L3 (And.intro o5 b5)))
        clear K1 K2 K3 L1 L2 L3 o3 o4 o5 b3 b5 HSE
        go_upto_region 10 with fail
        generalize (W.setCell ⟨w1.heap.size, k * 2, none⟩ (.int .i64 x)).setCell ⟨w1.heap.size, k * 2 + 1, none⟩ (.int .i64 y) = W2 at *
        clear x0 x1 hr1 hr2 hcl1 hcl2
        obtain ⟨K3, L3, o5, b5⟩ := HH.out
        have x0 : W2.cell? ⟨w2.heap.size, 0, none⟩ = some (.int .i64 x) := K3.cell 0
        have f0 := K3.free 0
        have y3 : W2.cell? ⟨wr.heap.size, 3, none⟩ = some (.string ⟨D.toArray⟩) := L3.cell 3
        have K4 := K3.set 0 (.int .i64 (x + (10 + D.length)))
        have L4 := L3.far (p := ⟨w2.heap.size, 0, none⟩) (by show wr.heap.size ≠ w2.heap.size; omega) (.int .i64 (x + (10 + D.length)))
        have o6 := own_far o5 (p := ⟨w2.heap.size, 0, none⟩) (by rintro _ ⟨⟩; show w1.heap.size ≠ w2.heap.size; omega) (.int .i64 (x + (10 + D.length)))
        have b6 : Below w1.heap.size w1 (W2.setCell ⟨w2.heap.size, 0, none⟩ (.int .i64 (x + (10 + D.length)))) := b5.setCell (by show w1.heap.size ≤ w2.heap.size; omega) _
        have H6 := Go.Lib.hid (And.intro K4 (And.intro L4 (And.intro o6 b6)))
        clear K3 L3 o5 b5 HH K4 L4 o6 b6
        go_upto_region 11 with fail
        generalize W2.setCell ⟨w2.heap.size, 0, none⟩ (.int .i64 (x + (10 + D.length))) = W3 at *
        clear x0 f0 y3
        obtain ⟨K4, L4, o6, b6⟩ := H6.out
        have x1 : W3.cell? ⟨w2.heap.size, 1, none⟩ = some (.int .i64 y) := K4.cell 1
        have f1 := K4.free 1
        have y2 : W3.cell? ⟨wr.heap.size, 2, none⟩ = some (.int .i64 n4) := L4.cell 2
        have K5 := K4.set 1 (.int .i64 (y + n4))
        have o7 := own_far o6 (p := ⟨w2.heap.size, 1, none⟩) (by rintro _ ⟨⟩; show w1.heap.size ≠ w2.heap.size; omega) (.int .i64 (y + n4))
        have b7 : Below w1.heap.size w1 (W3.setCell ⟨w2.heap.size, 1, none⟩ (.int .i64 (y + n4))) := b6.setCell (by show w1.heap.size ≤ w2.heap.size; omega) _
        have H7 := Go.Lib.hid (And.intro K5 (And.intro o7 b7))
        clear K4 L4 o6 b6 H6 K5 o7 b7
        go_wp2
        go_roundw
        case rel => exact ⟨k + 1, by go_num, by omega, H7.out.2.1, by rw [HNX.out]; exact H7.out.1, H7.out.2.2⟩
        case measure => simp [intOf]; omega
      · have hki : ¬ (k : Int) < bs.length := by omega
        have hke : k = bs.length := by omega
        subst hke
        rw [plI_full] at hown
        go_wp2
        go_ret2
        exact ⟨_, _, rfl, own_mono hown z1, hb1.trans (hb.mono z1)⟩
end Go.Proofs.YtfonokhafdflcaaGreat
