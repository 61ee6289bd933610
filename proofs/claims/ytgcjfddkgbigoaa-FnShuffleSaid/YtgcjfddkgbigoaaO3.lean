/- Walks: the blocks of a container in another order, by the program. -/
import Derived.Test.YtgcjfddkgbigoaaO2
import Derived.Deep.Cut
namespace Go.Proofs.Ytgcjfddkgbigoaa
open Go.RowKit
set_option linter.unusedVariables false
set_option linter.unusedSimpArgs false
set_option maxRecDepth 100000
attribute [local go_sem high] run_index_S binOp_eql_S binOp_neq_S append_S toList_S size_S run_slice_S run_slice_from_S run_slice_to_S wrap64_byteAt wrap64_byteAt_mul bits_or_bytes convU conv1_some convU2 conv2_some
/-- A builder is as it was where a cell of a row of other things is stored. -/
theorem bld_far {w : World} {T e : TypeId} {B b : Nat} {pp : Value} {bs : List Value} (h : Go.Lib.BuilderAtF T e B b pp bs w) {p : Addr} (hb : p.block ≠ b) (hr : ∀ cur fz, w.heap[p.block]? ≠ some (.cells cur e fz)) (u : Value) : Go.Lib.BuilderAtF T e B b pp bs (w.setCell p u) := by
  obtain ⟨hB, v, h1, ⟨ho, ho2⟩, hne⟩ := h
  refine ⟨hB, v, (Below.heap_setCell w p u b (by omega)).trans h1, ⟨ho, ?_⟩, hne⟩
  rcases ho2 with ho2 | ⟨g, cap, cur, fz, rfl, hg, hh, rest⟩
  · exact .inl ho2
  · have hgp : g ≠ p.block := fun e => hr cur fz (e ▸ hh)
    exact .inr ⟨g, cap, cur, fz, rfl, hg, (Below.heap_setCell w p u g (by omega)).trans hh, rest⟩
theorem bld_farI {w : World} {T e : TypeId} {B b : Nat} {bs : List Value} (h : Go.Lib.IsBuilderF T e B b bs w) {p : Addr} (hb : p.block ≠ b) (hr : ∀ cur fz, w.heap[p.block]? ≠ some (.cells cur e fz)) (u : Value) : Go.Lib.IsBuilderF T e B b bs (w.setCell p u) :=
  h.elim (fun h => .inl (bld_far h hb hr u)) (fun h => .inr (bld_far h hb hr u))
theorem row_type {w : World} {B : Nat} {e e2 : TypeId} {s n m cap : Nat} {g : Nat} {xs : List Value} (h : w.ownsRow B e s (.slice (some ⟨g, 0, none⟩) m cap) n xs) (hne : e ≠ e2) : ∀ cur fz, w.heap[g]? ≠ some (.cells cur e2 fz) := by
  rcases h.2 with ⟨h', _⟩ | ⟨g', cap', cur', h', _, hh, _⟩
  · simp at h'
  · simp only [Value.slice.injEq, Option.some.injEq, Addr.mk.injEq, and_true, true_and] at h'
    obtain ⟨rfl, _⟩ := h'
    intro cur fz hc
    rw [hh] at hc
    injection hc with hc
    injection hc with _ hc
    exact hne hc
theorem bld_new3 {w : World} {B : Nat} (hB : B ≤ w.heap.size) : Go.Lib.IsBuilderF 88 5 B w.heap.size [] (w.alloc (.cells #[.pointer none, .slice none 0 0] 88)) :=
  .inl ⟨hB, .slice none 0 0, heap_alloc_new w _, ⟨by simp, .inl ⟨rfl, rfl⟩⟩, by simp [Value.ownBlock]⟩
set_option maxHeartbeats 2000000 in
theorem shuffle_any (l : Bs) (o : List Int) (A : Option Addr) (cap : Nat) (w : World) (hl : l.length ≤ 1500000) (hs : SlI w A cap o) (ho : o.length ≤ 100000) :
    Calls Try.prog 36 #[sv l, .slice A o.length cap] w fun e w' => e = obR (shufO l o) ∧ Below w.heap.size w w' := by
  obtain ⟨i0, hi, hz0, hz1, hz2⟩ := info_parts info_bool
  have cB := fun w => containerBlocks_any l w hl
  have HS : Go.RowKit.Hid (∀ wr, Below w.heap.size w wr → SlI wr A cap o) := fun wr h => hs.below h
  have hcap := hs.1
  unfold BksRes at cB
  clear hs
  cases hB : blocksB l with
  | none =>
    rw [shufO_none hB]
    rw [hB] at cB
    go_enter Try.func36, Try.ntmps36
    go_wp2_with fail
    refine (cB _).mono ?_
    rintro e w1 ⟨A1, c1, rfl, o1, hb1⟩
    clear o1
    go_wp2
    go_ret2
    exact ⟨rfl, hb1⟩
  | some bs =>
    have hlen := (blocks_short hB).2
    have hok := NumOk_mem (blocks_some hB).1
    rw [hB] at cB
    simp only [Option.getD_some, Option.isSome_some] at cB
    have HOK := Go.Lib.hid hok
    have HBAD := Go.Lib.hid (fun h => shufO_bad (o := o) hB h)
    have HSOM := Go.Lib.hid (fun h h2 => shufO_some (o := o) hB h h2)
    generalize obR (shufO l o) = GG at *
    clear hB hok
    by_cases hL : o.length = bs.length
    case neg =>
      have hne : ((o.length : Int) != (bs.length : Int)) = true := by simp; omega
      have HG := Go.Lib.hid (HBAD.out (fun h => hL h.2))
      clear HBAD HSOM hL
      go_enter Try.func36, Try.ntmps36
      go_wp2_with fail
      refine (cB _).mono ?_
      rintro e w1 ⟨A1, c1, rfl, o1, hb1⟩
      clear o1
      go_wp2
      go_ret2
      exact ⟨by rw [HG.out]; rfl, hb1⟩
    case pos =>
    have hne : ((o.length : Int) != (bs.length : Int)) = false := by simp; omega
    have HL := Go.Lib.hid hL
    have hol : o.length ≤ 40 := by omega
    clear hL
    go_enter Try.func36, Try.ntmps36
    go_wp2_with fail
    refine (cB _).mono ?_
    rintro e w1 ⟨A1, c1, rfl, o1, hb1⟩
    have z1 := hb1.size
    have B1 := own_Sl o1
    have hc1 := B1.1
    have HB1 : Go.RowKit.Hid (∀ wr, Below w1.heap.size w1 wr → Sl wr A1 bs.length c1 4 (bksV bs)) := fun wr h => B1.below h
    clear o1 B1 cB
    go_upto_region 4 with fail
    go_wp2_with (at_make; go_must (refine wpList_make_full _ rfl _ _ 85 rfl w1.heap.size 4 i0 (.bool false) 1 Try.underlying85 hi hz0 hz1 _ _ _ _ bs.length rfl rfl (by omega) (by omega) (by rw [hz2]; omega) (by unfold maxLen; omega) (by omega) ?_); intro w2 hown hg1)
    have b2 : Below w1.heap.size w1 w2 := (Below.refl _ _).grown hg1 (Nat.le_refl _) (by simp)
    have z2 := b2.size
    have hlt2 : w1.heap.size < w2.heap.size := (hown.lt _ rfl).2
    clear hg1
    have B0 := bld_new3 (w := w2) (B := w1.heap.size) z2
    have o2 := hown.alloc (.cells #[.pointer none, .slice none 0 0] 88)
    have b3 : Below w1.heap.size w1 (w2.alloc (.cells #[.pointer none, .slice none 0 0] 88)) := b2.alloc z2 _
    rw [Nat.mul_one, show (madeCells (Value.cells (.bool false)) bs.length).toList = seenC bs.length (o.take 0) by rw [List.take_zero, seenC_nil, ← toList_madeCells_one]; rfl] at o2
    clear hown b2
    go_upto_region 6 with fail
    go_loopw [33] (fun i wr => ∃ k : Nat, i = .int .i64 (k : Int) ∧ k ≤ o.length ∧ Go.RowKit.Hid (OrdTo o o.length k) ∧ wr.ownsRow w1.heap.size 4 1 (.slice (some ⟨w1.heap.size, 0, none⟩) bs.length bs.length) bs.length (seenC bs.length (o.take k)) ∧ Go.Lib.IsBuilderF 88 5 w1.heap.size w2.heap.size ((catT (pickB bs (o.take k))).map u8v) wr ∧ Below w1.heap.size w1 wr) (fun i _ => o.length - (intOf i).toNat)
    case atStart => exact ⟨0, rfl, by omega, ordTo_zero o _, o2, B0, b3⟩
    case round =>
      obtain ⟨k, rfl, hk, HO, hown, hBd, hb⟩ := hrel
      have hz := hb.size
      have hlt3 : w1.heap.size < wr.heap.size := (hown.lt _ rfl).2
      clear o2 B0 b3
      by_cases hlt : k < o.length
      · have hki : (k : Int) < o.length := by omega
        obtain ⟨g, off, rfl, hg, c0⟩ := (HS.out wr (hb1.trans (hb.mono z1))).at hlt
        have HLL : (o.length : Int) = bs.length := by rw [HL.out]
        by_cases h0 : o[k] < 0
        · have HB2 := Go.Lib.hid (HBAD.out (fun h => ordTo_bad hlt (.inl h0) h.1))
          generalize o[k] = x at *
          clear hown hBd HLL
          go_wp2
          go_ret2
          exact ⟨by rw [HB2.out]; rfl, hb1.trans (hb.mono z1)⟩
        by_cases h1 : (bs.length : Int) ≤ o[k]
        · have HB2 := Go.Lib.hid (HBAD.out (fun h => ordTo_bad hlt (.inr (.inl (by omega))) h.1))
          generalize o[k] = x at *
          clear hown hBd HLL
          go_wp2
          go_ret2
          exact ⟨by rw [HB2.out]; rfl, hb1.trans (hb.mono z1)⟩
        obtain ⟨m, hm⟩ := Int.eq_ofNat_of_zero_le (show 0 ≤ o[k] by omega)
        have hmn : m < bs.length := by omega
        have hmi : (m : Int) < bs.length := by omega
        have hcl := (hown.cellAt m (by omega)).trans (seenC_at bs.length (o.take k) m hmn)
        rw [hm] at c0
        by_cases h2 : (m : Int) ∈ o.take k
        · have HB2 := Go.Lib.hid (HBAD.out (fun h => ordTo_bad hlt (.inr (.inr (by rw [hm]; exact h2))) h.1))
          rw [decide_eq_true h2] at hcl
          clear hown hBd h0 h1 hm h2 HLL
          go_wp2
          go_ret2
          exact ⟨by rw [HB2.out]; rfl, hb1.trans (hb.mono z1)⟩
        · rw [decide_eq_false h2] at hcl
          have HO2 : Go.RowKit.Hid (OrdTo o o.length (k + 1)) := ordTo_succ HO.out hlt (by omega) (by omega) (by rw [hm]; exact h2)
          have hfr := hown.frozenAt m
          have hrt := row_type hown (e2 := 5) (by decide)
          have hst := (hown.stored m (.bool true)).1
          rw [seenC_set _ _ _ hmn] at hst
          have e : o.take k ++ [(m : Int)] = o.take (k + 1) := by rw [List.take_succ_eq_append_getElem hlt, hm]
          rw [e] at hst
          have hBd2 := bld_farI hBd (p := ⟨w1.heap.size, m, none⟩) (by show w1.heap.size ≠ w2.heap.size; omega) hrt (.bool true)
          have b3 : Below w1.heap.size w1 (wr.setCell ⟨w1.heap.size, m, none⟩ (.bool true)) := hb.setCell (Nat.le_refl _) _
          have HPT := Go.Lib.hid (pick_take hlt hm hmn)
          have HPL : (catT (pickB bs (o.take k))).length ≤ 74 * (o.take k).length := pick_len HOK.out (fun x hx => by have := HO.out.2 x hx; omega)
          rw [List.length_take] at HPL
          have HW := Go.Lib.hid (And.intro hst (And.intro hBd2 b3))
          clear hown h0 h1 hm h2 hst e HO hBd hBd2 b3 hrt HLL
          go_upto_region 12 with fail
          generalize wr.setCell ⟨w1.heap.size, m, none⟩ (.bool true) = W at *
          obtain ⟨o5, B5, b5⟩ := HW.out
          obtain ⟨gb, ob, rfl, hgb, d0, d1, d2, d3⟩ := (HB1.out W b5).bk hmn
          have hbok := HOK.out bs[m] (List.getElem_mem hmn)
          have htl := text_le hbok
          have cT : Go.RowKit.Hid (∀ w, Calls Try.prog 65 #[bkV bs[m]] w fun e w' => e = .returned (.tuple #[sv bs[m].text, .bool true]) ∧ Below w.heap.size w w') := fun w => by
            refine (formatBlock_any bs[m] w (Blk.ok_sm hbok)).mono ?_
            rintro e w' ⟨rfl, h⟩
            exact ⟨by unfold fbRes; rw [if_pos hbok, hbok], h⟩
          clear hbok hcl hfr c0 HW
          generalize bs[m].text = t at *
          generalize bs[m] = b at *
          obtain ⟨n2, r, n4, D⟩ := b
          simp only at d0 d1 d2 d3
          generalize catT (pickB bs (o.take k)) = X at *
          go_wp2_with fail
          refine (cT.out _).mono ?_
          rintro e w3 ⟨rfl, hb3⟩
          have z3 := hb3.size
          have o6 := owns_keep o5 hb3
          have B6 := bld_keepI B5 hb3
          have z5 := b5.size
          have b6 := b5.trans (hb3.mono (by omega))
          have hne6 : (Value.slice (some ⟨w1.heap.size, 0, none⟩) bs.length bs.length).ownBlock ≠ some w2.heap.size := by simp [Value.ownBlock]; omega
          have cW := bld_write w1.heap.size w2.heap.size (X.map u8v) t w3 B6 (by simp; omega) (by omega)
          clear hb3 o5 B5 b5 cT d0 d1 d2 d3
          go_wp2_with fail
          refine cW.mono ?_
          rintro e w7 ⟨rfl, hB7, b7, k7⟩
          have o7 := others_row k7 o6 (by decide) hne6
          have b8 := b6.trans b7
          have hB8 : Go.Lib.IsBuilderF 88 5 w1.heap.size w2.heap.size ((X ++ t).map u8v) w7 := by rw [List.map_append]; exact .inr hB7
          have HB8 := Go.Lib.hid hB8
          clear cW hB7 b7 k7 hB8 b6 B6 o6
          go_wp2
          go_roundw
          case rel => exact ⟨k + 1, by go_num, by omega, HO2, o7, by rw [HPT.out]; exact HB8.out, b8⟩
          case measure => simp [intOf]; omega
      · have hki : ¬ (k : Int) < o.length := by omega
        have hke : k = o.length := by omega
        subst hke
        have hO := ordTo_full HO.out
        have HG := Go.Lib.hid (HSOM.out hO HL.out)
        rw [List.take_length] at hBd
        generalize catT (pickB bs o) = X at *
        have cS := Try.Builder_String_any_k w1.heap.size w2.heap.size X wr (by unfold Go.Lib.byteCells; exact hBd) hz
        clear HO hown hBd HBAD HSOM hO
        go_wp2_with fail
        refine cS.mono ?_
        rintro e w3 ⟨rfl, _, b3, _⟩
        go_wp2
        go_ret2
        exact ⟨by rw [HG.out]; rfl, hb1.trans ((hb.trans b3).mono z1)⟩
end Go.Proofs.Ytgcjfddkgbigoaa
