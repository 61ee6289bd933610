/- Walks: the law of shuffled blocks. -/
import Derived.Test.YtgcjfddkgbigoaaE14
import Derived.Test.YtgcjfddkgbigoaaO3
import Derived.Test.YtgcjfddkgbigoaaSv
namespace Go.Proofs.Ytgcjfddkgbigoaa
open Go.RowKit
set_option linter.unusedSimpArgs false
set_option linter.unusedVariables false
set_option maxRecDepth 100000
attribute [local go_sem high] run_index_S binOp_eql_S binOp_neq_S append_S toList_S size_S run_slice_S run_slice_from_S run_slice_to_S wrap64_byteAt wrap64_byteAt_mul bits_or_bytes convU conv1_some convU2 conv2_some
theorem Sl.fd1 {w : World} {A : Option Addr} {fs : List Fd} {cap : Nat} (h : Sl w A fs.length cap 5 (fsV fs)) {k : Nat} (hk : k < fs.length) : ∃ g off, A = some ⟨g, off, none⟩ ∧ g < w.heap.size ∧ w.cell? ⟨g, off + k * 5 + 1, none⟩ = some (.int .i64 fs[k].2.num) := by
  obtain ⟨g, off, e, hg, hc⟩ := Sl.cellK h hk
  have hcs := fsV_at fs k hk
  rw [Nat.mul_comm 5 k] at hcs
  exact ⟨g, off, e, hg, hc 1 _ hcs.2.1⟩
structure ShF (l y : Bs) (o : List Int) (bs : List Blk) : Prop where
  len : y.length = l.length
  flen : (findB y).length = o.length
  num : ∀ i (h : i < (findB y).length) (h2 : i < o.length), (findB y)[i].2.num = o[i]
  surv : (survL bs (findB y)).length = o.length
theorem shufO_fact {l y : Bs} {o : List Int} (h : shufO l o = some y) : ∃ bs, blocksB l = some bs ∧ ShF l y o bs := by
  unfold shufO at h
  cases hB : blocksB l with
  | none => rw [hB] at h; cases h
  | some bs =>
    rw [hB] at h
    simp only at h
    split at h
    case isFalse => cases h
    case isTrue hc =>
      injection h with h
      subst h
      obtain ⟨h1, h2, h3, h4⟩ := shuffle_spec hB hc.1 hc.2
      have hpl : (pickB bs o).length = o.length := by simp [pickB]
      have hfl : (findB (catT (pickB bs o))).length = o.length := by rw [h2, withAt_length, hpl]
      refine ⟨bs, rfl, h1, hfl, fun i hi hi2 => ?_, h3⟩
      obtain ⟨b, hb, hbn⟩ := h4 i hi2
      obtain ⟨x, hx⟩ := withAt_at (pickB bs o) 0 i (by omega)
      rw [← h2, List.getElem?_eq_getElem hi] at hx
      injection hx with hx
      rw [hx]
      rw [List.getElem?_eq_getElem (by omega)] at hb
      injection hb with hb
      simp only
      rw [hb, hbn]
set_option maxHeartbeats 1000000 in
theorem law_Shuffle (bs : Bs) (A : Option Addr) (cap : Nat) (w : World) (hs : Sl w A bs.length cap 1 (bs.map u8v)) :
    Calls Try.prog 9 #[.slice A bs.length cap] w fun e w' => e = .returned (.bool true) ∧ Below w.heap.size w w' := by
  go_enter Try.func9, Try.ntmps9
  by_cases hl0 : 1048576 < bs.length
  · have hli : (1048576 : Int) < bs.length := by omega
    go_wp2
    go_ret
    exact ⟨rfl, Below.refl _ _⟩
  have hli0 : ¬ (1048576 : Int) < bs.length := by omega
  clear hl0
  go_wp2_with fail
  refine (drawShuffle_any bs A cap _ hs).mono ?_
  rintro e w1 ⟨⟨l, o, A1, c1, rfl, hl, hol, S1⟩, g1⟩
  have z1 := g1.size
  have hc1 := S1.1
  have HS : Go.RowKit.Hid (∀ wr, Below w1.heap.size w1 wr → SlI wr A1 c1 o) := fun wr h => S1.below h
  clear hs
  have cI := fun w hs => shuffle_any l o A1 c1 w (by omega) hs (by omega)
  have cS := fun w hs => sShuffle_any l o A1 c1 w (by omega) hs (by omega)
  have hR : obR (shufO l o) = .returned (.tuple #[sv ((shufO l o).getD []), .bool (shufO l o).isSome]) := rfl
  rw [hR] at cI cS
  cases hY : shufO l o with
  | none =>
    rw [hY] at cI cS
    simp only [Option.getD_none, Option.isSome_none] at cI cS
    go_wp2_with fail
    refine (cI _ S1).mono ?_
    rintro e w2 ⟨rfl, hb2⟩
    have z2 := hb2.size
    have g2 := g1.trans (hb2.mono (by omega))
    have S2 := HS.out _ hb2
    clear g1 cI S1 hb2
    go_wp2_with fail
    refine (cS _ S2).mono ?_
    rintro e w3 ⟨rfl, hb3⟩
    have g3 := g2.trans (hb3.mono (by omega))
    go_wp2
    go_ret
    exact ⟨ret_bool (by first | rfl | simp), g3⟩
  | some y =>
    obtain ⟨bks, hBk, hF⟩ := shufO_fact hY
    rw [hY] at cI cS
    simp only [Option.getD_some, Option.isSome_some] at cI cS
    clear hR hY
    have hylen := hF.len
    have cFB := fun w => findBlocks_any y w (by omega)
    have cSV := fun w => survivors_any l y w (by omega) (by omega)
    unfold FsRes at cFB
    unfold IsRes at cSV
    rw [survB_some hBk] at cSV
    have HNU := Go.Lib.hid hF.num
    have HFL := Go.Lib.hid hF.flen
    have HSU := Go.Lib.hid hF.surv
    have hyl : ((y.length : Int) == (l.length : Int)) = true := by rw [hylen]; simp
    have hy9 : y.length ≤ 1500000 := by omega
    clear hF hBk hylen
    generalize survL bks (findB y) = NS at *
    generalize findB y = F at *
    go_wp2_with fail
    refine (cI _ S1).mono ?_
    rintro e w2 ⟨rfl, hb2⟩
    have z2 := hb2.size
    have g2 := g1.trans (hb2.mono (by omega))
    have S2 := HS.out _ hb2
    have d2 := hb2
    clear g1 cI S1 hb2
    go_wp2_with fail
    refine (cS _ S2).mono ?_
    rintro e w3 ⟨rfl, hb3⟩
    have z3 := hb3.size
    have g3 := g2.trans (hb3.mono (by omega))
    have d3 := d2.trans (hb3.mono z2)
    clear g2 cS S2 hb3 d2
    go_wp2_with fail
    refine (cFB _).mono ?_
    rintro e w4 ⟨A4, c4, rfl, o4, hb4⟩
    have z4 := hb4.size
    have g4 := g3.trans (hb4.mono (by omega))
    have D4 := Go.Lib.hid (d3.trans (hb4.mono (by omega)))
    have S4 := own_Sl o4
    have hc4 := S4.1
    have HF4 : Go.RowKit.Hid (∀ wr, Below w4.heap.size w4 wr → Sl wr A4 F.length c4 5 (fsV F)) := fun wr h => S4.below h
    clear g3 cFB hb4 o4 S4 d3
    go_wp2
    go_loopw [10] (fun i wr => ∃ k : Nat, i = .int .i64 (k : Int) ∧ k ≤ F.length ∧ Below w4.heap.size w4 wr) (fun i _ => F.length - (intOf i).toNat)
    case atStart => exact ⟨0, rfl, by omega, (by repeat (first | (with_reducible exact Below.refl _ _) | (with_reducible assumption) | (with_reducible refine Below.drew ?_) | (with_reducible refine Below.alloc ?_ (by first | omega | (simp <;> omega)) _) | (with_reducible refine Below.setCell ?_ (by first | omega | (simp <;> omega)) _) | (with_reducible refine belowN ?_ _)))⟩
    case round =>
      obtain ⟨k, rfl, hk, hb⟩ := hrel
      have hz := hb.size
      by_cases hlt : k < F.length
      · have hki : (k : Int) < F.length := by omega
        have hlt2 : k < o.length := by rw [← HFL.out]; exact hlt
        have hki2 : (k : Int) < o.length := by omega
        obtain ⟨gf, of, rfl, hgf, c0⟩ := (HF4.out wr hb).fd1 hlt
        obtain ⟨g, off, rfl, hg, d0⟩ := (HS.out wr (D4.out.trans (hb.mono (by omega)))).at hlt2
        rw [HNU.out k hlt hlt2] at c0
        generalize o[k] = X at *
        go_wp2_with fail
        go_quiet (fail)
        go_wp2
        go_roundw
        case rel => exact ⟨k + 1, by go_num, by omega, (by repeat (first | (with_reducible exact Below.refl _ _) | (with_reducible assumption) | (with_reducible refine Below.drew ?_) | (with_reducible refine Below.alloc ?_ (by first | omega | (simp <;> omega)) _) | (with_reducible refine Below.setCell ?_ (by first | omega | (simp <;> omega)) _) | (with_reducible refine belowN ?_ _)))⟩
        case measure => simp [intOf]; omega
      · have hki : ¬ (k : Int) < F.length := by omega
        have hq1 : ((F.length : Int) == (o.length : Int)) = true := by rw [HFL.out]; simp
        have hq2 : ((NS.length : Int) == (o.length : Int)) = true := by rw [HSU.out]; simp
        go_wp2_with fail
        refine (cSV _).mono ?_
        rintro e w5 ⟨A5, c5, rfl, o5, hb5⟩
        have g5 := (g4.trans (hb.mono (by omega))).trans (hb5.mono (by omega))
        clear o5
        go_wp2
        go_ret
        exact ⟨ret_bool (by first | rfl | simp), g5⟩
end Go.Proofs.Ytgcjfddkgbigoaa
