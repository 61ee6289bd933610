/- Walks: the law of restored containers. -/
import Derived.Test.YtgcjfddkgbigoaaGreatE16
import Derived.Test.YtgcjfddkgbigoaaGreatP13
import Derived.Test.YtgcjfddkgbigoaaGreatSv
namespace Go.Proofs.YtgcjfddkgbigoaaGreat
open Go.RowKit
set_option linter.unusedSimpArgs false
set_option linter.unusedVariables false
set_option maxRecDepth 100000
attribute [local go_sem high] run_index_S binOp_eql_S binOp_neq_S append_S toList_S size_S run_slice_S run_slice_from_S run_slice_to_S wrap64_byteAt wrap64_byteAt_mul bits_or_bytes convU conv1_some convU2 conv2_some
/-- Some of the first k found blocks has number n. -/
def anyN (fs : List Fd) (n : Int) (k : Nat) : Bool := (fs.take k).any fun f => decide (f.2.num = n)
theorem anyN_succ (fs : List Fd) (n : Int) (k : Nat) (h : k < fs.length) : anyN fs n (k + 1) = (anyN fs n k || decide (fs[k].2.num = n)) := by
  unfold anyN
  rw [List.take_succ_eq_append_getElem h, List.any_append]
  simp
theorem anyN_all (fs : List Fd) (n : Int) : anyN fs n fs.length = (firstF fs n).isSome := by
  unfold anyN firstF
  rw [List.take_length, Option.isSome_map, Bool.eq_iff_iff, List.find?_isSome, List.any_eq_true]
theorem Sl.fdN {w : World} {A : Option Addr} {fs : List Fd} {cap : Nat} (h : Sl w A fs.length cap 5 (fsV fs)) {k : Nat} (hk : k < fs.length) : ∃ g off, A = some ⟨g, off, none⟩ ∧ g < w.heap.size ∧ w.cell? ⟨g, off + k * 5 + 1, none⟩ = some (.int .i64 fs[k].2.num) := by
  obtain ⟨g, off, e, hg, hc⟩ := Sl.cellK h hk
  have hcs := fsV_at fs k hk
  rw [Nat.mul_comm 5 k] at hcs
  exact ⟨g, off, e, hg, hc 1 _ hcs.2.1⟩
set_option maxHeartbeats 1000000 in
theorem law_RepairTrue (bs : Bs) (A : Option Addr) (cap : Nat) (w : World) (hs : Sl w A bs.length cap 1 (bs.map u8v)) :
    Calls Tryz.prog 4 #[.slice A bs.length cap] w fun e w' => e = .returned (.bool true) ∧ Below w.heap.size w w' := by
  go_enter Tryz.func4, Tryz.ntmps4
  by_cases hl0 : 1048576 < bs.length
  · have hli : (1048576 : Int) < bs.length := by omega
    go_wp2
    go_ret
    exact ⟨rfl, Below.refl _ _⟩
  have hli0 : ¬ (1048576 : Int) < bs.length := by omega
  clear hl0
  go_wp2_with fail
  refine (drawRepair_any bs A cap _ hs).mono ?_
  rintro e w1 ⟨⟨l, ps, g, c, A1, c1, rfl, hl, hpl, hpb, hg0, hg1, hc0, hc1, S1⟩, g1⟩
  have z1 := g1.size
  have hcap1 := S1.1
  have HS : Go.RowKit.Hid (∀ wr, Below w1.heap.size w1 wr → Sl wr A1 ps.length c1 1 (ps.map sv)) := fun wr h => S1.below h
  clear hs
  have cI := fun w hs => repair_any l ps g c A1 c1 w hs (by omega) (by omega) (fun t ht => by have := hpb t ht; omega) (by omega) (by omega) (by omega) (by omega)
  have cS := fun w hs => sRepair_any l ps g c A1 c1 w hs (by omega) (by omega) (fun t ht => by have := hpb t ht; omega) (by omega) (by omega) (by omega) (by omega)
  clear hpb
  cases hY : repairB l ps g c with
  | none =>
    rw [hY] at cI cS
    unfold rbRes at cI cS
    simp only at cI cS
    go_wp2_with fail
    refine (cI _ S1).mono ?_
    rintro e w2 ⟨rfl, hb2⟩
    have z2 := hb2.size
    have g2 := g1.trans (hb2.mono (by omega))
    have S2 := HS.out _ hb2
    clear g1 cI S1 hb2
    go_wp2_with fail
    refine (cS _ S2).mono ?_
    rintro e w3 ⟨rfl, hb3⟩
    have g3 := g2.trans (hb3.mono (by omega))
    go_wp2
    go_ret
    exact ⟨ret_bool (by first | rfl | simp), g3⟩
  | some y =>
    obtain ⟨n, bks, rfl, hR⟩ := repair_true (find_ok l) hY
    rw [hY] at cI cS
    unfold rbRes at cI cS
    simp only at cI cS
    clear hY
    have hBk := hR.blk
    have hylen := (blocks_short hBk).1
    have hbl := (blocks_short hBk).2
    have cB := fun w => containerBlocks_any y w (by omega)
    have cFB := fun w => findBlocks_any l w (by omega)
    have cSV := fun w => survivors_any y l w (by omega) (by omega)
    unfold FsRes at cFB
    unfold IsRes at cSV
    unfold BksRes at cB
    rw [survB_some hBk] at cSV
    rw [hBk] at cB
    simp only [Option.getD_some, Option.isSome_some] at cB
    have hfl := findB_len l
    have HLN := Go.Lib.hid hR.len
    have HSU : Go.RowKit.Hid ((survL bks (findB l)).length = fcount (findB l) n) := by
      show _ = _
      have h := hR.surv n (Nat.le_refl _)
      rwa [List.take_of_length_le (by rw [hR.len]; exact Nat.le_refl _)] at h
    have HLO := Go.Lib.hid hR.lost
    have HAN := Go.Lib.hid (fun i : Nat => anyN_all (findB l) (i : Int))
    have HFC := Go.Lib.hid (fun i => fcount_succ (findB l) i)
    have HFE := Go.Lib.hid (fun i => fcount_le (findB l) i)
    have hnl : bks.length = n := hR.len
    have hn40 : n ≤ 40 := by omega
    clear hR hBk hnl
    generalize findB l = F at *
    generalize survL bks F = NS at *
    go_wp2_with fail
    refine (cI _ S1).mono ?_
    rintro e w2 ⟨rfl, hb2⟩
    have z2 := hb2.size
    have g2 := g1.trans (hb2.mono (by omega))
    have S2 := HS.out _ hb2
    clear g1 cI S1 hb2
    go_wp2_with fail
    refine (cS _ S2).mono ?_
    rintro e w3 ⟨rfl, hb3⟩
    have z3 := hb3.size
    have g3 := g2.trans (hb3.mono (by omega))
    clear g2 cS S2 hb3 HS
    go_wp2_with fail
    refine (cB _).mono ?_
    rintro e w4 ⟨A4, c4, rfl, o4, hb4⟩
    have z4 := hb4.size
    have g4 := g3.trans (hb4.mono (by omega))
    clear g3 cB o4 hb4
    go_wp2_with fail
    refine (cFB _).mono ?_
    rintro e w5 ⟨A5, c5, rfl, o5, hb5⟩
    have z5 := hb5.size
    have g5 := g4.trans (hb5.mono (by omega))
    have G5 := Go.Lib.hid g5
    have S5 := own_Sl o5
    have hc5 := S5.1
    have HF5 : Go.RowKit.Hid (∀ wr, Below w5.heap.size w5 wr → Sl wr A5 F.length c5 5 (fsV F)) := fun wr h => S5.below h
    clear g4 cFB o5 hb5 S5
    go_wp2_with fail
    refine (cSV _).mono ?_
    rintro e w6 ⟨A6, c6, rfl, o6, hb6⟩
    have z6 := hb6.size
    have g6 := g5.trans (hb6.mono (by omega))
    clear g5 cSV o6
    go_wp2
    go_loopw [15, 16] (fun q i wr => ∃ k : Nat, q = .int .i64 (fcount F k : Int) ∧ i = .int .i64 (k : Int) ∧ k ≤ bks.length ∧ Below w5.heap.size w5 wr) (fun _ i _ => bks.length - (intOf i).toNat)
    case atStart => exact ⟨0, rfl, rfl, by omega, hb6⟩
    case round =>
      obtain ⟨k, rfl, rfl, hk, hb⟩ := hrel
      have hz := hb.size
      have hfk := HFE.out k
      clear hb6
      by_cases hlt : k < bks.length
      · have hki : (k : Int) < bks.length := by omega
        have HFS := Go.Lib.hid (HFC.out k)
        have HAK := Go.Lib.hid (HAN.out k)
        obtain ⟨wo, rfl⟩ : ∃ wo, wo = wr := ⟨wr, rfl⟩
        generalize fcount F k = Q at *
        go_wp2
        go_loopw [17, 18] (fun s i wr => ∃ j : Nat, s = .bool (anyN F (k : Int) j) ∧ i = .int .i64 (j : Int) ∧ j ≤ F.length ∧ Below w5.heap.size w5 wr) (fun _ i _ => F.length - (intOf i).toNat)
        case atStart => exact ⟨0, rfl, rfl, by omega, hb⟩
        case round =>
          obtain ⟨j, rfl, rfl, hj, hb7⟩ := hrel
          by_cases hjl : j < F.length
          · have hji : (j : Int) < F.length := by omega
            obtain ⟨gf, of, rfl, hgf, c0⟩ := (HF5.out wr hb7).fdN hjl
            have HSU2 := Go.Lib.hid (anyN_succ F (k : Int) j hjl)
            generalize F[j].2.num = X at *
            cases hA : anyN F (k : Int) j
            · have HE : Go.RowKit.Hid (anyN F (k : Int) (j + 1) = (X == (k : Int))) := by show _ = _; rw [HSU2.out, hA, Bool.false_or, Bool.eq_iff_iff, decide_eq_true_eq, beq_iff_eq]
              clear HSU2 hA
              go_wp2
              go_roundw
              case rel => exact ⟨j + 1, by rw [HE.out], by go_num, by omega, hb7⟩
              case measure => simp [intOf]; omega
            · have HE : Go.RowKit.Hid (anyN F (k : Int) (j + 1) = true) := by show _ = _; rw [HSU2.out, hA]; rfl
              clear HSU2 hA
              go_wp2
              go_roundw
              case rel => exact ⟨j + 1, by rw [HE.out], by go_num, by omega, hb7⟩
              case measure => simp [intOf]; omega
          · have hji : ¬ (j : Int) < F.length := by omega
            have hje : j = F.length := by omega
            subst hje
            cases hA : anyN F (k : Int) F.length
            · have HE : Go.RowKit.Hid (fcount F (k + 1) = Q) := by show _ = _; rw [HFS.out, ← HAK.out, hA]; simp
              clear hA
              go_wp2
              go_roundw
              case rel => exact ⟨k + 1, by rw [HE.out], by go_num, by omega, hb7⟩
              case measure => simp [intOf]; omega
            · have HE : Go.RowKit.Hid (fcount F (k + 1) = Q + 1) := by show _ = _; rw [HFS.out, ← HAK.out, hA]; simp
              clear hA
              go_wp2
              go_roundw
              case rel => exact ⟨k + 1, by rw [HE.out]; go_num, by go_num, by omega, hb7⟩
              case measure => simp [intOf]; omega
      · have hki : ¬ (k : Int) < bks.length := by omega
        have hke : k = n := by have := HLN.out; omega
        subst hke
        have hq1 : ((bks.length : Int) == (k : Int)) = true := by rw [HLN.out]; simp
        have hq2 : ((NS.length : Int) == (fcount F k : Int)) = true := by rw [HSU.out]; simp
        have hlo := HLO.out
        generalize fcount F k = Q at *
        have hq3 : (k : Int) - (Q : Int) ≤ ps.length := by omega
        have hw : IntKind.i64.wrap ((k : Int) - (Q : Int)) = (k : Int) - (Q : Int) := IntWalk.i64_in _ (by omega)
        go_wp2
        go_ret
        exact ⟨ret_bool (by first | rfl | simp | (simp; omega)), G5.out.trans (hb.mono (by omega))⟩
end Go.Proofs.YtgcjfddkgbigoaaGreat
