/- Walks: the law of checks. -/
import Derived.Test.YtgcjfddkgbigoaaE7
namespace Go.Proofs.Ytgcjfddkgbigoaa
open Go.RowKit
set_option linter.unusedSimpArgs false
set_option linter.unusedVariables false
set_option maxRecDepth 100000
attribute [local go_sem high] run_index_S binOp_eql_S binOp_neq_S append_S toList_S size_S run_slice_S run_slice_from_S run_slice_to_S wrap64_byteAt wrap64_byteAt_mul bits_or_bytes convU conv1_some convU2 conv2_some
set_option maxHeartbeats 4000000 in
theorem law_Check (bs : Bs) (A : Option Addr) (cap : Nat) (w : World) (hs : Sl w A bs.length cap 1 (bs.map u8v)) :
    Calls Try.prog 8 #[.slice A bs.length cap] w fun e w' => e = .returned (.bool true) ∧ Below w.heap.size w w' := by
  go_enter Try.func8, Try.ntmps8
  by_cases hl0 : 1048576 < bs.length
  · have hli : (1048576 : Int) < bs.length := by omega
    go_wp2
    go_ret
    exact ⟨rfl, Below.refl _ _⟩
  have hli0 : ¬ (1048576 : Int) < bs.length := by omega
  clear hl0
  go_wp2_with fail
  refine (drawCheck_any bs A cap _ hs).mono ?_
  rintro e w1 ⟨⟨l, rfl, hl⟩, g1⟩
  have z1 := g1.size
  have cI := fun w => checkContainer_any l w (by omega)
  have cS := fun w => sCheckContainer_any l w (by omega)
  have hC := check_spec l
  generalize checkB l = X at *
  obtain ⟨x1, x2⟩ := X
  unfold ckRes at cI cS
  obtain ⟨k, acc, hk, hkl, hB, hcase⟩ := hC
  simp only at hk hcase cI cS
  subst hk
  have hkl2 : (l.take k).length = k := by simp; omega
  have cA := fun w => containerBlocks_any l w (by omega)
  have cT := fun w => containerBlocks_any (l.take k) w (by rw [hkl2]; omega)
  have cZ := fun w => containerSize_any (l.take k) w (by rw [hkl2]; omega)
  rw [csB_some hB] at cZ
  have hlen := (blocks_short hB).2
  have hsb := sizesOf_bd acc (NumOk_mem (blocks_some hB).1)
  unfold BksRes at cA cT
  rw [hB] at cT
  simp only [Option.getD_some, Option.isSome_some] at cT
  clear hB hkl2
  have hkk : (k : Int) ≤ l.length := by omega
  go_wp2_with fail
  refine (cI _).mono ?_
  rintro e w2 ⟨rfl, hb2⟩
  have z2 := hb2.size
  have g2 := g1.trans (hb2.mono (by omega))
  clear hb2 g1
  go_wp2_with fail
  refine (cS _).mono ?_
  rintro e w3 ⟨rfl, hb3⟩
  have z3 := hb3.size
  have g3 := g2.trans (hb3.mono (by omega))
  clear hb3 g2 cI cS
  go_wp2_with fail
  refine (cA _).mono ?_
  rintro e w4 ⟨A4, c4, rfl, o4, hb4⟩
  have z4 := hb4.size
  have g4 := g3.trans (hb4.mono (by omega))
  clear hb4 g3 cA o4
  go_wp2_with fail
  refine (cT _).mono ?_
  rintro e w5 ⟨A5, c5, rfl, o5, hb5⟩
  have z5 := hb5.size
  have g5 := g4.trans (hb5.mono (by omega))
  clear hb5 g4 o5
  rcases hcase with ⟨rfl, rfl, hsm⟩ | ⟨rfl, hnn, hp⟩ | ⟨rfl, hnn, hp, hn⟩ | ⟨rfl, hnn, hp, hn, hz⟩
  all_goals first | rw [hsm] | rw [hnn]
  all_goals simp only [Option.getD_some, Option.isSome_some, Option.getD_none, Option.isSome_none]
  · by_cases hp : parseOk l l.length = true
    · exact absurd (parse_bd hp).2.1 (by have := (parse_bd hp).2.2.1; omega)
    · have cP := fun w => iParse_no l l.length w (by omega) (by omega) (by omega) (by simpa using hp)
      go_wp2_with fail
      refine (cP _).mono ?_
      rintro e w6 ⟨rfl, hb6⟩
      have z6 := hb6.size
      have g6 := g5.trans (hb6.mono (by omega))
      clear hb6 g5
      go_wp2
      go_ret
      exact ⟨ret_bool (by first | rfl | simp), (by repeat (first | (with_reducible exact Below.refl _ _) | (with_reducible assumption) | (with_reducible refine Below.drew ?_) | (with_reducible refine Below.alloc ?_ (by first | omega | (simp <;> omega)) _) | (with_reducible refine Below.setCell ?_ (by first | omega | (simp <;> omega)) _) | (with_reducible refine belowN ?_ _)))⟩
  · have cP := fun w => iParse_no l k w (by omega) (by omega) (by omega) hp
    go_wp2_with fail
    refine (cP _).mono ?_
    rintro e w6 ⟨rfl, hb6⟩
    have z6 := hb6.size
    have g6 := g5.trans (hb6.mono (by omega))
    clear hb6 g5
    go_wp2
    go_ret
    exact ⟨ret_bool (by first | rfl | simp), (by repeat (first | (with_reducible exact Below.refl _ _) | (with_reducible assumption) | (with_reducible refine Below.drew ?_) | (with_reducible refine Below.alloc ?_ (by first | omega | (simp <;> omega)) _) | (with_reducible refine Below.setCell ?_ (by first | omega | (simp <;> omega)) _) | (with_reducible refine belowN ?_ _)))⟩
  · have cP := fun w => iParse_yes l k w (by omega) (by omega) (by omega) hp
    have hd : ((blkAt l k).num != (acc.length : Int)) = true := by simpa using hn
    clear hp hn
    generalize blkAt l k = b at *
    obtain ⟨n2, r, n4, D⟩ := b
    simp only at hd
    go_wp2_with fail
    refine (cP _).mono ?_
    rintro e w6 ⟨rfl, hb6⟩
    have z6 := hb6.size
    have g6 := g5.trans (hb6.mono (by omega))
    have K6 := Bk.new w6 (bkC ⟨n2, r, n4, D⟩) 32
    clear hb6 g5 cP
    go_wp2_with fail
    refine (cT _).mono ?_
    rintro e w7 ⟨A7, c7, rfl, o7, hb7⟩
    have z7 := hb7.size
    have K7 := (K6.below hb7 (by simp))
    have X7 := K7.cell
    have g7 : Below w.heap.size w w7 := (g6.alloc (by omega) _).trans (hb7.mono (by simp; omega))
    clear hb7 g6 K6 o7
    go_wp2
    go_ret
    exact ⟨ret_bool (by first | rfl | simp | simp [hd]), (by repeat (first | (with_reducible exact Below.refl _ _) | (with_reducible assumption) | (with_reducible refine Below.drew ?_) | (with_reducible refine Below.alloc ?_ (by first | omega | (simp <;> omega)) _) | (with_reducible refine Below.setCell ?_ (by first | omega | (simp <;> omega)) _) | (with_reducible refine belowN ?_ _)))⟩
  · have cP := fun w => iParse_yes l k w (by omega) (by omega) (by omega) hp
    have hbsz := Blk.ok_size (parse_bd hp).2.2.2
    obtain ⟨hzz1, hzz2, _, _⟩ := hbsz
    clear hp hn
    generalize blkAt l k = b at *
    obtain ⟨n2, r, n4, D⟩ := b
    simp only at hz hzz1 hzz2
    generalize sizesOf acc = S at *
    go_wp2_with fail
    refine (cP _).mono ?_
    rintro e w6 ⟨rfl, hb6⟩
    have z6 := hb6.size
    have g6 := g5.trans (hb6.mono (by omega))
    have hX0 : ∀ i, (w6.alloc (.cells (bkC ⟨n2, r, n4, D⟩) 32)).cell? ⟨w6.heap.size, i, none⟩ = (bkC ⟨n2, r, n4, D⟩)[i]? := box_new _ _ _
    have gA : Below w.heap.size w (w6.alloc (.cells (bkC ⟨n2, r, n4, D⟩) 32)) := g6.alloc (by omega) _
    have hW0 : w6.heap.size < (w6.alloc (.cells (bkC ⟨n2, r, n4, D⟩) 32)).heap.size := by simp
    clear hb6 g5 cP g6
    go_wp2_with fail
    generalize w6.alloc (.cells _ 32) = W at *
    have hwr : IntKind.i64.wrap (S + n4) = S + n4 := IntWalk.i64_in _ (by omega)
    have HM : Go.RowKit.Hid (∀ w', Below W.heap.size W w' → (w'.cell? ⟨w6.heap.size, 2, none⟩ = some (.int .i64 n4) ∧ Below W.heap.size W w')) := fun w' h => ⟨(h.cell (p := ⟨_, _, _⟩) (by first | assumption | (simp only; omega) | omega)).trans (hX0 2), h⟩
    go_region_held3 (fun w' => w'.cell? ⟨w6.heap.size, 2, none⟩ = some (.int .i64 n4) ∧ Below W.heap.size W w') ((exact HM.out _ (by repeat (first | (with_reducible exact Below.refl _ _) | (with_reducible assumption) | (with_reducible refine Below.drew ?_) | (with_reducible refine Below.alloc ?_ (by first | omega | (simp <;> omega)) _) | (with_reducible refine Below.setCell ?_ (by first | omega | (simp <;> omega)) _) | (with_reducible refine belowN ?_ _) | (with_reducible refine Below.trans ?_ (Below.mono (by with_reducible assumption) (by first | omega | (simp <;> omega)))))))) (first | (go_at_call 28; refine (cZ _).mono ?_; rintro e w2 ⟨rfl, hb2⟩; have hz2 := hb2.size; (try simp at hz2); try (have hb3 := below_undrew hb2; have hxx := box_keep (box_new _ _ _) hb3 (by simp); have hff := box_free (box_new_free _ _ _) hb3 (by simp))))
    all_goals
      go_wp2
      go_ret
      exact ⟨ret_bool (by first | rfl | (rw [hwr]; simp; omega)), (by repeat (first | (with_reducible exact Below.refl _ _) | (with_reducible assumption) | (with_reducible refine Below.drew ?_) | (with_reducible refine Below.alloc ?_ (by first | omega | (simp <;> omega)) _) | (with_reducible refine Below.setCell ?_ (by first | omega | (simp <;> omega)) _) | (with_reducible refine belowN ?_ _) | (with_reducible refine Below.trans ?_ (Below.mono (by with_reducible assumption) (by first | omega | (simp <;> omega))))))⟩
end Go.Proofs.Ytgcjfddkgbigoaa
