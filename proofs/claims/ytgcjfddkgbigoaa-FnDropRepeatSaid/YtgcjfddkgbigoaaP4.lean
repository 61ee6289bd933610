/- Walks: a block parsed, by the program. -/
import Derived.Test.YtgcjfddkgbigoaaP3
namespace Go.Proofs.Ytgcjfddkgbigoaa
open Go.RowKit
set_option linter.unusedVariables false
set_option linter.unusedSimpArgs false
set_option maxRecDepth 100000
attribute [local go_sem high] run_index_S binOp_eql_S binOp_neq_S append_S toList_S size_S run_slice_S run_slice_from_S run_slice_to_S wrap64_byteAt wrap64_byteAt_mul bits_or_bytes convU conv1_some convU2 conv2_some
set_option maxHeartbeats 4000000 in
theorem parseBlock_any (l : Bs) (a : Int) (w : World) (hs : l.length ≤ 1500000) (ha0 : -9223372036854775808 ≤ a) (ha1 : a ≤ 9223372036854775807) :
    Calls Try.prog 21 #[.string ⟨l.toArray⟩, .int .i64 a] w fun e w' => e = pbRes (parseB l a) ∧ Below w.heap.size w w' := by
  by_cases hh : headOk l a = true
  · have HH := Go.Lib.hid hh
    obtain ⟨n, rfl, hn, hb181, hb1⟩ := head_facts hh
    clear hh
    have hi1 : ¬ (n : Int) < 0 := by omega
    have hi2 : ¬ (l.length : Int) - 10 < n := by omega
    have hi4 : ¬ 1 < byteAt l ((n : Int) + 1) := by omega
    have hi5 : (n : Int) < l.length := by omega
    have hi6 : (n : Int) + 1 < l.length := by omega
    have cP6 := fun w => numB_any l (n + 6) w (by omega) (by omega)
    have cP2 := fun w => numB_any l (n + 2) w (by omega) (by omega)
    have cP4 := fun w => numB_any l (n + 4) w (by omega) (by omega)
    have ec6 : ((n + 6 : Nat) : Int) = (n : Int) + 6 := by omega
    have ec2 : ((n + 2 : Nat) : Int) = (n : Int) + 2 := by omega
    have ec4 : ((n + 4 : Nat) : Int) = (n : Int) + 4 := by omega
    rw [ec6] at cP6
    rw [ec2] at cP2
    rw [ec4] at cP4
    clear ec6 ec2 ec4
    have hB : blkAt l n = ⟨numAt l ((n : Int) + 2), decide (byteAt l ((n : Int) + 1) = 0), numAt l ((n : Int) + 4), (l.drop (n + 8)).take (numAt l ((n : Int) + 6)).toNat⟩ := by
      unfold blkAt cutAt
      have h6 := numAt_bd l ((n : Int) + 6)
      rw [show ((n : Int) + 8).toNat = n + 8 by omega, show ((n : Int) + 8 + numAt l (↑n + 6)).toNat - (n + 8) = (numAt l (↑n + 6)).toNat by omega]
    have hE : endAt l n = (n : Int) + 8 + numAt l ((n : Int) + 6) + 2 := rfl
    have hn2 := numAt_bd l ((n : Int) + 2)
    have hn4 := numAt_bd l ((n : Int) + 4)
    have hn6 := numAt_bd l ((n : Int) + 6)
    generalize numAt l ((n : Int) + 2) = n2 at *
    generalize numAt l ((n : Int) + 4) = n4 at *
    obtain ⟨m, hm⟩ := Int.eq_ofNat_of_zero_le hn6.1
    rw [hm] at hB hE cP6 hn6
    rw [Int.toNat_natCast] at hB
    clear hm
    obtain ⟨hn2a, hn2b⟩ := hn2
    obtain ⟨hn4a, hn4b⟩ := hn4
    have hn6b := hn6.2
    clear hn6
    have hm2 : m ≤ 65535 := by omega
    by_cases hfit : n + 10 + m ≤ l.length
    · have hfi : ¬ (l.length : Int) - 2 < (n : Int) + 8 + m := by omega
      have hfi2 : (n : Int) + 8 + m ≤ l.length := by omega
      have cPe := fun w => numB_any l (n + 8 + m) w (by omega) (by omega)
      have ece : ((n + 8 + m : Nat) : Int) = (n : Int) + 8 + m := by omega
      rw [ece] at cPe
      clear ece
      have hP : parseOk l n = ((blkAt l n).ok && decide (sumOf ((l.drop (n + 1)).take (7 + m)) = numAt l ((n : Int) + 8 + m))) := by
        unfold parseOk
        rw [HH.out, decide_eq_true (by rw [hE]; omega : endAt l n ≤ l.length), hE]
        simp only [Bool.true_and]
        have e1 : cutAt l ((n : Int) + 1) ((n : Int) + 8 + m + 2 - 2) = (l.drop (n + 1)).take (7 + m) := by
          unfold cutAt
          rw [show ((n : Int) + 1).toNat = n + 1 by omega, show ((n : Int) + 8 + m + 2 - 2).toNat - (n + 1) = 7 + m by omega]
        rw [e1, show (n : Int) + 8 + m + 2 - 2 = (n : Int) + 8 + m by omega]
      have HP : Go.RowKit.Hid (parseB l n = if (blkAt l n).ok = true ∧ sumOf ((l.drop (n + 1)).take (7 + m)) = numAt l ((n : Int) + 8 + m) then some (blkAt l n, (n : Int) + 8 + m + 2) else none) := by
        show _ = _
        unfold parseB; rw [hP, hE]; simp
      clear hP hE
      have hr : decide (byteAt l ((n : Int) + 1) = 0) = (byteAt l ((n : Int) + 1) == 0) := by
        by_cases h : byteAt l ((n : Int) + 1) = 0 <;> simp [h]
      rw [hr] at hB
      clear hr
      generalize hR : (byteAt l ((n : Int) + 1) == 0) = r at *
      have hbl := byteAt_nonneg l ((n : Int) + 1)
      generalize hD : (l.drop (n + 8)).take m = D at *
      have hDl : D.length ≤ 65535 := by rw [← hD]; simp; omega
      have HD := Go.Lib.hid hD
      clear hD
      have hSx : (⟨l.toArray⟩ : ByteArray).extract (n + 1) (n + 8 + m) = ⟨((l.drop (n + 1)).take (7 + m)).toArray⟩ := by rw [ByteArray.extract_mk]; simp; congr 1; omega
      generalize hTT : (l.drop (n + 1)).take (7 + m) = T at *
      have hTl : T.length ≤ 100000 := by rw [← hTT]; simp; omega
      have hTk : List.take (n + 8 + m - (n + 1)) (List.drop (n + 1) l) = T := by rw [show n + 8 + m - (n + 1) = 7 + m by omega]; exact hTT
      have HB := Go.Lib.hid hB
      clear hB hTT
      have hsm : (⟨n2, r, n4, D⟩ : Blk).sm := ⟨hn2a, hn2b, hn4a, hn4b, by show D.length ≤ _; omega⟩
      have hsb := sumOf_bd T
      go_enter Try.func21, Try.ntmps21
      go_wp2_with fail
      have K0 := Bk.new w bkZC 32
      refine (cP6 _).mono ?_
      rintro e w1 ⟨rfl, hb1⟩
      have K1 := K0.below hb1 K0.lt
      have hz1 := hb1.size
      simp only [World.size_alloc] at hz1
      have g1 : Below w.heap.size w w1 := ((Below.refl _ _).alloc (Nat.le_refl _) _).trans (hb1.mono (by simp))
      clear hb1 K0 cP6
      go_wp2_with fail
      go_cut [9] (fun p wx => ∃ gp : Nat, p = .pointer (some ⟨gp, 0, none⟩) ∧ w1.heap.size ≤ gp ∧ Bk wx gp 32 (bkC ⟨n2, r, n4, D⟩) ∧ Below w1.heap.size w1 wx)
      case first =>
        have hw1 : IntKind.i64.wrap ((n : Int) + 1) = (n : Int) + 1 := IntWalk.i64_in _ (by omega)
        have hw2 : IntKind.i64.wrap ((n : Int) + 2) = (n : Int) + 2 := IntWalk.i64_in _ (by omega)
        have hw4 : IntKind.i64.wrap ((n : Int) + 4) = (n : Int) + 4 := IntWalk.i64_in _ (by omega)
        have hp1 : (0 : Int) ≤ (n : Int) + 1 := by omega
        have hp8 : (0 : Int) ≤ (n : Int) + 8 := by omega
        have hp9 : (0 : Int) ≤ (n : Int) + 8 + m := by omega
        have h89 : (n : Int) + 8 ≤ (n : Int) + 8 + m := by omega
        have ht8 : ((n : Int) + 8).toNat = n + 8 := by omega
        have ht9 : ((n : Int) + 8 + m).toNat = n + 8 + m := by omega
        refine wp_region_held_drew (S := (fun w' => Below w1.heap.size w1 w')) (by kernel_rfl) ?_ (fun hSS => ?_)
        focus (exact (by repeat (first | (with_reducible exact Below.refl _ _) | (with_reducible assumption) | (with_reducible refine Below.drew ?_) | (with_reducible refine Below.alloc ?_ (by first | omega | (simp <;> omega)) _) | (with_reducible refine Below.setCell ?_ (by first | omega | (simp <;> omega)) _) | (with_reducible refine belowN ?_ _) | (with_reducible refine Below.trans ?_ (Below.mono (by with_reducible assumption) (by first | omega | (simp <;> omega)))))))
        refine wpAnyH_take (i := 0) (v := ?_) rfl (by kernel_rfl) (by kernel_rfl) (by kernel_rfl) (fun _ _ _ h => h) (Or.inl ⟨by rfl, ?_⟩) (by assumption) ?_
        rotate_left
        focus (intro w hSw; (try dsimp only at hSw); go_simp; try with_reducible rfl)
        try simp only [Act.put, List.setIfInBounds_toArray, List.set_cons_zero, List.set_cons_succ]
        refine wpAnyH_take (i := 1) (v := ?_) rfl (by kernel_rfl) (by kernel_rfl) (by kernel_rfl) (fun _ _ _ h => h) (Or.inl ⟨by rfl, ?_⟩) (by assumption) ?_
        rotate_left
        focus (intro w hSw; (try dsimp only at hSw); go_simp; try with_reducible rfl)
        try simp only [Act.put, List.setIfInBounds_toArray, List.set_cons_zero, List.set_cons_succ]
        refine wpAnyH_take (i := 2) (v := ?_) rfl (by kernel_rfl) (by kernel_rfl) (by kernel_rfl) (fun _ _ _ h => h) (Or.inl ⟨by rfl, ?_⟩) (by assumption) ?_
        rotate_left
        focus (intro w hSw; (try dsimp only at hSw); go_simp; try with_reducible rfl)
        try simp only [Act.put, List.setIfInBounds_toArray, List.set_cons_zero, List.set_cons_succ]
        refine wpAnyH_take (i := 4) (v := ?_) rfl (by kernel_rfl) (by kernel_rfl) (by kernel_rfl) (fun _ _ _ h => h) (Or.inl ⟨by rfl, ?_⟩) (by assumption) ?_
        rotate_left
        focus (intro w hSw; (try dsimp only at hSw); go_simp; try with_reducible rfl)
        try simp only [Act.put, List.setIfInBounds_toArray, List.set_cons_zero, List.set_cons_succ]
        refine wpAnyH_take (i := 5) (v := ?_) rfl (by kernel_rfl) (by kernel_rfl) (by kernel_rfl) (fun _ _ _ h => h) (Or.inl ⟨by rfl, ?_⟩) (by assumption) ?_
        rotate_left
        focus (intro w hSw; (try dsimp only at hSw); go_simp; try with_reducible rfl)
        try simp only [Act.put, List.setIfInBounds_toArray, List.set_cons_zero, List.set_cons_succ]
        refine wpAnyH_take (i := 6) (v := ?_) rfl (by kernel_rfl) (by kernel_rfl) (by kernel_rfl) (fun _ _ _ h => h) (Or.inl ⟨by rfl, ?_⟩) (by assumption) ?_
        rotate_left
        focus (intro w hSw; (try dsimp only at hSw); go_simp; try with_reducible rfl)
        try simp only [Act.put, List.setIfInBounds_toArray, List.set_cons_zero, List.set_cons_succ]
        refine wpAnyH_take (i := 7) (v := ?_) rfl (by kernel_rfl) (by kernel_rfl) (by kernel_rfl) (fun _ _ _ h => h) (Or.inl ⟨by rfl, ?_⟩) (by assumption) ?_
        rotate_left
        focus (intro w hSw; (try dsimp only at hSw); go_simp; try with_reducible rfl)
        try simp only [Act.put, List.setIfInBounds_toArray, List.set_cons_zero, List.set_cons_succ]
        refine wpAnyH_take (i := 8) (v := ?_) rfl (by kernel_rfl) (by kernel_rfl) (by kernel_rfl) (fun _ _ _ h => h) (Or.inl ⟨by rfl, ?_⟩) (by assumption) ?_
        rotate_left
        focus (intro w hSw; (try dsimp only at hSw); go_simp; try with_reducible rfl)
        try simp only [Act.put, List.setIfInBounds_toArray, List.set_cons_zero, List.set_cons_succ]
        refine wpAnyH_take (i := 9) (v := ?_) rfl (by kernel_rfl) (by kernel_rfl) (by kernel_rfl) (fun _ _ _ h => h) (Or.inl ⟨by rfl, ?_⟩) (by assumption) ?_
        rotate_left
        focus (intro w hSw; (try dsimp only at hSw); go_simp; try with_reducible rfl)
        try simp only [Act.put, List.setIfInBounds_toArray, List.set_cons_zero, List.set_cons_succ]
        refine wpAnyH_take (i := 10) (v := ?_) rfl (by kernel_rfl) (by kernel_rfl) (by kernel_rfl) (fun _ _ _ h => h) (Or.inl ⟨by rfl, ?_⟩) (by assumption) ?_
        rotate_left
        focus (intro w hSw; (try dsimp only at hSw); go_simp; try with_reducible rfl)
        try simp only [Act.put, List.setIfInBounds_toArray, List.set_cons_zero, List.set_cons_succ]
        refine wpAnyH_take (i := 11) (v := ?_) rfl (by kernel_rfl) (by kernel_rfl) (by kernel_rfl) (fun _ _ _ h => h) (Or.inl ⟨by rfl, ?_⟩) (by assumption) ?_
        rotate_left
        focus (intro w hSw; (try dsimp only at hSw); go_simp; try with_reducible rfl)
        try simp only [Act.put, List.setIfInBounds_toArray, List.set_cons_zero, List.set_cons_succ]
        refine wpAnyH_take (i := 13) (v := ?_) rfl (by kernel_rfl) (by kernel_rfl) (by kernel_rfl) (fun _ _ _ h => h) (Or.inl ⟨by rfl, ?_⟩) (by assumption) ?_
        rotate_left
        focus (intro w hSw; (try dsimp only at hSw); go_simp; try with_reducible rfl)
        try simp only [Act.put, List.setIfInBounds_toArray, List.set_cons_zero, List.set_cons_succ]
        refine wpAnyH_take (i := 14) (v := ?_) rfl (by kernel_rfl) (by kernel_rfl) (by kernel_rfl) (fun _ _ _ h => h) (Or.inl ⟨by rfl, ?_⟩) (by assumption) ?_
        rotate_left
        focus (intro w hSw; (try dsimp only at hSw); go_simp; try with_reducible rfl)
        try simp only [Act.put, List.setIfInBounds_toArray, List.set_cons_zero, List.set_cons_succ]
        refine wpAnyH_take (i := 15) (v := ?_) rfl (by kernel_rfl) (by kernel_rfl) (by kernel_rfl) (fun _ _ _ h => h) (Or.inl ⟨by rfl, ?_⟩) (by assumption) ?_
        rotate_left
        focus (intro w hSw; (try dsimp only at hSw); go_simp; try with_reducible rfl)
        try simp only [Act.put, List.setIfInBounds_toArray, List.set_cons_zero, List.set_cons_succ]
        refine wpAnyH_take (i := 16) (v := ?_) rfl (by kernel_rfl) (by kernel_rfl) (by kernel_rfl) (fun _ _ _ h => h) (Or.inl ⟨by rfl, ?_⟩) (by assumption) ?_
        rotate_left
        focus (intro w hSw; (try dsimp only at hSw); go_simp; try with_reducible rfl)
        try simp only [Act.put, List.setIfInBounds_toArray, List.set_cons_zero, List.set_cons_succ]
        refine wpAnyH_ready (rs := [3, 18]) (by kernel_rfl) (by simp) ?_
        refine (AllReadyH.cons (o := _) rfl (fun KK hKK => ?_) (AllReadyH.cons (o := _) rfl (fun KK hKK => ?_) AllReadyH.nil))
        ·
          go_simp
          (go_at_call 55; (with_reducible refine (cP2 _).mono ?_); rintro e w2 ⟨rfl, hb2⟩; have hz2 := hb2.size; (try simp at hz2))
          refine hKK.out _ _ ?_ (fun hSS => ?_)
          focus (exact (by repeat (first | (with_reducible exact Below.refl _ _) | (with_reducible assumption) | (with_reducible refine Below.drew ?_) | (with_reducible refine Below.alloc ?_ (by first | omega | (simp <;> omega)) _) | (with_reducible refine Below.setCell ?_ (by first | omega | (simp <;> omega)) _) | (with_reducible refine belowN ?_ _) | (with_reducible refine Below.trans ?_ (Below.mono (by with_reducible assumption) (by first | omega | (simp <;> omega)))))))
          try simp only [Act.put, List.setIfInBounds_toArray, List.set_cons_zero, List.set_cons_succ]
          refine wpAnyH_ready (rs := [12, 18]) (by kernel_rfl) (by simp) ?_
          refine (AllReadyH.cons (o := _) rfl (fun KK hKK => ?_) (AllReadyH.cons (o := _) rfl (fun KK hKK => ?_) AllReadyH.nil))
          ·
            go_simp
            (go_at_call 55; (with_reducible refine (cP4 _).mono ?_); rintro e w3 ⟨rfl, hb3⟩; have hz3 := hb3.size)
            refine hKK.out _ _ ?_ (fun hSS => ?_)
            focus (exact (by repeat (first | (with_reducible exact Below.refl _ _) | (with_reducible assumption) | (with_reducible refine Below.drew ?_) | (with_reducible refine Below.alloc ?_ (by first | omega | (simp <;> omega)) _) | (with_reducible refine Below.setCell ?_ (by first | omega | (simp <;> omega)) _) | (with_reducible refine belowN ?_ _) | (with_reducible refine Below.trans ?_ (Below.mono (by with_reducible assumption) (by first | omega | (simp <;> omega)))))))
            try simp only [Act.put, List.setIfInBounds_toArray, List.set_cons_zero, List.set_cons_succ]
            refine wpAnyH_take (i := 17) (v := ?_) rfl (by kernel_rfl) (by kernel_rfl) (by kernel_rfl) (fun _ _ _ h => h) (Or.inl ⟨by rfl, ?_⟩) (by assumption) ?_
            rotate_left
            focus (intro w hSw; (try dsimp only at hSw); go_simp; try with_reducible rfl)
            try simp only [Act.put, List.setIfInBounds_toArray, List.set_cons_zero, List.set_cons_succ]
            refine wpAnyH_ready (rs := [18]) (by kernel_rfl) (by simp) ?_
            refine (AllReadyH.cons (o := _) rfl (fun KK hKK => ?_) AllReadyH.nil)
            go_simp
            refine hKK.out _ _ ?_ (fun hSS => ?_)
            focus (exact (by repeat (first | (with_reducible exact Below.refl _ _) | (with_reducible assumption) | (with_reducible refine Below.drew ?_) | (with_reducible refine Below.alloc ?_ (by first | omega | (simp <;> omega)) _) | (with_reducible refine Below.setCell ?_ (by first | omega | (simp <;> omega)) _) | (with_reducible refine belowN ?_ _) | (with_reducible refine Below.trans ?_ (Below.mono (by with_reducible assumption) (by first | omega | (simp <;> omega)))))))
            try simp only [Act.put, List.setIfInBounds_toArray, List.set_cons_zero, List.set_cons_succ]
            refine wpAnyH_ready (rs := [19]) (by kernel_rfl) (by simp) ?_
            refine (AllReadyH.cons (o := _) rfl (fun KK hKK => ?_) AllReadyH.nil)
            go_simp
            refine hKK.out _ _ ?_ (fun hSS => ?_)
            focus (exact (by repeat (first | (with_reducible exact Below.refl _ _) | (with_reducible assumption) | (with_reducible refine Below.drew ?_) | (with_reducible refine Below.alloc ?_ (by first | omega | (simp <;> omega)) _) | (with_reducible refine Below.setCell ?_ (by first | omega | (simp <;> omega)) _) | (with_reducible refine belowN ?_ _) | (with_reducible refine Below.trans ?_ (Below.mono (by with_reducible assumption) (by first | omega | (simp <;> omega)))))))
            try simp only [Act.put, List.setIfInBounds_toArray, List.set_cons_zero, List.set_cons_succ]
            refine wpAnyH_done (by kernel_rfl) ?_ _
            go_wp2_with fail
            go_meet
            rw [HD.out]
            exact ⟨_, rfl, by first | omega | (simp; omega), Bk.new _ _ _, (by repeat (first | (with_reducible exact Below.refl _ _) | (with_reducible assumption) | (with_reducible refine Below.drew ?_) | (with_reducible refine Below.alloc ?_ (by first | omega | (simp <;> omega)) _) | (with_reducible refine Below.setCell ?_ (by first | omega | (simp <;> omega)) _) | (with_reducible refine belowN ?_ _) | (with_reducible refine Below.trans ?_ (Below.mono (by with_reducible assumption) (by first | omega | (simp <;> omega))))))⟩
          ·
            go_simp
            refine hKK.out _ _ ?_ (fun hSS => ?_)
            focus (exact (by repeat (first | (with_reducible exact Below.refl _ _) | (with_reducible assumption) | (with_reducible refine Below.drew ?_) | (with_reducible refine Below.alloc ?_ (by first | omega | (simp <;> omega)) _) | (with_reducible refine Below.setCell ?_ (by first | omega | (simp <;> omega)) _) | (with_reducible refine belowN ?_ _) | (with_reducible refine Below.trans ?_ (Below.mono (by with_reducible assumption) (by first | omega | (simp <;> omega)))))))
            try simp only [Act.put, List.setIfInBounds_toArray, List.set_cons_zero, List.set_cons_succ]
            refine wpAnyH_ready (rs := [12]) (by kernel_rfl) (by simp) ?_
            refine (AllReadyH.cons (o := _) rfl (fun KK hKK => ?_) AllReadyH.nil)
            go_simp
            (go_at_call 55; (with_reducible refine (cP4 _).mono ?_); rintro e w3 ⟨rfl, hb3⟩; have hz3 := hb3.size; simp at hz3; have K3 := Bk.below (Bk.new w2 bkZC 32) hb3 (by simp); have X3 := K3.cell; have F3 := K3.free)
            refine hKK.out _ _ ?_ (fun hSS => ?_)
            focus (exact (by repeat (first | (with_reducible exact Below.refl _ _) | (with_reducible assumption) | (with_reducible refine Below.drew ?_) | (with_reducible refine Below.alloc ?_ (by first | omega | (simp <;> omega)) _) | (with_reducible refine Below.setCell ?_ (by first | omega | (simp <;> omega)) _) | (with_reducible refine belowN ?_ _) | (with_reducible refine Below.trans ?_ (Below.mono (by with_reducible assumption) (by first | omega | (simp <;> omega)))))))
            try simp only [Act.put, List.setIfInBounds_toArray, List.set_cons_zero, List.set_cons_succ]
            refine wpAnyH_take (i := 17) (v := ?_) rfl (by kernel_rfl) (by kernel_rfl) (by kernel_rfl) (fun _ _ _ h => h) (Or.inl ⟨by rfl, ?_⟩) (by assumption) ?_
            rotate_left
            focus (intro w hSw; (try dsimp only at hSw); go_simp; try with_reducible rfl)
            try simp only [Act.put, List.setIfInBounds_toArray, List.set_cons_zero, List.set_cons_succ]
            refine wpAnyH_ready (rs := [19]) (by kernel_rfl) (by simp) ?_
            refine (AllReadyH.cons (o := _) rfl (fun KK hKK => ?_) AllReadyH.nil)
            go_simp
            refine hKK.out _ _ ?_ (fun hSS => ?_)
            focus (exact (by repeat (first | (with_reducible exact Below.refl _ _) | (with_reducible assumption) | (with_reducible refine Below.drew ?_) | (with_reducible refine Below.alloc ?_ (by first | omega | (simp <;> omega)) _) | (with_reducible refine Below.setCell ?_ (by first | omega | (simp <;> omega)) _) | (with_reducible refine belowN ?_ _) | (with_reducible refine Below.trans ?_ (Below.mono (by with_reducible assumption) (by first | omega | (simp <;> omega)))))))
            try simp only [Act.put, List.setIfInBounds_toArray, List.set_cons_zero, List.set_cons_succ]
            refine wpAnyH_done (by kernel_rfl) ?_ _
            go_wp2_with fail
            go_meet
            rw [HD.out]
            exact ⟨_, rfl, by first | omega | (simp; omega), (((K3.set 0 _).set 1 _).set 2 _).set 3 _, (by repeat (first | (with_reducible exact Below.refl _ _) | (with_reducible assumption) | (with_reducible refine Below.drew ?_) | (with_reducible refine Below.alloc ?_ (by first | omega | (simp <;> omega)) _) | (with_reducible refine Below.setCell ?_ (by first | omega | (simp <;> omega)) _) | (with_reducible refine belowN ?_ _) | (with_reducible refine Below.trans ?_ (Below.mono (by with_reducible assumption) (by first | omega | (simp <;> omega))))))⟩
        ·
          go_simp
          refine hKK.out _ _ ?_ (fun hSS => ?_)
          focus (exact (by repeat (first | (with_reducible exact Below.refl _ _) | (with_reducible assumption) | (with_reducible refine Below.drew ?_) | (with_reducible refine Below.alloc ?_ (by first | omega | (simp <;> omega)) _) | (with_reducible refine Below.setCell ?_ (by first | omega | (simp <;> omega)) _) | (with_reducible refine belowN ?_ _) | (with_reducible refine Below.trans ?_ (Below.mono (by with_reducible assumption) (by first | omega | (simp <;> omega)))))))
          try simp only [Act.put, List.setIfInBounds_toArray, List.set_cons_zero, List.set_cons_succ]
          refine wpAnyH_ready (rs := [3]) (by kernel_rfl) (by simp) ?_
          refine (AllReadyH.cons (o := _) rfl (fun KK hKK => ?_) AllReadyH.nil)
          go_simp
          (go_at_call 55; (with_reducible refine (cP2 _).mono ?_); rintro e w2 ⟨rfl, hb2⟩; have hz2 := hb2.size; simp at hz2; have K2 := Bk.below (Bk.drew (Bk.new w1 bkZC 32)) hb2 (by simp))
          refine hKK.out _ _ ?_ (fun hSS => ?_)
          focus (exact (by repeat (first | (with_reducible exact Below.refl _ _) | (with_reducible assumption) | (with_reducible refine Below.drew ?_) | (with_reducible refine Below.alloc ?_ (by first | omega | (simp <;> omega)) _) | (with_reducible refine Below.setCell ?_ (by first | omega | (simp <;> omega)) _) | (with_reducible refine belowN ?_ _) | (with_reducible refine Below.trans ?_ (Below.mono (by with_reducible assumption) (by first | omega | (simp <;> omega)))))))
          try simp only [Act.put, List.setIfInBounds_toArray, List.set_cons_zero, List.set_cons_succ]
          refine wpAnyH_ready (rs := [12]) (by kernel_rfl) (by simp) ?_
          refine (AllReadyH.cons (o := _) rfl (fun KK hKK => ?_) AllReadyH.nil)
          go_simp
          (go_at_call 55; (with_reducible refine (cP4 _).mono ?_); rintro e w3 ⟨rfl, hb3⟩; have hz3 := hb3.size; have K3 := Bk.below K2 hb3 K2.lt; have X3 := K3.cell; have F3 := K3.free)
          refine hKK.out _ _ ?_ (fun hSS => ?_)
          focus (exact (by repeat (first | (with_reducible exact Below.refl _ _) | (with_reducible assumption) | (with_reducible refine Below.drew ?_) | (with_reducible refine Below.alloc ?_ (by first | omega | (simp <;> omega)) _) | (with_reducible refine Below.setCell ?_ (by first | omega | (simp <;> omega)) _) | (with_reducible refine belowN ?_ _) | (with_reducible refine Below.trans ?_ (Below.mono (by with_reducible assumption) (by first | omega | (simp <;> omega)))))))
          try simp only [Act.put, List.setIfInBounds_toArray, List.set_cons_zero, List.set_cons_succ]
          refine wpAnyH_take (i := 17) (v := ?_) rfl (by kernel_rfl) (by kernel_rfl) (by kernel_rfl) (fun _ _ _ h => h) (Or.inl ⟨by rfl, ?_⟩) (by assumption) ?_
          rotate_left
          focus (intro w hSw; (try dsimp only at hSw); go_simp; try with_reducible rfl)
          try simp only [Act.put, List.setIfInBounds_toArray, List.set_cons_zero, List.set_cons_succ]
          refine wpAnyH_ready (rs := [19]) (by kernel_rfl) (by simp) ?_
          refine (AllReadyH.cons (o := _) rfl (fun KK hKK => ?_) AllReadyH.nil)
          go_simp
          refine hKK.out _ _ ?_ (fun hSS => ?_)
          focus (exact (by repeat (first | (with_reducible exact Below.refl _ _) | (with_reducible assumption) | (with_reducible refine Below.drew ?_) | (with_reducible refine Below.alloc ?_ (by first | omega | (simp <;> omega)) _) | (with_reducible refine Below.setCell ?_ (by first | omega | (simp <;> omega)) _) | (with_reducible refine belowN ?_ _) | (with_reducible refine Below.trans ?_ (Below.mono (by with_reducible assumption) (by first | omega | (simp <;> omega)))))))
          try simp only [Act.put, List.setIfInBounds_toArray, List.set_cons_zero, List.set_cons_succ]
          refine wpAnyH_done (by kernel_rfl) ?_ _
          go_wp2_with fail
          go_meet
          rw [HD.out]
          exact ⟨_, rfl, by first | omega | (simp; omega), (((K3.set 0 _).set 1 _).set 2 _).set 3 _, (by repeat (first | (with_reducible exact Below.refl _ _) | (with_reducible assumption) | (with_reducible refine Below.drew ?_) | (with_reducible refine Below.alloc ?_ (by first | omega | (simp <;> omega)) _) | (with_reducible refine Below.setCell ?_ (by first | omega | (simp <;> omega)) _) | (with_reducible refine belowN ?_ _) | (with_reducible refine Below.trans ?_ (Below.mono (by with_reducible assumption) (by first | omega | (simp <;> omega))))))⟩
      case rest =>
        obtain ⟨gp, rfl, hgp, hbk, hb3⟩ := hcut
        have K3 := K1.below hb3 (by omega)
        have g3 := g1.trans (hb3.mono (by omega))
        have hz3 := hb3.size
        have hgl := hbk.lt
        clear K1 g1 hb3
        have X3 := K3.cell
        have F3 := K3.free
        have Y3 := hbk.cell
        have hne : ¬ gp = w.heap.size := by omega
        have hp1 : (0 : Int) ≤ (n : Int) + 1 := by omega
        have hpe : (n : Int) + 1 ≤ (n : Int) + 8 + m := by omega
        have cF := fun w => blockValid_any ⟨n2, r, n4, D⟩ w hsm
        have HP2 : Go.RowKit.Hid (parseB l n = if (⟨n2, r, n4, D⟩ : Blk).ok = true ∧ sumOf T = numAt l ((n : Int) + 8 + m) then some (⟨n2, r, n4, D⟩, (n : Int) + 8 + m + 2) else none) := by
          show _ = _
          rw [HP.out, HB.out]
        clear HP HB hsm
        generalize (⟨n2, r, n4, D⟩ : Blk).ok = ok at *
        generalize numAt l ((n : Int) + 8 + m) = N at *
        have hcases : ok = false ∨ (ok = true ∧ ((sumOf T == N) = false ∧ (sumOf T != N) = true ∨ (sumOf T == N) = true ∧ (sumOf T != N) = false)) := by
          cases ok
          · exact .inl rfl
          · refine .inr ⟨rfl, ?_⟩
            by_cases h : sumOf T = N
            · right; simp [h]
            · left; simp [h]
        rcases hcases with rfl | ⟨rfl, ⟨hd, hd2⟩ | ⟨hd, hd2⟩⟩
        · have HR : Go.RowKit.Hid (pbRes (parseB l n) = .returned (.tuple #[.agg bkZC, .int .i64 0, .bool false])) := by show _ = _; rw [HP2.out]; simp; rfl
          clear HP2
          go_wp2_with fail
          refine (cF _).mono ?_
          rintro e w4 ⟨rfl, hb4⟩
          have K4 := K3.below hb4 (by omega)
          have g4 := g3.trans (hb4.mono (by omega))
          have X4 := K4.cell
          have F4 := K4.free
          clear X3 F3
          go_wp2
          exact bodyPost_ret (v := .tuple #[.agg bkZC, .int .i64 0, .bool false]) (by simp [results, Try.results21, go_sem, X4]) rfl ⟨HR.out.symm, (by repeat (first | (with_reducible exact Below.refl _ _) | (with_reducible assumption) | (with_reducible refine Below.drew ?_) | (with_reducible refine Below.alloc ?_ (by first | omega | (simp <;> omega)) _) | (with_reducible refine Below.setCell ?_ (by first | omega | (simp <;> omega)) _) | (with_reducible refine belowN ?_ _)))⟩
        · have HR : Go.RowKit.Hid (pbRes (parseB l n) = .returned (.tuple #[.agg bkZC, .int .i64 0, .bool false])) := by show _ = _; rw [HP2.out, if_neg (fun h => by simp [h.2] at hd)]; rfl
          clear HP2
          go_wp2_with fail
          refine (cF _).mono ?_
          rintro e w4 ⟨rfl, hb4⟩
          have K4 := K3.below hb4 (by omega)
          have hz4 := hb4.size
          have g4 := g3.trans (hb4.mono (by omega))
          clear X3 F3 hb4
          go_wp2_with fail
          refine (sumOf_any T _ (by omega)).mono ?_
          rintro e w5 ⟨rfl, rfl⟩
          go_wp2_with fail
          refine (cPe _).mono ?_
          rintro e w5 ⟨rfl, hb5⟩
          have K5 := K4.below hb5 (by omega)
          have g5 := g4.trans (hb5.mono (by omega))
          have X4 := K5.cell
          have F4 := K5.free
          go_wp2
          exact bodyPost_ret (v := .tuple #[.agg bkZC, .int .i64 0, .bool false]) (by simp [results, Try.results21, go_sem, X4]) rfl ⟨HR.out.symm, (by repeat (first | (with_reducible exact Below.refl _ _) | (with_reducible assumption) | (with_reducible refine Below.drew ?_) | (with_reducible refine Below.alloc ?_ (by first | omega | (simp <;> omega)) _) | (with_reducible refine Below.setCell ?_ (by first | omega | (simp <;> omega)) _) | (with_reducible refine belowN ?_ _)))⟩
        · have HR : Go.RowKit.Hid (pbRes (parseB l n) = .returned (.tuple #[bkV ⟨n2, r, n4, D⟩, .int .i64 ((n : Int) + 8 + m + 2), .bool true])) := by show _ = _; rw [HP2.out, if_pos ⟨rfl, by simpa using hd⟩]; rfl
          clear HP2
          go_wp2_with fail
          refine (cF _).mono ?_
          rintro e w4 ⟨rfl, hb4⟩
          have K4 := K3.below hb4 (by omega)
          have k4 := hbk.below hb4 (by omega)
          have hz4 := hb4.size
          have g4 := g3.trans (hb4.mono (by omega))
          clear X3 F3 Y3 hb4
          go_wp2_with fail
          refine (sumOf_any T _ (by omega)).mono ?_
          rintro e w5 ⟨rfl, rfl⟩
          go_wp2_with fail
          refine (cPe _).mono ?_
          rintro e w5 ⟨rfl, hb5⟩
          have K5 := K4.below hb5 (by omega)
          have k5 := k4.below hb5 (by omega)
          have g5 := g4.trans (hb5.mono (by omega))
          have X4 := K5.cell
          have F4 := K5.free
          have Y4 := k5.cell
          go_wp2
          exact bodyPost_ret (v := .tuple #[bkV ⟨n2, r, n4, D⟩, .int .i64 ((n : Int) + 8 + m + 2), .bool true]) (by simp [results, Try.results21, go_sem, X4]) rfl ⟨HR.out.symm, (by repeat (first | (with_reducible exact Below.refl _ _) | (with_reducible assumption) | (with_reducible refine Below.drew ?_) | (with_reducible refine Below.alloc ?_ (by first | omega | (simp <;> omega)) _) | (with_reducible refine Below.setCell ?_ (by first | omega | (simp <;> omega)) _) | (with_reducible refine belowN ?_ _)))⟩
    · have hfi : (l.length : Int) - 2 < (n : Int) + 8 + m := by omega
      have HR : Go.RowKit.Hid (pbRes (parseB l n) = .returned (.tuple #[.agg bkZC, .int .i64 0, .bool false])) := by
        refine parseB_no ?_
        unfold parseOk
        rw [decide_eq_false (by rw [hE]; omega : ¬ endAt l n ≤ l.length)]
        simp
      clear hE hB
      go_enter Try.func21, Try.ntmps21
      go_wp2_with fail
      have K0 := Bk.new w bkZC 32
      refine (cP6 _).mono ?_
      rintro e w1 ⟨rfl, hb1⟩
      have K1 := K0.below hb1 K0.lt
      have hz1 := hb1.size
      simp only [World.size_alloc] at hz1
      have g1 : Below w.heap.size w w1 := ((Below.refl _ _).alloc (Nat.le_refl _) _).trans (hb1.mono (by simp))
      have X1 := K1.cell
      have F1 := K1.free
      go_wp2
      exact bodyPost_ret (v := .tuple #[.agg bkZC, .int .i64 0, .bool false]) (by simp [results, Try.results21, go_sem, X1]) rfl ⟨HR.out.symm, (by repeat (first | (with_reducible exact Below.refl _ _) | (with_reducible assumption) | (with_reducible refine Below.drew ?_) | (with_reducible refine Below.alloc ?_ (by first | omega | (simp <;> omega)) _) | (with_reducible refine Below.setCell ?_ (by first | omega | (simp <;> omega)) _) | (with_reducible refine belowN ?_ _)))⟩
  · have HR : Go.RowKit.Hid (pbRes (parseB l a) = .returned (.tuple #[.agg bkZC, .int .i64 0, .bool false])) := parseB_no (parseOk_head hh)
    have hw := head_ways hh
    clear hh
    rcases hw with h0 | ⟨n, rfl, h1⟩
    · go_enter Try.func21, Try.ntmps21
      go_wp2
      exact bodyPost_ret (v := .tuple #[.agg bkZC, .int .i64 0, .bool false]) (by simp [results, Try.results21, go_sem]) rfl ⟨HR.out.symm, (by repeat (first | (with_reducible exact Below.refl _ _) | (with_reducible assumption) | (with_reducible refine Below.drew ?_) | (with_reducible refine Below.alloc ?_ (by first | omega | (simp <;> omega)) _) | (with_reducible refine Below.setCell ?_ (by first | omega | (simp <;> omega)) _) | (with_reducible refine belowN ?_ _)))⟩
    · have hi1 : ¬ (n : Int) < 0 := by omega
      rcases h1 with h1 | ⟨h1, h2⟩ | ⟨h1, h2⟩ | ⟨h1, h2, h3⟩
      all_goals
        first | have hi2 : (l.length : Int) - 10 < n := by omega
              | have hi2 : ¬ (l.length : Int) - 10 < n := by omega
        first | have hi5 : (n : Int) < l.length := by omega
              | skip
        first | have hi6 : (n : Int) + 1 < l.length := by omega
              | skip
        go_enter Try.func21, Try.ntmps21
        go_wp2
        exact bodyPost_ret (v := .tuple #[.agg bkZC, .int .i64 0, .bool false]) (by simp [results, Try.results21, go_sem]) rfl ⟨HR.out.symm, (by repeat (first | (with_reducible exact Below.refl _ _) | (with_reducible assumption) | (with_reducible refine Below.drew ?_) | (with_reducible refine Below.alloc ?_ (by first | omega | (simp <;> omega)) _) | (with_reducible refine Below.setCell ?_ (by first | omega | (simp <;> omega)) _) | (with_reducible refine belowN ?_ _)))⟩
end Go.Proofs.Ytgcjfddkgbigoaa
