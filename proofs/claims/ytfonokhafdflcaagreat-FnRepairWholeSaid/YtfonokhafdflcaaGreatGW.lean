import Derived.Test.YtfonokhafdflcaaGreatGA
/- Walks: names and operations. -/
namespace Go.Proofs.YtfonokhafdflcaaGreat
open Go.RowKit
set_option linter.unusedVariables false
attribute [local go_sem high] run_index_S binOp_eql_S binOp_neq_S append_S toList_S size_S run_slice_S run_slice_from_S run_slice_to_S wrap64_byteAt wrap64_byteAt_mul bits_or_bytes convU conv1_some convU2 conv2_some
theorem l1In_any (a b c : Int) (w : World) :
    Calls Tryz.prog 31 #[.int .i64 a, .int .i64 b, .int .i64 c] w fun e w' => e = .returned (.bool (decide (b ≤ a ∧ a ≤ c))) ∧ w = w' := by
  go_enter Tryz.func31, Tryz.ntmps31
  by_cases h : b ≤ a
  all_goals
    go_wp2
    all_goals
      go_ret
      exact ⟨ret_bool (by rw [Bool.eq_iff_iff]; simp; omega), rfl⟩
theorem sizeValid_any (a : Int) (w : World) :
    Calls Tryz.prog 27 #[.int .i64 a] w fun e w' => e = .returned (.bool (decide (1 ≤ a ∧ a ≤ 64))) ∧ w = w' := by
  go_enter Tryz.func27, Tryz.ntmps27
  by_cases h : 1 ≤ a
  all_goals
    go_wp2
    all_goals
      go_ret
      exact ⟨ret_bool (by rw [Bool.eq_iff_iff]; simp; omega), rfl⟩
end Go.Proofs.YtfonokhafdflcaaGreat
/- Walks: settings, and whether data fits. -/
namespace Go.Proofs.YtfonokhafdflcaaGreat
open Go.RowKit
set_option linter.unusedVariables false
attribute [local go_sem high] run_index_S binOp_eql_S binOp_neq_S append_S toList_S size_S run_slice_S run_slice_from_S run_slice_to_S wrap64_byteAt wrap64_byteAt_mul bits_or_bytes convU conv1_some convU2 conv2_some
theorem l1Two_any (n : Int) (w : World) (h0 : 0 ≤ n) (h1 : n ≤ 16) :
    Calls Tryz.prog 86 #[.int .i64 n] w fun e w' => e = .returned (.int .i64 (pow2 n)) ∧ w = w' := by
  go_enter Tryz.func86, Tryz.ntmps86
  go_wp2
  go_ret
  exact ⟨ret_int (wrap64_pow2 n h0 h1), rfl⟩
theorem l1Clear_any (o l m : Int) (w : World) (h0 : 0 ≤ l) (h1 : l ≤ 16) :
    Calls Tryz.prog 68 #[.agg #[.int .i64 o, .int .i64 l, .int .i64 m]] w fun e w' => e = .returned (.int .i64 (pow2 l)) ∧ Below w.heap.size w w' := by
  go_enter Tryz.func68, Tryz.ntmps68
  go_wp2_with (go_at_call 86; refine (l1Two_any _ _ h0 h1).mono ?_; rintro e w' ⟨rfl, rfl⟩)
  go_ret
  exact ⟨rfl, (by repeat (first | (with_reducible exact Below.refl _ _) | (with_reducible assumption) | (with_reducible refine Below.drew ?_) | (with_reducible refine Below.alloc ?_ (by first | omega | (simp <;> omega)) _) | (with_reducible refine Below.setCell ?_ (by first | omega | (simp <;> omega)) _) | (with_reducible refine belowN ?_ _)))⟩
set_option maxHeartbeats 1000000 in
theorem settingValid_any (o l m : Int) (w : World) :
    Calls Tryz.prog 69 #[.agg #[.int .i64 o, .int .i64 l, .int .i64 m]] w fun e w' => e = .returned (.bool (decide (stOk o l m))) ∧ Below w.heap.size w w' := by
  go_enter Tryz.func69, Tryz.ntmps69
  go_wp2_with (go_in)
  all_goals go_ret
  all_goals refine ⟨ret_bool ?_, (Below.refl _ _).alloc (Nat.le_refl _) _⟩
  all_goals (rw [Bool.eq_iff_iff]; simp only [decide_eq_true_eq]; grind [stOk])
set_option maxHeartbeats 1000000 in
theorem sSettingValid_any (o l m : Int) (w : World) :
    Calls Tryz.prog 74 #[.agg #[.int .i64 o, .int .i64 l, .int .i64 m]] w fun e w' => e = .returned (.bool (decide (stOk o l m))) ∧ Below w.heap.size w w' := by
  go_enter Tryz.func74, Tryz.ntmps74
  go_wp2_with (first | (go_at_call 31; refine (l1In_any _ _ _ _).mono ?_; rintro e w' ⟨rfl, rfl⟩) | go_in)
  all_goals go_ret
  all_goals refine ⟨ret_bool ?_, (Below.refl _ _).alloc (Nat.le_refl _) _⟩
  all_goals (rw [Bool.eq_iff_iff]; simp only [decide_eq_true_eq]; grind [stOk])
set_option maxHeartbeats 1000000 in
theorem dataFits_any (o l m : Int) (d : Bs) (w : World) (hs : d.length ≤ 9223372036854775807) :
    Calls Tryz.prog 71 #[.agg #[.int .i64 o, .int .i64 l, .int .i64 m], .string ⟨d.toArray⟩] w fun e w' => e = .returned (.bool (decide (fits o l m d))) ∧ Below w.heap.size w w' := by
  go_enter Tryz.func71, Tryz.ntmps71
  go_wp2_with fail
  refine (settingValid_any _ _ _ _).mono ?_
  rintro e w1 ⟨rfl, hb1⟩
  have hB1 := box_keep (box_new _ _ _) hb1 (by simp)
  have g1 : Below w.heap.size w w1 := ((Below.refl _ _).alloc (Nat.le_refl _) _).trans (hb1.mono (by simp))
  clear hb1
  by_cases hv : stOk o l m
  · by_cases hl : d.length ≤ 2000
    · have HV := Go.Lib.hid hv
      have hl1 : 1 ≤ l := hv.2.1
      have hl2 : l ≤ 8 := hv.2.2.1
      have hd : decide (stOk o l m) = true := by simpa using hv
      clear hv
      go_wp2
      go_loopw [16] (fun k wr => ∃ n : Nat, n ≤ d.length ∧ k = .int .i64 n ∧ (d.take n).all (litB l) = true ∧ ∃ q, wr = w1.drewN q) (fun k _ => d.length - (intOf k).toNat)
      case atStart => exact ⟨0, Nat.zero_le _, rfl, rfl, 0, rfl⟩
      case round =>
        obtain ⟨k, hk, rfl, hx, q, rfl⟩ := hrel
        have HX := Go.Lib.hid hx
        clear hx
        by_cases hlt : k < d.length
        · have HN := Go.Lib.hid (litB_iff l d k hlt)
          have HS := Go.Lib.hid (all_take_snoc (litB l) d k hlt)
          have hc1 := byteAt_nonneg d k
          have hc2 := byteAt_le d k
          have hw := wrap64_pow2 l (by omega) (by omega)
          have ha : (k : Int) < d.length := by omega
          have hl0 : 0 ≤ l := by omega
          have hl64 : l < 64 := by omega
          by_cases hb : byteAt d k < pow2 l
          · go_wp2
            go_quiet (fail)
            go_wp2
            go_roundw
            case rel => exact ⟨k + 1, by omega, by go_num, by rw [HS.out, HX.out, HN.out]; simpa using hb, _, rfl⟩
            case measure => simp [intOf]; omega
          · go_wp2
            go_quiet (fail)
            go_wp2
            go_ret
            refine ⟨ret_bool ?_, belowN (belowN g1 _) _⟩
            rw [eq_comm, decide_eq_false_iff_not]
            rintro ⟨_, _, h⟩
            rw [all_false_of (litB l) d k hlt (by rw [HN.out]; simpa using hb)] at h
            cases h
        · go_wp2
          go_ret
          refine ⟨ret_bool ?_, belowN g1 _⟩
          have e : d.take k = d := List.take_of_length_le (by omega)
          have HX2 := HX.out
          rw [e] at HX2
          rw [eq_comm, decide_eq_true_eq]
          exact ⟨HV.out, hl, HX2⟩
    · have hd : decide (stOk o l m) = true := by simpa using hv
      have hl' : 2000 < d.length := by omega
      clear hv
      go_wp2
      go_ret
      refine ⟨ret_bool ?_, g1⟩
      rw [eq_comm, decide_eq_false_iff_not]
      rintro ⟨_, h, _⟩
      omega
  · have hd : decide (stOk o l m) = false := by simpa using hv
    have HV := Go.Lib.hid hv
    clear hv
    go_wp2
    go_ret
    refine ⟨ret_bool ?_, g1⟩
    rw [eq_comm, decide_eq_false_iff_not]
    rintro ⟨h, _, _⟩
    exact HV.out h
set_option maxHeartbeats 1000000 in
theorem l1Fits_any (o l m : Int) (d : Bs) (w : World) (hl1 : 0 ≤ l) (hl2 : l ≤ 16) (hs : d.length ≤ 9223372036854775807) :
    Calls Tryz.prog 75 #[.agg #[.int .i64 o, .int .i64 l, .int .i64 m], .string ⟨d.toArray⟩] w fun e w' => e = .returned (.bool (d.all (litB l))) ∧ Below w.heap.size w w' := by
  go_enter Tryz.func75, Tryz.ntmps75
  go_wp2
  go_loopw [5] (fun k wr => ∃ n : Nat, n ≤ d.length ∧ k = .int .i64 n ∧ (d.take n).all (litB l) = true ∧ Below w.heap.size w wr ∧ w.heap.size < wr.heap.size ∧ ∀ i, wr.cell? ⟨w.heap.size, i, none⟩ = (#[.int .i64 o, .int .i64 l, .int .i64 m] : Array Value)[i]?) (fun k _ => d.length - (intOf k).toNat)
  case atStart => exact ⟨0, Nat.zero_le _, rfl, rfl, (by repeat (first | (with_reducible exact Below.refl _ _) | (with_reducible assumption) | (with_reducible refine Below.drew ?_) | (with_reducible refine Below.alloc ?_ (by first | omega | (simp <;> omega)) _) | (with_reducible refine Below.setCell ?_ (by first | omega | (simp <;> omega)) _) | (with_reducible refine belowN ?_ _))), by simp, box_new _ _ _⟩
  case round =>
    obtain ⟨k, hk, rfl, hx, hbl, hsz, hB⟩ := hrel
    have HX := Go.Lib.hid hx
    clear hx
    by_cases hlt : k < d.length
    · have HN := Go.Lib.hid (litB_iff l d k hlt)
      have HS := Go.Lib.hid (all_take_snoc (litB l) d k hlt)
      have hc1 := byteAt_nonneg d k
      have hc2 := byteAt_le d k
      have ha : (k : Int) < d.length := by omega
      have hG := box_class hB hsz
      go_wp2_with fail
      by_cases hb : byteAt d k < pow2 l
      ·
        refine wp_region_quiet_below (by kernel_rfl) (by kernel_rfl) ?_
        repeat (go_big_quiet_step ((go_at_call 68; exact Calls.regrown_of (l1Clear_any _ _ _ _ hl1 hl2))))
        refine wpQuiet_nil ?_
        intro w2 hw2
        have hb2 : Below _ _ w2 := below_of_class hw2
        clear hw2
        have hz2 := hb2.size
        go_wp2
        go_roundw
        case rel => exact ⟨k + 1, by omega, by go_num, by rw [HS.out, HX.out, HN.out]; simpa using hb, hbl.trans (hb2.mono (by omega)), by omega, box_keep hB hb2 hsz⟩
        case measure => simp [intOf]; omega
      ·
        refine wp_region_quiet_below (by kernel_rfl) (by kernel_rfl) ?_
        repeat (go_big_quiet_step ((go_at_call 68; exact Calls.regrown_of (l1Clear_any _ _ _ _ hl1 hl2))))
        refine wpQuiet_nil ?_
        intro w2 hw2
        have hb2 : Below _ _ w2 := below_of_class hw2
        clear hw2
        have hz2 := hb2.size
        go_wp2
        go_ret
        exact ⟨ret_bool (all_false_of (litB l) d k hlt (by rw [HN.out]; simpa using hb)).symm, hbl.trans (hb2.mono (by omega))⟩
    · go_wp2
      go_ret
      refine ⟨ret_bool ?_, hbl⟩
      have e : d.take k = d := List.take_of_length_le (by omega)
      have HX2 := HX.out
      rw [e] at HX2
      exact HX2.symm
set_option maxHeartbeats 1000000 in
theorem sDataFits_any (o l m : Int) (d : Bs) (w : World) (hs : d.length ≤ 9223372036854775807) :
    Calls Tryz.prog 53 #[.agg #[.int .i64 o, .int .i64 l, .int .i64 m], .string ⟨d.toArray⟩] w fun e w' => e = .returned (.bool (decide (fits o l m d))) ∧ Below w.heap.size w w' := by
  go_enter Tryz.func53, Tryz.ntmps53
  go_wp2_with fail
  refine (sSettingValid_any _ _ _ _).mono ?_
  rintro e w1 ⟨rfl, hb1⟩
  have hB1 := box_keep (box_new _ _ _) hb1 (by simp)
  have hz1 := hb1.size
  simp only [World.size_alloc] at hz1
  have g1 : Below w.heap.size w w1 := ((Below.refl _ _).alloc (Nat.le_refl _) _).trans (hb1.mono (by simp))
  clear hb1
  by_cases hv : stOk o l m
  · have hd : decide (stOk o l m) = true := by simpa using hv
    have hl1 : 0 ≤ l := by have := hv.2.1; omega
    have hl2 : l ≤ 16 := by have := hv.2.2.1; omega
    have HV := Go.Lib.hid hv
    clear hv
    by_cases hl : d.length ≤ 2000
    · go_wp2_with (go_at_call 75; refine (l1Fits_any _ _ _ _ _ hl1 hl2 hs).mono ?_; rintro e w2 ⟨rfl, hb2⟩)
      go_ret
      refine ⟨ret_bool ?_, g1.trans (hb2.mono (by omega))⟩
      rw [Bool.eq_iff_iff, decide_eq_true_eq]
      exact ⟨fun h => ⟨HV.out, hl, by simpa using h⟩, fun h => by simpa using h.2.2⟩
    · go_wp2
      go_ret
      refine ⟨ret_bool ?_, g1⟩
      rw [eq_comm, decide_eq_false_iff_not]
      rintro ⟨_, h, _⟩
      omega
  · have hd : decide (stOk o l m) = false := by simpa using hv
    have HV := Go.Lib.hid hv
    clear hv
    go_wp2
    go_ret
    refine ⟨ret_bool ?_, g1⟩
    rw [eq_comm, decide_eq_false_iff_not]
    rintro ⟨h, _, _⟩
    exact HV.out h
theorem l5Ready_any (o l m : Int) (d : Bs) (w : World) (hs : d.length ≤ 9223372036854775807) :
    Calls Tryz.prog 30 #[.agg #[.int .i64 o, .int .i64 l, .int .i64 m], .string ⟨d.toArray⟩] w fun e w' => e = .returned (.bool (decide (fits o l m d))) ∧ Below w.heap.size w w' := by
  go_enter Tryz.func30, Tryz.ntmps30
  go_wp2_with (go_at_call 53; refine (sDataFits_any _ _ _ _ _ hs).mono ?_; rintro e w2 ⟨rfl, hb2⟩)
  go_ret
  exact ⟨rfl, ((Below.refl _ _).alloc (Nat.le_refl _) _).trans (hb2.mono (by simp))⟩
end Go.Proofs.YtfonokhafdflcaaGreat
/- Walks: checksums and blocks. -/
namespace Go.Proofs.YtfonokhafdflcaaGreat
open Go.RowKit
set_option linter.unusedVariables false
attribute [local go_sem high] run_index_S binOp_eql_S binOp_neq_S append_S toList_S size_S run_slice_S run_slice_from_S run_slice_to_S wrap64_byteAt wrap64_byteAt_mul bits_or_bytes convU conv1_some convU2 conv2_some
set_option maxHeartbeats 400000 in
theorem sumOf_any (l : Bs) (w : World) (hs : l.length ≤ 9223372036854775807) :
    Calls Tryz.prog 58 #[.string ⟨l.toArray⟩] w fun e w' => e = .returned (.int .i64 (sumOf l)) ∧ w = w' := by
  go_enter Tryz.func58, Tryz.ntmps58
  go_wp2
  go_loop [3, 4, 8] (fun a b k => ∃ n : Nat, n ≤ l.length ∧ k = .int .i64 n ∧ a = .int .i64 (sumP (l.take n)).1 ∧ b = .int .i64 (sumP (l.take n)).2) (fun _ _ k => l.length - (intOf k).toNat)
  case atStart => exact ⟨0, Nat.zero_le _, rfl, rfl, rfl⟩
  case round =>
    obtain ⟨k, hk, rfl, rfl, rfl⟩ := hrel
    have hb := sumP_bd (l.take k)
    obtain ⟨hb1, hb2, hb3, hb4⟩ := hb
    by_cases hlt : k < l.length
    · have HS := Go.Lib.hid (sumP_snoc l k hlt)
      have HB := Go.Lib.hid (byteAt_nat l k hlt)
      have hc1 := byteAt_nonneg l k
      have hc2 := byteAt_le l k
      go_wp2
      go_round
      case rel =>
        refine ⟨k + 1, by omega, by go_num, ?_, ?_⟩
        · rw [HS.out]; simp [sumStep, ← HB.out]
        · rw [HS.out]; simp [sumStep, ← HB.out]
      case measure => simp [intOf]; omega
    · go_wp2
      go_ret
      have : k = l.length := by omega
      subst this
      exact ⟨by simp [sumOf], rfl⟩
set_option maxHeartbeats 400000 in
theorem sSumOf_any (l : Bs) (w : World) (hs : l.length ≤ 9223372036854775807) :
    Calls Tryz.prog 78 #[.string ⟨l.toArray⟩] w fun e w' => e = .returned (.int .i64 (sumOf l)) ∧ w = w' := by
  go_enter Tryz.func78, Tryz.ntmps78
  go_wp2
  go_loop [3, 4, 5] (fun a b k => ∃ n : Nat, n ≤ l.length ∧ k = .int .i64 n ∧ a = .int .i64 (sumP (l.take n)).1 ∧ b = .int .i64 (sumP (l.take n)).2) (fun _ _ k => l.length - (intOf k).toNat)
  case atStart => exact ⟨0, Nat.zero_le _, rfl, rfl, rfl⟩
  case round =>
    obtain ⟨k, hk, rfl, rfl, rfl⟩ := hrel
    have hb := sumP_bd (l.take k)
    obtain ⟨hb1, hb2, hb3, hb4⟩ := hb
    by_cases hlt : k < l.length
    · have HS := Go.Lib.hid (sumP_snoc l k hlt)
      have HB := Go.Lib.hid (byteAt_nat l k hlt)
      have hc1 := byteAt_nonneg l k
      have hc2 := byteAt_le l k
      go_wp2
      go_round
      case rel =>
        refine ⟨k + 1, by omega, by go_num, ?_, ?_⟩
        · rw [HS.out]; simp [sumStep, ← HB.out]
        · rw [HS.out]; simp [sumStep, ← HB.out]
      case measure => simp [intOf]; omega
    · go_wp2
      go_ret
      have : k = l.length := by omega
      subst this
      exact ⟨by simp [sumOf], rfl⟩
set_option maxRecDepth 100000 in
theorem two_any (n : Int) (w : World) (h0 : 0 ≤ n) (h1 : n ≤ 9000000) :
    Calls Tryz.prog 65 #[.int .i64 n] w fun e w' => e = .returned (.string ⟨(two n).toArray⟩) ∧ Below w.heap.size w w' := by
  go_enter Tryz.func65, Tryz.ntmps65
  go_wp2
  go_ret
  exact ⟨rfl, (Below.refl _ _).alloc (Nat.le_refl _) _⟩
set_option maxRecDepth 100000 in
theorem l4Two_any (n : Int) (w : World) (h0 : 0 ≤ n) (h1 : n ≤ 9000000) :
    Calls Tryz.prog 77 #[.int .i64 n] w fun e w' => e = .returned (.string ⟨(two n).toArray⟩) ∧ Below w.heap.size w w' := by
  go_enter Tryz.func77, Tryz.ntmps77
  go_wp2
  go_ret
  exact ⟨rfl, (Below.refl _ _).alloc (Nat.le_refl _) _⟩
end Go.Proofs.YtfonokhafdflcaaGreat
