/- Walks: what is known, in memory; the next word, the greatest code, the width. -/
import Derived.Test.YtgcjfddkgbigoaaS1
namespace Go.Proofs.Ytgcjfddkgbigoaa
open Go.RowKit
set_option linter.unusedSimpArgs false
set_option linter.unusedVariables false
attribute [local go_sem high] run_index_S binOp_eql_S binOp_neq_S append_S toList_S size_S run_slice_S run_slice_from_S run_slice_to_S wrap64_byteAt wrap64_byteAt_mul bits_or_bytes convU conv1_some convU2 conv2_some
def prV (p : Pr) : List Value := [.int .i64 p.1, .int .i64 p.2]
def psV (ps : List Pr) : List Value := ps.flatMap prV
theorem psV_length (ps : List Pr) : (psV ps).length = ps.length * 2 := by
  unfold psV
  induction ps with
  | nil => rfl
  | cons p ps ih => rw [List.flatMap_cons, List.length_append, ih, List.length_cons]; simp [prV]; omega
theorem psV_at (ps : List Pr) : ∀ (i : Nat) (h : i < ps.length), (psV ps)[i * 2]? = some (.int .i64 ps[i].1) ∧ (psV ps)[i * 2 + 1]? = some (.int .i64 ps[i].2) := by
  unfold psV
  induction ps with
  | nil => intro i h; cases h
  | cons p ps ih =>
    intro i h
    cases i with
    | zero => simp [prV]
    | succ i =>
      have := ih i (by simpa using h)
      rw [List.flatMap_cons, show (i + 1) * 2 = i * 2 + 1 + 1 by omega]
      simpa [prV] using this
theorem psV_snoc (ps : List Pr) (p : Pr) : psV (ps ++ [p]) = psV ps ++ prV p := by unfold psV; rw [List.flatMap_append]; simp
theorem psV_one (ps : List Pr) : ∀ u ∈ psV ps, u.oneCell' = true := by
  unfold psV
  intro u hu
  simp only [List.mem_flatMap, prV] at hu
  obtain ⟨p, _, hu⟩ := hu
  simp at hu
  rcases hu with rfl | rfl <;> rfl
theorem psV_take (ps : List Pr) (k : Nat) : psV (ps.take k) = (psV ps).take (k * 2) := by
  unfold psV
  induction ps generalizing k with
  | nil => simp
  | cons p ps ih =>
    cases k with
    | zero => simp
    | succ k => rw [List.take_succ_cons, List.flatMap_cons, ih, List.flatMap_cons, show (k + 1) * 2 = k * 2 + 1 + 1 by omega]; simp [prV]
/-- What is known, as a value; its pairs lie in the slice A. -/
abbrev knV (K : Kn) (A : Option Addr) (cap : Nat) : Value := .agg #[.int .i64 K.o, .int .i64 K.l, .int .i64 K.m, .slice A K.ps.length cap, .int .i64 K.base, .int .i64 K.last]
/-- Its cells, in a box. -/
abbrev knC (K : Kn) (A : Option Addr) (cap : Nat) : Array Value := #[.int .i64 K.o, .int .i64 K.l, .int .i64 K.m, .slice A K.ps.length cap, .int .i64 K.base, .int .i64 K.last]
theorem Kn.ok.lm {K : Kn} (h : K.ok) : 0 ≤ K.l ∧ K.l ≤ 16 ∧ 0 ≤ K.m ∧ K.m ≤ 16 := by
  obtain ⟨_, h1, h2, h3, h4⟩ := h.st; omega
theorem l2Next_any (K : Kn) (A : Option Addr) (cap : Nat) (w : World) (hk : K.ok) :
    Calls Try.prog 135 #[knV K A cap] w fun e w' => e = .returned (.int .i64 K.nx) ∧ Below w.heap.size w w' := by
  have hb := hk.bd
  have hp := hk.lm
  unfold Kn.cl at hb
  obtain ⟨hb1, hb2, hb3, hb4, hb5⟩ := hb
  obtain ⟨hp1, hp2, hp3, hp4⟩ := hp
  have HX : Go.RowKit.Hid (K.nx = pow2 K.l + 1 + 1 + K.ps.length) := by show K.nx = _; unfold Kn.nx; omega
  go_enter Try.func135, Try.ntmps135
  go_wp2_with fail
  have hG := box_class (box_new w (knC K A cap) 127) (by simp)
  refine wp_region_quiet_below (by kernel_rfl) (by kernel_rfl) ?_
  repeat (go_big_quiet_step ((go_at_call 122; exact Calls.regrown_of (l1End_any _ _ _ _ hp1 hp2))))
  refine wpQuiet_nil ?_
  intro w2 hw2
  have hb2 : Below _ _ w2 := below_of_class hw2
  clear hw2
  go_wp2
  go_ret
  exact ⟨ret_int HX.out.symm, ((Below.refl _ _).alloc (Nat.le_refl _) _).trans (hb2.mono (by simp))⟩
theorem l2Grows_any (K : Kn) (A : Option Addr) (cap : Nat) (w : World) (hk : K.ok) :
    Calls Try.prog 138 #[knV K A cap] w fun e w' => e = .returned (.bool K.gr) ∧ Below w.heap.size w w' := by
  have hp := hk.lm
  obtain ⟨hp1, hp2, hp3, hp4⟩ := hp
  go_enter Try.func138, Try.ntmps138
  go_wp2_with fail
  have hG := box_class (box_new w (knC K A cap) 127) (by simp)
  by_cases h0 : 0 ≤ K.last
  · have HX : Go.RowKit.Hid (decide (K.nx ≤ pow2 K.m - 1) = K.gr) := by
      show decide (K.nx ≤ pow2 K.m - 1) = K.gr
      unfold Kn.gr Kn.top
      rw [Bool.eq_iff_iff]; simp; omega
    refine wp_region_quiet_below (by kernel_rfl) (by kernel_rfl) ?_
    repeat (go_big_quiet_step ((first | (go_at_call 135; exact Calls.regrown_of (l2Next_any _ _ _ _ hk)) | (go_at_call 121; exact Calls.regrown_of (l1Last_any _ _ _ _ hp3 hp4)))))
    refine wpQuiet_nil ?_
    intro w2 hw2
    have hb2 : Below _ _ w2 := below_of_class hw2
    clear hw2
    go_wp2
    go_ret
    exact ⟨ret_bool HX.out, ((Below.refl _ _).alloc (Nat.le_refl _) _).trans (hb2.mono (by simp))⟩
  · have HX : Go.RowKit.Hid (K.gr = false) := by
      show K.gr = false
      unfold Kn.gr
      simp; omega
    have hd : decide (0 ≤ K.last) = false := by simpa using h0
    refine wp_region_quiet_below (by kernel_rfl) (by kernel_rfl) ?_
    repeat (go_big_quiet_step ((first | (go_at_call 135; exact Calls.regrown_of (l2Next_any _ _ _ _ hk)) | (go_at_call 121; exact Calls.regrown_of (l1Last_any _ _ _ _ hp3 hp4)))))
    refine wpQuiet_nil ?_
    intro w2 hw2
    have hb2 : Below _ _ w2 := below_of_class hw2
    clear hw2
    go_wp2
    go_ret
    exact ⟨ret_bool HX.out.symm, ((Below.refl _ _).alloc (Nat.le_refl _) _).trans (hb2.mono (by simp))⟩
theorem l2Greatest_any (K : Kn) (A : Option Addr) (cap : Nat) (w : World) (hk : K.ok) :
    Calls Try.prog 136 #[knV K A cap] w fun e w' => e = .returned (.int .i64 K.great) ∧ Below w.heap.size w w' := by
  have hnx : -1000 ≤ K.nx := by unfold Kn.nx; have := pow2_bd K.l (hk.lm.1) (hk.lm.2.1); omega
  have hnx1 : K.nx ≤ 1000000 := by unfold Kn.nx; have := pow2_bd K.l (hk.lm.1) (hk.lm.2.1); have := hk.bd; omega
  go_enter Try.func136, Try.ntmps136
  go_wp2_with fail
  refine (l2Grows_any _ _ _ _ hk).mono ?_
  rintro e w1 ⟨rfl, hb1⟩
  have hz1 := hb1.size
  simp only [World.size_alloc] at hz1
  have X0_1 := box_keep (box_new _ _ _) hb1 (by simp)
  have L0_1 : w.heap.size < w1.heap.size := by omega
  have g1 : Below w.heap.size w w1 := ((Below.refl _ _).alloc (Nat.le_refl _) _).trans (hb1.mono (by simp))
  clear hb1
  by_cases hg : K.gr = true
  · have HX : Go.RowKit.Hid (K.nx = K.great) := by show K.nx = K.great; unfold Kn.great; rw [if_pos hg]
    go_wp2_with fail
    refine (l2Next_any _ _ _ _ hk).mono ?_
    rintro e w2 ⟨rfl, hb2⟩
    have hz2 := hb2.size
    have X0_2 := box_keep X0_1 hb2 L0_1
    have L0_2 : w.heap.size < w2.heap.size := by omega
    have g2 : Below w.heap.size w w2 := g1.trans (hb2.mono (by omega))
    clear hb2 X0_1 L0_1 g1
    go_wp2
    go_ret
    exact ⟨ret_int HX.out, g2⟩
  · have hg' : K.gr = false := by simpa using hg
    have HX : Go.RowKit.Hid (K.nx - 1 = K.great) := by show K.nx - 1 = K.great; unfold Kn.great; rw [if_neg hg]
    go_wp2_with fail
    refine (l2Next_any _ _ _ _ hk).mono ?_
    rintro e w2 ⟨rfl, hb2⟩
    have hz2 := hb2.size
    have X0_2 := box_keep X0_1 hb2 L0_1
    have L0_2 : w.heap.size < w2.heap.size := by omega
    have g2 : Below w.heap.size w w2 := g1.trans (hb2.mono (by omega))
    clear hb2 X0_1 L0_1 g1
    go_wp2
    go_ret
    exact ⟨ret_int HX.out, g2⟩
theorem l1Needed_b (n : Int) (w : World) (h0 : 0 ≤ n) (hn : n ≤ 1000000) :
    Calls Try.prog 143 #[.int .i64 n] w fun e w' => e = .returned (.int .i64 (needed n.toNat)) ∧ Below w.heap.size w w' := by
  obtain ⟨k, rfl⟩ := Int.eq_ofNat_of_zero_le h0
  exact (l1Needed_any k w (by omega)).mono fun e w' ⟨he, hw⟩ => ⟨he, by subst hw; exact Below.refl _ _⟩
theorem l2Width_any (K : Kn) (A : Option Addr) (cap : Nat) (w : World) (hk : K.ok) :
    Calls Try.prog 139 #[knV K A cap] w fun e w' => e = .returned (.int .i64 K.width) ∧ Below w.heap.size w w' := by
  have hb := hk.bd
  have hg := K.great_bd hk
  have hp := hk.lm
  obtain ⟨hp1, hp2, hp3, hp4⟩ := hp
  have hgr0 : 0 ≤ K.great := by omega
  have hgr1 : K.great ≤ 1000000 := by omega
  have hn := needed_bd 19 K.great.toNat (by omega)
  obtain ⟨hn1, hn2⟩ := hn
  have HX : Go.RowKit.Hid ((max (K.l + 1) (needed K.great.toNat : Int)) = (K.width : Int)) := by
    show _ = _
    unfold Kn.width; omega
  go_enter Try.func139, Try.ntmps139
  go_wp2_with fail
  have hG := box_class (box_new w (knC K A cap) 127) (by simp)
  refine wp_region_quiet_below (by kernel_rfl) (by kernel_rfl) ?_
  repeat (go_big_quiet_step ((first | (go_at_call 136; exact Calls.regrown_of (l2Greatest_any _ _ _ _ hk)) | (go_at_call 143; exact Calls.regrown_of (l1Needed_b _ _ hgr0 hgr1)))))
  refine wpQuiet_nil ?_
  intro w2 hw2
  have hb2 : Below _ _ w2 := below_of_class hw2
  clear hw2
  go_wp2
  all_goals
    go_wp2
    go_ret
    exact ⟨ret_int (by have := HX.out; omega), ((Below.refl _ _).alloc (Nat.le_refl _) _).trans (hb2.mono (by simp))⟩
theorem l1In_b (a b c : Int) (w : World) :
    Calls Try.prog 51 #[.int .i64 a, .int .i64 b, .int .i64 c] w fun e w' => e = .returned (.bool (decide (b ≤ a ∧ a ≤ c))) ∧ Below w.heap.size w w' :=
  (l1In_any a b c w).mono fun e w' ⟨he, hw⟩ => ⟨he, by subst hw; exact Below.refl _ _⟩
theorem l1In_true (a b c : Int) (w : World) (h : b ≤ a ∧ a ≤ c) :
    Calls Try.prog 51 #[.int .i64 a, .int .i64 b, .int .i64 c] w fun e w' => e = .returned (.bool true) ∧ Below w.heap.size w w' :=
  (l1In_b a b c w).mono fun e w' ⟨he, hw⟩ => ⟨by rw [he, decide_eq_true h], hw⟩
theorem l1In_false (a b c : Int) (w : World) (h : ¬ (b ≤ a ∧ a ≤ c)) :
    Calls Try.prog 51 #[.int .i64 a, .int .i64 b, .int .i64 c] w fun e w' => e = .returned (.bool false) ∧ Below w.heap.size w w' :=
  (l1In_b a b c w).mono fun e w' ⟨he, hw⟩ => ⟨by rw [he, decide_eq_false h], hw⟩
theorem l2Code_any (o l m c : Int) (n : Nat) (w : World) (h0 : 0 ≤ l) (h1 : l ≤ 16) (hn : n ≤ 100000) :
    Calls Try.prog 123 #[.agg #[.int .i64 o, .int .i64 l, .int .i64 m], .int .i64 c, .int .i64 n] w fun e w' => e = .returned (.bool (decide (codeOk (pow2 l) n c))) ∧ Below w.heap.size w w' := by
  have hp := pow2_bd l h0 h1
  obtain ⟨hp0, hp1⟩ := hp
  go_enter Try.func123, Try.ntmps123
  go_wp2_with fail
  have hG := box_class (box_new w #[.int .i64 o, .int .i64 l, .int .i64 m] 69) (by simp)
  by_cases hc : 0 ≤ c ∧ c ≤ pow2 l - 1
  · obtain ⟨hc0, hc1⟩ := hc
    have HX : Go.RowKit.Hid (decide (codeOk (pow2 l) n c) = true) := by show _ = _; simp; left; omega
    refine wp_region_quiet_below (by kernel_rfl) (by kernel_rfl) ?_
    repeat (go_big_quiet_step ((first | (go_at_call 104; exact Calls.regrown_of (l1Clear_any _ _ _ _ h0 h1)) | (go_at_call 122; exact Calls.regrown_of (l1End_any _ _ _ _ h0 h1)) | (go_at_call 51; exact Calls.regrown_of (l1In_true _ _ _ _ (by omega))))))
    refine wpQuiet_nil ?_
    intro w2 hw2
    have hb2 : Below _ _ w2 := below_of_class hw2
    clear hw2
    go_wp2
    go_ret
    exact ⟨ret_bool HX.out.symm, ((Below.refl _ _).alloc (Nat.le_refl _) _).trans (hb2.mono (by simp))⟩
  · by_cases hc2 : pow2 l + 1 + 1 ≤ c ∧ c ≤ pow2 l + 1 + n
    · have HX : Go.RowKit.Hid (decide (codeOk (pow2 l) n c) = true) := by show _ = _; simp only [decide_eq_true_eq]; unfold codeOk; omega
      refine wp_region_quiet_below (by kernel_rfl) (by kernel_rfl) ?_
      repeat (go_big_quiet_step ((first | (go_at_call 104; exact Calls.regrown_of (l1Clear_any _ _ _ _ h0 h1)) | (go_at_call 122; exact Calls.regrown_of (l1End_any _ _ _ _ h0 h1)) | (go_at_call 51; exact Calls.regrown_of (l1In_true _ _ _ _ (by omega))) | (go_at_call 51; exact Calls.regrown_of (l1In_false _ _ _ _ (by omega))))))
      refine wpQuiet_nil ?_
      intro w2 hw2
      have hb2 : Below _ _ w2 := below_of_class hw2
      clear hw2
      go_wp2
      go_ret
      exact ⟨ret_bool HX.out.symm, ((Below.refl _ _).alloc (Nat.le_refl _) _).trans (hb2.mono (by simp))⟩
    · have HX : Go.RowKit.Hid (decide (codeOk (pow2 l) n c) = false) := by show _ = _; simp only [decide_eq_false_iff_not]; unfold codeOk; omega
      refine wp_region_quiet_below (by kernel_rfl) (by kernel_rfl) ?_
      repeat (go_big_quiet_step ((first | (go_at_call 104; exact Calls.regrown_of (l1Clear_any _ _ _ _ h0 h1)) | (go_at_call 122; exact Calls.regrown_of (l1End_any _ _ _ _ h0 h1)) | (go_at_call 51; exact Calls.regrown_of (l1In_false _ _ _ _ (by omega))))))
      refine wpQuiet_nil ?_
      intro w2 hw2
      have hb2 : Below _ _ w2 := below_of_class hw2
      clear hw2
      go_wp2
      go_ret
      exact ⟨ret_bool HX.out.symm, ((Below.refl _ _).alloc (Nat.le_refl _) _).trans (hb2.mono (by simp))⟩
theorem l2Follows_any (K : Kn) (A : Option Addr) (cap : Nat) (c : Int) (w : World) (hk : K.ok) :
    Calls Try.prog 140 #[knV K A cap, .int .i64 c] w fun e w' => e = .returned (.bool (K.fol c)) ∧ Below w.heap.size w w' := by
  have hb := hk.bd
  have hp := hk.lm
  have hps : K.ps.length ≤ 100000 := by omega
  obtain ⟨hp1, hp2, hp3, hp4⟩ := hp
  go_enter Try.func140, Try.ntmps140
  go_wp2_with fail
  refine (l2Code_any _ _ _ _ _ _ hp1 hp2 hps).mono ?_
  rintro e w1 ⟨rfl, hb1⟩
  have hz1 := hb1.size
  simp only [World.size_alloc] at hz1
  have X0_1 := box_keep (box_new _ _ _) hb1 (by simp)
  have L0_1 : w.heap.size < w1.heap.size := by omega
  have g1 : Below w.heap.size w w1 := ((Below.refl _ _).alloc (Nat.le_refl _) _).trans (hb1.mono (by simp))
  clear hb1
  by_cases hc : codeOk (pow2 K.l) K.ps.length c
  · have hd : decide (codeOk (pow2 K.l) K.ps.length c) = true := by simpa using hc
    have HX : Go.RowKit.Hid (K.fol c = true) := by show _ = _; unfold Kn.fol; simp only [decide_eq_true_eq]; left; exact hc
    clear hc
    go_wp2
    go_ret
    exact ⟨ret_bool HX.out.symm, g1⟩
  · have hd : decide (codeOk (pow2 K.l) K.ps.length c) = false := by simpa using hc
    by_cases hg : K.gr = true
    · have HX : Go.RowKit.Hid (K.fol c = (c == K.nx)) := by
        show _ = _; unfold Kn.fol; rw [Bool.eq_iff_iff]; simp only [decide_eq_true_eq, beq_iff_eq]
        exact ⟨fun h => h.elim (fun h => absurd h hc) (fun h => h.2), fun h => .inr ⟨hg, h⟩⟩
      clear hc
      go_wp2_with fail
      refine (l2Grows_any _ _ _ _ hk).mono ?_
      rintro e w2 ⟨rfl, hb2⟩
      have hz2 := hb2.size
      have X0_2 := box_keep X0_1 hb2 L0_1
      have L0_2 : w.heap.size < w2.heap.size := by omega
      have g2 : Below w.heap.size w w2 := g1.trans (hb2.mono (by omega))
      clear hb2 X0_1 L0_1 g1
      go_wp2_with fail
      refine (l2Next_any _ _ _ _ hk).mono ?_
      rintro e w3 ⟨rfl, hb3⟩
      have hz3 := hb3.size
      have X0_3 := box_keep X0_2 hb3 L0_2
      have L0_3 : w.heap.size < w3.heap.size := by omega
      have g3 : Below w.heap.size w w3 := g2.trans (hb3.mono (by omega))
      clear hb3 X0_2 L0_2 g2
      go_wp2
      go_ret
      exact ⟨ret_bool HX.out.symm, g3⟩
    · have hg' : K.gr = false := by simpa using hg
      have HX : Go.RowKit.Hid (K.fol c = false) := by
        show _ = _; unfold Kn.fol; rw [decide_eq_false_iff_not]
        rintro (h | h)
        · exact hc h
        · exact hg h.1
      clear hc
      go_wp2_with fail
      refine (l2Grows_any _ _ _ _ hk).mono ?_
      rintro e w2 ⟨rfl, hb2⟩
      have hz2 := hb2.size
      have X0_2 := box_keep X0_1 hb2 L0_1
      have L0_2 : w.heap.size < w2.heap.size := by omega
      have g2 : Below w.heap.size w w2 := g1.trans (hb2.mono (by omega))
      clear hb2 X0_1 L0_1 g1
      go_wp2
      go_ret
      exact ⟨ret_bool HX.out.symm, g2⟩
end Go.Proofs.Ytgcjfddkgbigoaa
