/- Walks: changing, dropping, repeating bytes; both sides. -/
import Derived.Test.YtgcjfddkgbigoaaP5
import Derived.Test.YtgcjfddkgbigoaaW5
namespace Go.Proofs.Ytgcjfddkgbigoaa
open Go.RowKit
set_option linter.unusedSimpArgs false
set_option linter.unusedVariables false
set_option maxRecDepth 100000
attribute [local go_sem high] run_index_S binOp_eql_S binOp_neq_S append_S toList_S size_S run_slice_S run_slice_from_S run_slice_to_S wrap64_byteAt wrap64_byteAt_mul bits_or_bytes convU conv1_some convU2 conv2_some
/-- A stream with a byte changed. -/
def cbO (l : Bs) (a v : Int) : Option Bs := if l.length ≤ 8000 ∧ 0 ≤ a ∧ a < l.length ∧ 0 ≤ v ∧ v ≤ 255 then some (l.take a.toNat ++ UInt8.ofNat v.toNat :: l.drop (a.toNat + 1)) else none
def spanOk (l : Bs) (a n : Int) : Bool := decide (l.length ≤ 8000 ∧ 0 ≤ a ∧ a ≤ l.length ∧ 0 ≤ n ∧ n ≤ l.length - a)
def drO (l : Bs) (a n : Int) : Option Bs := if spanOk l a n = true then some (l.take a.toNat ++ l.drop (a.toNat + n.toNat)) else none
def rpO (l : Bs) (a n : Int) : Option Bs := if spanOk l a n = true ∧ l.length + n ≤ 8000 then some (l.take (a.toNat + n.toNat) ++ l.drop a.toNat) else none
/-- A string, and whether there is one. -/
def obR (x : Option Bs) : Ending := .returned (.tuple #[sv (x.getD []), .bool x.isSome])
theorem spanOk_iff (l : Bs) (a n : Int) : (spanOk l a n = true) ↔ (l.length ≤ 8000 ∧ 0 ≤ a ∧ a ≤ l.length ∧ 0 ≤ n ∧ n ≤ l.length - a) := by simp [spanOk]
theorem cbO_no {l : Bs} {a v : Int} (h : ¬ (l.length ≤ 8000 ∧ 0 ≤ a ∧ a < l.length ∧ 0 ≤ v ∧ v ≤ 255)) : obR (cbO l a v) = .returned (.tuple #[sv [], .bool false]) := by unfold cbO; rw [if_neg h]; rfl
theorem cbO_yes {l : Bs} {a v : Int} (h : l.length ≤ 8000 ∧ 0 ≤ a ∧ a < l.length ∧ 0 ≤ v ∧ v ≤ 255) : obR (cbO l a v) = .returned (.tuple #[sv (l.take a.toNat ++ UInt8.ofNat v.toNat :: l.drop (a.toNat + 1)), .bool true]) := by unfold cbO; rw [if_pos h]; rfl
theorem drO_no {l : Bs} {a n : Int} (h : spanOk l a n = false) : obR (drO l a n) = .returned (.tuple #[sv [], .bool false]) := by unfold drO; rw [if_neg (by simp [h])]; rfl
theorem drO_yes {l : Bs} {a n : Int} (h : spanOk l a n = true) : obR (drO l a n) = .returned (.tuple #[sv (l.take a.toNat ++ l.drop (a.toNat + n.toNat)), .bool true]) := by unfold drO; rw [if_pos h]; rfl
theorem rpO_no {l : Bs} {a n : Int} (h : ¬ (spanOk l a n = true ∧ l.length + n ≤ 8000)) : obR (rpO l a n) = .returned (.tuple #[sv [], .bool false]) := by unfold rpO; rw [if_neg h]; rfl
theorem rpO_yes {l : Bs} {a n : Int} (h : spanOk l a n = true) (h2 : l.length + n ≤ 8000) : obR (rpO l a n) = .returned (.tuple #[sv (l.take (a.toNat + n.toNat) ++ l.drop a.toNat), .bool true]) := by unfold rpO; rw [if_pos ⟨h, h2⟩]; rfl
set_option maxHeartbeats 1000000 in
theorem sChangeByte_any (l : Bs) (a v : Int) (w : World) (hl : l.length ≤ 1500000) (ha0 : -9223372036854775808 ≤ a) (ha1 : a ≤ 9223372036854775807) :
    Calls Try.prog 13 #[sv l, .int .i64 a, .int .i64 v] w fun e w' => e = obR (cbO l a v) ∧ Below w.heap.size w w' := by
  have cM := fun w => l7Most_any l w hl
  have cI := l1In_any
  by_cases h : l.length ≤ 8000 ∧ 0 ≤ a ∧ a < l.length ∧ 0 ≤ v ∧ v ≤ 255
  · have HR := Go.Lib.hid (cbO_yes h)
    generalize obR (cbO l a v) = GG at *
    obtain ⟨h1, h2, h3, h4, h5⟩ := h
    obtain ⟨k, rfl⟩ := Int.eq_ofNat_of_zero_le h2
    have hd : decide ((l.length : Int) ≤ 8000) = true := by simp; omega
    have hd2 : decide (0 ≤ (k : Int) ∧ (k : Int) ≤ l.length - 1) = true := by simp; omega
    have hd3 : decide (0 ≤ v ∧ v ≤ 255) = true := by simp; omega
    have hk : k ≤ l.length := by omega
    have hk1 : k + 1 ≤ l.length := by omega
    have hq : ¬ 9223372036854775807 < (l.take k).length + 1 := by simp; omega
    have hq2 : ¬ 9223372036854775807 < (l.take k).length + 1 + (l.drop (k + 1)).length := by simp; omega
    have hki : (k : Int) ≤ l.length := by omega
    have hki1 : (k : Int) + 1 ≤ l.length := by omega
    go_enter Try.func13, Try.ntmps13
    go_wp2_with (first | (go_at_call 50; refine (cM _).mono ?_; rintro e w' ⟨rfl, rfl⟩) | (go_at_call 51; refine (cI _ _ _ _).mono ?_; rintro e w' ⟨rfl, rfl⟩))
    have hw1 : IntKind.i64.wrap ((k : Int) + 1) = (k : Int) + 1 := IntWalk.i64_in _ (by omega)
    have hw2 : ((k : Int) + 1).toNat = k + 1 := by omega
    have hw3 : 0 ≤ (k : Int) + 1 := by omega
    go_region
    clear hw1 hw2 hw3
    go_wp2
    go_ret2
    exact ⟨by rw [HR.out]; simp, (by repeat (first | (with_reducible exact Below.refl _ _) | (with_reducible assumption) | (with_reducible refine Below.drew ?_) | (with_reducible refine Below.alloc ?_ (by first | omega | (simp <;> omega)) _) | (with_reducible refine Below.setCell ?_ (by first | omega | (simp <;> omega)) _) | (with_reducible refine belowN ?_ _)))⟩
  · have HR := Go.Lib.hid (cbO_no h)
    generalize obR (cbO l a v) = GG at *
    have hd : decide ((l.length : Int) ≤ 8000) = false ∨ decide ((l.length : Int) ≤ 8000) = true ∧ (decide (0 ≤ a ∧ a ≤ (l.length : Int) - 1) = false ∨ decide (0 ≤ a ∧ a ≤ (l.length : Int) - 1) = true ∧ decide (0 ≤ v ∧ v ≤ 255) = false) := by
      simp only [decide_eq_false_iff_not, decide_eq_true_eq]; omega
    clear h
    rcases hd with hd | ⟨hd, hd2 | ⟨hd2, hd3⟩⟩
    all_goals
      go_enter Try.func13, Try.ntmps13
      go_wp2_with (first | (go_at_call 50; refine (cM _).mono ?_; rintro e w' ⟨rfl, rfl⟩) | (go_at_call 51; refine (cI _ _ _ _).mono ?_; rintro e w' ⟨rfl, rfl⟩))
      go_ret2
      exact ⟨by rw [HR.out]; rfl, (by repeat (first | (with_reducible exact Below.refl _ _) | (with_reducible assumption) | (with_reducible refine Below.drew ?_) | (with_reducible refine Below.alloc ?_ (by first | omega | (simp <;> omega)) _) | (with_reducible refine Below.setCell ?_ (by first | omega | (simp <;> omega)) _) | (with_reducible refine belowN ?_ _)))⟩
theorem l7Span_any (l : Bs) (a n : Int) (w : World) (hl : l.length ≤ 1500000) (ha0 : -9223372036854775808 ≤ a) (ha1 : a ≤ 9223372036854775807) :
    Calls Try.prog 53 #[sv l, .int .i64 a, .int .i64 n] w fun e w' => e = .returned (.bool (spanOk l a n)) ∧ w = w' := by
  have cM := fun w => l7Most_any l w hl
  have cI := l1In_any
  have hd : decide ((l.length : Int) ≤ 8000) = false ∧ spanOk l a n = false ∨ decide ((l.length : Int) ≤ 8000) = true ∧ (decide (0 ≤ a ∧ a ≤ (l.length : Int)) = false ∧ spanOk l a n = false ∨ decide (0 ≤ a ∧ a ≤ (l.length : Int)) = true ∧ (0 ≤ a ∧ a ≤ (l.length : Int)) ∧ decide (0 ≤ n ∧ n ≤ (l.length : Int) - a) = spanOk l a n) := by
    cases hs : spanOk l a n
    · have hs2 : ¬ spanOk l a n = true := by simp [hs]
      rw [spanOk_iff] at hs2
      simp only [decide_eq_false_iff_not, decide_eq_true_eq, eq_self, and_true, true_and, reduceCtorEq, and_false, false_or]; omega
    · rw [spanOk_iff] at hs
      simp only [decide_eq_false_iff_not, decide_eq_true_eq, eq_self, and_true, true_and, reduceCtorEq, and_false, false_or]; omega
  generalize spanOk l a n = B at *
  rcases hd with ⟨hd, rfl⟩ | ⟨hd, ⟨hd2, rfl⟩ | ⟨hd2, hd4, hd3⟩⟩
  · go_enter Try.func53, Try.ntmps53
    go_wp2_with (first | (go_at_call 50; refine (cM _).mono ?_; rintro e w' ⟨rfl, rfl⟩) | (go_at_call 51; refine (cI _ _ _ _).mono ?_; rintro e w' ⟨rfl, rfl⟩))
    go_ret
    exact ⟨rfl, rfl⟩
  · go_enter Try.func53, Try.ntmps53
    go_wp2_with (first | (go_at_call 50; refine (cM _).mono ?_; rintro e w' ⟨rfl, rfl⟩) | (go_at_call 51; refine (cI _ _ _ _).mono ?_; rintro e w' ⟨rfl, rfl⟩))
    go_ret
    exact ⟨rfl, rfl⟩
  · have HB := Go.Lib.hid hd3
    clear hd3
    go_enter Try.func53, Try.ntmps53
    go_wp2_with (first | (go_at_call 50; refine (cM _).mono ?_; rintro e w' ⟨rfl, rfl⟩) | (go_at_call 51; refine (cI _ _ _ _).mono ?_; rintro e w' ⟨rfl, rfl⟩))
    go_ret
    exact ⟨ret_bool (by rw [← HB.out]; simp [Bool.decide_and]), rfl⟩
set_option maxHeartbeats 1000000 in
theorem sDropBytes_any (l : Bs) (a n : Int) (w : World) (hl : l.length ≤ 1500000) (ha0 : -9223372036854775808 ≤ a) (ha1 : a ≤ 9223372036854775807) :
    Calls Try.prog 101 #[sv l, .int .i64 a, .int .i64 n] w fun e w' => e = obR (drO l a n) ∧ Below w.heap.size w w' := by
  have cS := fun w => l7Span_any l a n w hl ha0 ha1
  cases h : spanOk l a n
  · have HR := Go.Lib.hid (drO_no h)
    rw [h] at cS
    generalize obR (drO l a n) = GG at *
    clear h
    go_enter Try.func101, Try.ntmps101
    go_wp2_with (go_at_call 53; refine (cS _).mono ?_; rintro e w' ⟨rfl, rfl⟩)
    go_ret2
    exact ⟨by rw [HR.out]; rfl, (by repeat (first | (with_reducible exact Below.refl _ _) | (with_reducible assumption) | (with_reducible refine Below.drew ?_) | (with_reducible refine Below.alloc ?_ (by first | omega | (simp <;> omega)) _) | (with_reducible refine Below.setCell ?_ (by first | omega | (simp <;> omega)) _) | (with_reducible refine belowN ?_ _)))⟩
  · have HR := Go.Lib.hid (drO_yes h)
    rw [h] at cS
    rw [spanOk_iff] at h
    generalize obR (drO l a n) = GG at *
    obtain ⟨h1, h2, h3, h4, h5⟩ := h
    obtain ⟨k, rfl⟩ := Int.eq_ofNat_of_zero_le h2
    obtain ⟨m, rfl⟩ := Int.eq_ofNat_of_zero_le h4
    have hk : k ≤ l.length := by omega
    have hk1 : k + m ≤ l.length := by omega
    have hq : ¬ 9223372036854775807 < (l.take k).length + (l.drop (k + m)).length := by simp; omega
    have hki : (k : Int) ≤ l.length := by omega
    have hki1 : (k : Int) + m ≤ l.length := by omega
    go_enter Try.func101, Try.ntmps101
    go_wp2_with (go_at_call 53; refine (cS _).mono ?_; rintro e w' ⟨rfl, rfl⟩)
    have hw1 : IntKind.i64.wrap ((k : Int) + m) = (k : Int) + m := IntWalk.i64_in _ (by omega)
    have hw2 : ((k : Int) + m).toNat = k + m := by omega
    have hw3 : 0 ≤ (k : Int) + m := by omega
    go_quiet (fail)
    clear hw1 hw2 hw3
    go_wp2
    go_ret2
    exact ⟨by rw [HR.out]; simp, (by repeat (first | (with_reducible exact Below.refl _ _) | (with_reducible assumption) | (with_reducible refine Below.drew ?_) | (with_reducible refine Below.alloc ?_ (by first | omega | (simp <;> omega)) _) | (with_reducible refine Below.setCell ?_ (by first | omega | (simp <;> omega)) _) | (with_reducible refine belowN ?_ _)))⟩
set_option maxHeartbeats 1000000 in
theorem sRepeatBytes_any (l : Bs) (a n : Int) (w : World) (hl : l.length ≤ 1500000) (ha0 : -9223372036854775808 ≤ a) (ha1 : a ≤ 9223372036854775807) :
    Calls Try.prog 16 #[sv l, .int .i64 a, .int .i64 n] w fun e w' => e = obR (rpO l a n) ∧ Below w.heap.size w w' := by
  have cS := fun w => l7Span_any l a n w hl ha0 ha1
  cases h : spanOk l a n
  · have HR := Go.Lib.hid (rpO_no (l := l) (a := a) (n := n) (by simp [h]))
    rw [h] at cS
    generalize obR (rpO l a n) = GG at *
    clear h
    go_enter Try.func16, Try.ntmps16
    go_wp2_with (go_at_call 53; refine (cS _).mono ?_; rintro e w' ⟨rfl, rfl⟩)
    go_ret2
    exact ⟨by rw [HR.out]; rfl, (by repeat (first | (with_reducible exact Below.refl _ _) | (with_reducible assumption) | (with_reducible refine Below.drew ?_) | (with_reducible refine Below.alloc ?_ (by first | omega | (simp <;> omega)) _) | (with_reducible refine Below.setCell ?_ (by first | omega | (simp <;> omega)) _) | (with_reducible refine belowN ?_ _)))⟩
  · have hsp := (spanOk_iff l a n).1 h
    obtain ⟨h1, h2, h3, h4, h5⟩ := hsp
    by_cases h6 : (l.length : Int) + n ≤ 8000
    · have HR := Go.Lib.hid (rpO_yes h h6)
      rw [h] at cS
      clear h
      generalize obR (rpO l a n) = GG at *
      obtain ⟨k, rfl⟩ := Int.eq_ofNat_of_zero_le h2
      obtain ⟨m, rfl⟩ := Int.eq_ofNat_of_zero_le h4
      have hk : k ≤ l.length := by omega
      have hk1 : k + m ≤ l.length := by omega
      have hq : ¬ 9223372036854775807 < (l.take (k + m)).length + (l.drop k).length := by simp; omega
      have hki : (k : Int) ≤ l.length := by omega
      have hki1 : (k : Int) + m ≤ l.length := by omega
      go_enter Try.func16, Try.ntmps16
      go_wp2_with (go_at_call 53; refine (cS _).mono ?_; rintro e w' ⟨rfl, rfl⟩)
      have hw1 : IntKind.i64.wrap ((k : Int) + m) = (k : Int) + m := IntWalk.i64_in _ (by omega)
      have hw2 : ((k : Int) + m).toNat = k + m := by omega
      have hw3 : 0 ≤ (k : Int) + m := by omega
      go_quiet (fail)
      clear hw1 hw2 hw3
      go_wp2
      go_ret2
      exact ⟨by rw [HR.out]; simp, (by repeat (first | (with_reducible exact Below.refl _ _) | (with_reducible assumption) | (with_reducible refine Below.drew ?_) | (with_reducible refine Below.alloc ?_ (by first | omega | (simp <;> omega)) _) | (with_reducible refine Below.setCell ?_ (by first | omega | (simp <;> omega)) _) | (with_reducible refine belowN ?_ _)))⟩
    · have HR := Go.Lib.hid (rpO_no (l := l) (a := a) (n := n) (fun h => h6 h.2))
      rw [h] at cS
      clear h
      generalize obR (rpO l a n) = GG at *
      go_enter Try.func16, Try.ntmps16
      go_wp2_with (go_at_call 53; refine (cS _).mono ?_; rintro e w' ⟨rfl, rfl⟩)
      go_ret2
      exact ⟨by rw [HR.out]; rfl, (by repeat (first | (with_reducible exact Below.refl _ _) | (with_reducible assumption) | (with_reducible refine Below.drew ?_) | (with_reducible refine Below.alloc ?_ (by first | omega | (simp <;> omega)) _) | (with_reducible refine Below.setCell ?_ (by first | omega | (simp <;> omega)) _) | (with_reducible refine belowN ?_ _)))⟩
theorem rangeValid_any (l : Bs) (a n : Int) (w : World) (hl : l.length ≤ 1500000) (ha0 : -9223372036854775808 ≤ a) (ha1 : a ≤ 9223372036854775807) :
    Calls Try.prog 49 #[sv l, .int .i64 a, .int .i64 n] w fun e w' => e = .returned (.bool (spanOk l a n)) ∧ w = w' := by
  have HB := Go.Lib.hid (spanOk_iff l a n)
  generalize spanOk l a n = B at *
  go_enter Try.func49, Try.ntmps49
  go_wp2
  all_goals go_ret
  all_goals refine ⟨ret_bool ?_, rfl⟩
  all_goals (rw [Bool.eq_iff_iff, HB.out]; (try simp only [decide_eq_true_eq]); first | omega | grind)
set_option maxHeartbeats 1000000 in
theorem iChangeByte_any (l : Bs) (a v : Int) (w : World) (hl : l.length ≤ 1500000) (ha0 : -9223372036854775808 ≤ a) (ha1 : a ≤ 9223372036854775807) :
    Calls Try.prog 12 #[sv l, .int .i64 a, .int .i64 v] w fun e w' => e = obR (cbO l a v) ∧ Below w.heap.size w w' := by
  have cS := fun w => rangeValid_any l a 1 w hl ha0 ha1
  by_cases h : l.length ≤ 8000 ∧ 0 ≤ a ∧ a < l.length ∧ 0 ≤ v ∧ v ≤ 255
  · have HR := Go.Lib.hid (cbO_yes h)
    generalize obR (cbO l a v) = GG at *
    obtain ⟨h1, h2, h3, h4, h5⟩ := h
    rw [show spanOk l a 1 = true by rw [spanOk_iff]; omega] at cS
    obtain ⟨k, rfl⟩ := Int.eq_ofNat_of_zero_le h2
    have hk : k ≤ l.length := by omega
    have hk1 : k + 1 ≤ l.length := by omega
    have hq : ¬ 9223372036854775807 < (l.take k).length + 1 := by simp; omega
    have hq2 : ¬ 9223372036854775807 < (l.take k).length + 1 + (l.drop (k + 1)).length := by simp; omega
    have hki : (k : Int) ≤ l.length := by omega
    have hki1 : (k : Int) + 1 ≤ l.length := by omega
    go_enter Try.func12, Try.ntmps12
    go_wp2_with (go_at_call 49; refine (cS _).mono ?_; rintro e w' ⟨rfl, rfl⟩)
    have hw1 : IntKind.i64.wrap ((k : Int) + 1) = (k : Int) + 1 := IntWalk.i64_in _ (by omega)
    have hw2 : ((k : Int) + 1).toNat = k + 1 := by omega
    have hw3 : 0 ≤ (k : Int) + 1 := by omega
    go_region
    clear hw1 hw2 hw3
    go_wp2
    go_ret2
    exact ⟨by rw [HR.out]; simp, (by repeat (first | (with_reducible exact Below.refl _ _) | (with_reducible assumption) | (with_reducible refine Below.drew ?_) | (with_reducible refine Below.alloc ?_ (by first | omega | (simp <;> omega)) _) | (with_reducible refine Below.setCell ?_ (by first | omega | (simp <;> omega)) _) | (with_reducible refine belowN ?_ _)))⟩
  · have HR := Go.Lib.hid (cbO_no h)
    generalize obR (cbO l a v) = GG at *
    have hd : spanOk l a 1 = false ∨ spanOk l a 1 = true ∧ (v < 0 ∨ (¬ v < 0) ∧ 255 < v) := by
      cases hs : spanOk l a 1
      · exact .inl rfl
      · rw [spanOk_iff] at hs
        refine .inr ⟨rfl, ?_⟩
        omega
    clear h
    rcases hd with hd | ⟨hd, hd2 | ⟨hd2, hd3⟩⟩
    all_goals
      rw [hd] at cS
      clear hd
      go_enter Try.func12, Try.ntmps12
      go_wp2_with (go_at_call 49; refine (cS _).mono ?_; rintro e w' ⟨rfl, rfl⟩)
      go_ret2
      exact ⟨by rw [HR.out]; rfl, (by repeat (first | (with_reducible exact Below.refl _ _) | (with_reducible assumption) | (with_reducible refine Below.drew ?_) | (with_reducible refine Below.alloc ?_ (by first | omega | (simp <;> omega)) _) | (with_reducible refine Below.setCell ?_ (by first | omega | (simp <;> omega)) _) | (with_reducible refine belowN ?_ _)))⟩
set_option maxHeartbeats 1000000 in
theorem iDropBytes_any (l : Bs) (a n : Int) (w : World) (hl : l.length ≤ 1500000) (ha0 : -9223372036854775808 ≤ a) (ha1 : a ≤ 9223372036854775807) :
    Calls Try.prog 17 #[sv l, .int .i64 a, .int .i64 n] w fun e w' => e = obR (drO l a n) ∧ Below w.heap.size w w' := by
  have cS := fun w => rangeValid_any l a n w hl ha0 ha1
  cases h : spanOk l a n
  · have HR := Go.Lib.hid (drO_no h)
    rw [h] at cS
    generalize obR (drO l a n) = GG at *
    clear h
    go_enter Try.func17, Try.ntmps17
    go_wp2_with (go_at_call 49; refine (cS _).mono ?_; rintro e w' ⟨rfl, rfl⟩)
    go_ret2
    exact ⟨by rw [HR.out]; rfl, (by repeat (first | (with_reducible exact Below.refl _ _) | (with_reducible assumption) | (with_reducible refine Below.drew ?_) | (with_reducible refine Below.alloc ?_ (by first | omega | (simp <;> omega)) _) | (with_reducible refine Below.setCell ?_ (by first | omega | (simp <;> omega)) _) | (with_reducible refine belowN ?_ _)))⟩
  · have HR := Go.Lib.hid (drO_yes h)
    rw [h] at cS
    rw [spanOk_iff] at h
    generalize obR (drO l a n) = GG at *
    obtain ⟨h1, h2, h3, h4, h5⟩ := h
    obtain ⟨k, rfl⟩ := Int.eq_ofNat_of_zero_le h2
    obtain ⟨m, rfl⟩ := Int.eq_ofNat_of_zero_le h4
    have hk : k ≤ l.length := by omega
    have hk1 : k + m ≤ l.length := by omega
    have hq : ¬ 9223372036854775807 < (l.take k).length + (l.drop (k + m)).length := by simp; omega
    have hki : (k : Int) ≤ l.length := by omega
    have hki1 : (k : Int) + m ≤ l.length := by omega
    go_enter Try.func17, Try.ntmps17
    go_wp2_with (go_at_call 49; refine (cS _).mono ?_; rintro e w' ⟨rfl, rfl⟩)
    have hw1 : IntKind.i64.wrap ((k : Int) + m) = (k : Int) + m := IntWalk.i64_in _ (by omega)
    have hw2 : ((k : Int) + m).toNat = k + m := by omega
    have hw3 : 0 ≤ (k : Int) + m := by omega
    go_quiet (fail)
    clear hw1 hw2 hw3
    go_wp2
    go_ret2
    exact ⟨by rw [HR.out]; simp, (by repeat (first | (with_reducible exact Below.refl _ _) | (with_reducible assumption) | (with_reducible refine Below.drew ?_) | (with_reducible refine Below.alloc ?_ (by first | omega | (simp <;> omega)) _) | (with_reducible refine Below.setCell ?_ (by first | omega | (simp <;> omega)) _) | (with_reducible refine belowN ?_ _)))⟩
set_option maxHeartbeats 1000000 in
theorem iRepeatBytes_any (l : Bs) (a n : Int) (w : World) (hl : l.length ≤ 1500000) (ha0 : -9223372036854775808 ≤ a) (ha1 : a ≤ 9223372036854775807) :
    Calls Try.prog 15 #[sv l, .int .i64 a, .int .i64 n] w fun e w' => e = obR (rpO l a n) ∧ Below w.heap.size w w' := by
  have cS := fun w => rangeValid_any l a n w hl ha0 ha1
  cases h : spanOk l a n
  · have HR := Go.Lib.hid (rpO_no (l := l) (a := a) (n := n) (by simp [h]))
    rw [h] at cS
    generalize obR (rpO l a n) = GG at *
    clear h
    go_enter Try.func15, Try.ntmps15
    go_wp2_with (go_at_call 49; refine (cS _).mono ?_; rintro e w' ⟨rfl, rfl⟩)
    go_ret2
    exact ⟨by rw [HR.out]; rfl, (by repeat (first | (with_reducible exact Below.refl _ _) | (with_reducible assumption) | (with_reducible refine Below.drew ?_) | (with_reducible refine Below.alloc ?_ (by first | omega | (simp <;> omega)) _) | (with_reducible refine Below.setCell ?_ (by first | omega | (simp <;> omega)) _) | (with_reducible refine belowN ?_ _)))⟩
  · have hsp := (spanOk_iff l a n).1 h
    obtain ⟨h1, h2, h3, h4, h5⟩ := hsp
    by_cases h6 : (l.length : Int) + n ≤ 8000
    · have HR := Go.Lib.hid (rpO_yes h h6)
      rw [h] at cS
      clear h
      generalize obR (rpO l a n) = GG at *
      obtain ⟨k, rfl⟩ := Int.eq_ofNat_of_zero_le h2
      obtain ⟨m, rfl⟩ := Int.eq_ofNat_of_zero_le h4
      have hk : k ≤ l.length := by omega
      have hk1 : k + m ≤ l.length := by omega
      have hq : ¬ 9223372036854775807 < (l.take (k + m)).length + (l.drop k).length := by simp; omega
      have hki : (k : Int) ≤ l.length := by omega
      have hki1 : (k : Int) + m ≤ l.length := by omega
      go_enter Try.func15, Try.ntmps15
      go_wp2_with (go_at_call 49; refine (cS _).mono ?_; rintro e w' ⟨rfl, rfl⟩)
      have hw1 : IntKind.i64.wrap ((k : Int) + m) = (k : Int) + m := IntWalk.i64_in _ (by omega)
      have hw2 : ((k : Int) + m).toNat = k + m := by omega
      have hw3 : 0 ≤ (k : Int) + m := by omega
      go_quiet (fail)
      clear hw1 hw2 hw3
      go_wp2
      go_ret2
      exact ⟨by rw [HR.out]; simp, (by repeat (first | (with_reducible exact Below.refl _ _) | (with_reducible assumption) | (with_reducible refine Below.drew ?_) | (with_reducible refine Below.alloc ?_ (by first | omega | (simp <;> omega)) _) | (with_reducible refine Below.setCell ?_ (by first | omega | (simp <;> omega)) _) | (with_reducible refine belowN ?_ _)))⟩
    · have HR := Go.Lib.hid (rpO_no (l := l) (a := a) (n := n) (fun h => h6 h.2))
      rw [h] at cS
      clear h
      generalize obR (rpO l a n) = GG at *
      go_enter Try.func15, Try.ntmps15
      go_wp2_with (go_at_call 49; refine (cS _).mono ?_; rintro e w' ⟨rfl, rfl⟩)
      go_ret2
      exact ⟨by rw [HR.out]; rfl, (by repeat (first | (with_reducible exact Below.refl _ _) | (with_reducible assumption) | (with_reducible refine Below.drew ?_) | (with_reducible refine Below.alloc ?_ (by first | omega | (simp <;> omega)) _) | (with_reducible refine Below.setCell ?_ (by first | omega | (simp <;> omega)) _) | (with_reducible refine belowN ?_ _)))⟩
end Go.Proofs.Ytgcjfddkgbigoaa
