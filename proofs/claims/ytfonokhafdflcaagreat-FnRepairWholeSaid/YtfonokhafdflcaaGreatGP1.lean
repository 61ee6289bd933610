import Derived.Test.YtfonokhafdflcaaGreatGW
import Derived.Test.YtfonokhafdflcaaGreatGW
import Derived.Test.YtfonokhafdflcaaGreatGB
import Derived.Test.YtfonokhafdflcaaGreatGA
import Derived.Deep.DeepCutAuto
/- Walks: is a block valid; its bytes. -/
namespace Go.Proofs.YtfonokhafdflcaaGreat
open Go.RowKit
set_option linter.unusedVariables false
set_option linter.unusedSimpArgs false
set_option maxRecDepth 100000
attribute [local go_sem high] run_index_S binOp_eql_S binOp_neq_S append_S toList_S size_S run_slice_S run_slice_from_S run_slice_to_S wrap64_byteAt wrap64_byteAt_mul bits_or_bytes convU conv1_some convU2 conv2_some
abbrev bkC (b : Blk) : Array Value := #[.int .i64 b.num, .bool b.raw, .int .i64 b.size, .string ⟨b.body.toArray⟩]
abbrev bkV (b : Blk) : Value := .agg #[.int .i64 b.num, .bool b.raw, .int .i64 b.size, .string ⟨b.body.toArray⟩]
def bkZ : Blk := ⟨0, false, 0, []⟩
abbrev bkZC : Array Value := #[.int .i64 0, .bool false, .int .i64 0, .string ⟨#[]⟩]
/-- The numbers of a block are small. -/
def Blk.sm (b : Blk) : Prop := 0 ≤ b.num ∧ b.num ≤ 65535 ∧ 0 ≤ b.size ∧ b.size ≤ 65535 ∧ b.body.length ≤ 1500000
theorem Blk.ok_iff (n s : Int) (r : Bool) (d : Bs) : (Blk.ok ⟨n, r, s, d⟩ = true) ↔ (0 ≤ n ∧ n < 40 ∧ 1 ≤ s ∧ s ≤ 64 ∧ (if r = true then (d.length : Int) = s else 1 ≤ d.length ∧ (d.length : Int) < s)) := by simp [Blk.ok]
theorem Blk.ok_sm {b : Blk} (h : b.ok = true) : b.sm := by
  have h1 := Blk.ok_len h
  obtain ⟨n, r, s, d⟩ := b
  rw [Blk.ok_iff] at h
  exact ⟨h.1, by show n ≤ _; omega, by show 0 ≤ s; omega, by show s ≤ _; omega, by omega⟩
theorem bkZ_sm : bkZ.sm := by unfold Blk.sm bkZ; simp
theorem l5Kind_any (b : Blk) (w : World) :
    Calls Tryz.prog 76 #[bkV b] w fun e w' => e = .returned (.string ⟨[if b.raw = true then (0 : UInt8) else 1].toArray⟩) ∧ Below w.heap.size w w' := by
  obtain ⟨n, r, s, d⟩ := b
  cases r
  · go_enter Tryz.func76, Tryz.ntmps76
    go_wp2
    go_ret
    exact ⟨rfl, (by repeat (first | (with_reducible exact Below.refl _ _) | (with_reducible assumption) | (with_reducible refine Below.drew ?_) | (with_reducible refine Below.alloc ?_ (by first | omega | (simp <;> omega)) _) | (with_reducible refine Below.setCell ?_ (by first | omega | (simp <;> omega)) _) | (with_reducible refine belowN ?_ _)))⟩
  · go_enter Tryz.func76, Tryz.ntmps76
    go_wp2
    go_ret
    exact ⟨rfl, (by repeat (first | (with_reducible exact Below.refl _ _) | (with_reducible assumption) | (with_reducible refine Below.drew ?_) | (with_reducible refine Below.alloc ?_ (by first | omega | (simp <;> omega)) _) | (with_reducible refine Below.setCell ?_ (by first | omega | (simp <;> omega)) _) | (with_reducible refine belowN ?_ _)))⟩
set_option maxHeartbeats 2000000 in
theorem l5Text_any (b : Blk) (w : World) (hb : b.sm) :
    Calls Tryz.prog 54 #[bkV b] w fun e w' => e = .returned (.string ⟨b.text.toArray⟩) ∧ Below w.heap.size w w' := by
  have hsb := sumOf_bd b.inner
  have hie : b.inner = (if b.raw = true then (0 : UInt8) else 1) :: (two b.num ++ (two b.size ++ (two b.body.length ++ b.body))) := by simp [Blk.inner]
  have hte : b.text = 181 :: (b.inner ++ two (sumOf b.inner)) := rfl
  have cK := fun w => l5Kind_any b w
  obtain ⟨n, r, s, d⟩ := b
  obtain ⟨h1, h2, h3, h4, h5⟩ := hb
  simp only at h1 h2 h3 h4 h5 hie cK
  generalize (⟨n, r, s, d⟩ : Blk).text = T at *
  generalize (⟨n, r, s, d⟩ : Blk).inner = I at *
  generalize (if r = true then (0 : UInt8) else 1) = k at *
  have HT := Go.Lib.hid hte
  have two_le : ∀ n, (two n).length ≤ 2 := fun n => by simp [two]
  have t1 := two_le n
  have t2 := two_le s
  have t3 := two_le d.length
  have t4 := two_le (sumOf I)
  have hil : I.length ≤ 1500007 := by rw [hie]; simp; omega
  have HI := Go.Lib.hid hie
  clear hie hte two_le
  go_enter Tryz.func54, Tryz.ntmps54
  go_wp2_with fail
  have hG := box_class (box_new w (bkC ⟨n, r, s, d⟩) 38) (by simp)
  refine wp_region_quiet_below (by kernel_rfl) (by kernel_rfl) ?_
  repeat (go_big_quiet_step ((first | (go_at_call 76; exact Calls.regrown_of (cK _)) | (go_at_call 77; exact Calls.regrown_of (l4Two_any _ _ (by omega) (by omega))))))
  refine wpQuiet_nil ?_
  intro w2 hw2
  have hb2 : Below _ _ w2 := below_of_class hw2
  clear hw2
  have hz2 := hb2.size
  simp only [World.size_alloc] at hz2
  have g2 : Below w.heap.size w w2 := ((Below.refl _ _).alloc (Nat.le_refl _) _).trans (hb2.mono (by simp))
  clear hG hb2
  go_wp2_with fail
  rw [← HI.out]
  clear HI
  have hq1 : ¬ 9223372036854775807 < 1 + I.length := by omega
  have hq2 : ¬ 9223372036854775807 < I.length + 1 + (two (sumOf I)).length := by omega
  have hq3 : ¬ 9223372036854775807 < 1 + I.length + (two (sumOf I)).length := by omega
  go_region_with (first | (go_at_call 78; refine (sSumOf_any _ _ (by omega)).mono ?_; rintro e w' ⟨rfl, rfl⟩) | (go_at_call 77; refine (l4Two_any _ _ (by omega) (by omega)).mono ?_; rintro e w3 ⟨rfl, hb3⟩; have hz3 := hb3.size; (try simp at hz3); try (have hb4 := below_undrew hb3; have hxx := box_keep (box_new _ _ _) hb4 (by simp))))
  all_goals
    go_wp2
    go_ret
    exact ⟨ret_S (by rw [HT.out]), (by repeat (first | (with_reducible exact Below.refl _ _) | (with_reducible assumption) | (with_reducible refine Below.drew ?_) | (with_reducible refine Below.alloc ?_ (by first | omega | (simp <;> omega)) _) | (with_reducible refine Below.setCell ?_ (by first | omega | (simp <;> omega)) _) | (with_reducible refine belowN ?_ _) | (with_reducible refine Below.trans ?_ (Below.mono (by with_reducible assumption) (by first | omega | (simp <;> omega))))))⟩
end Go.Proofs.YtfonokhafdflcaaGreat
/- Walks: a block parsed, by the reference. -/
namespace Go.Proofs.YtfonokhafdflcaaGreat
open Go.RowKit
set_option linter.unusedVariables false
set_option linter.unusedSimpArgs false
set_option maxRecDepth 100000
attribute [local go_sem high] run_index_S binOp_eql_S binOp_neq_S append_S toList_S size_S run_slice_S run_slice_from_S run_slice_to_S wrap64_byteAt wrap64_byteAt_mul bits_or_bytes convU conv1_some convU2 conv2_some
def parseB (l : Bs) (a : Int) : Option (Blk × Int) := if parseOk l a = true then some (blkAt l a, endAt l a) else none
def pbRes (o : Option (Blk × Int)) : Ending := .returned (.tuple #[bkV ((o.map (·.1)).getD bkZ), .int .i64 ((o.map (·.2)).getD 0), .bool o.isSome])
theorem pbRes_none : pbRes none = .returned (.tuple #[.agg bkZC, .int .i64 0, .bool false]) := rfl
theorem pbRes_some (b : Blk) (e : Int) : pbRes (some (b, e)) = .returned (.tuple #[bkV b, .int .i64 e, .bool true]) := rfl
theorem parseB_no {l : Bs} {a : Int} (h : parseOk l a = false) : pbRes (parseB l a) = .returned (.tuple #[.agg bkZC, .int .i64 0, .bool false]) := by
  unfold parseB; rw [h]; rfl
theorem parseOk_head {l : Bs} {a : Int} (h : ¬ headOk l a = true) : parseOk l a = false := by
  have h : headOk l a = false := by simpa using h
  unfold parseOk; rw [h]; rfl
theorem head_ways {l : Bs} {a : Int} (h : ¬ headOk l a = true) :
    a < 0 ∨ ∃ n : Nat, a = n ∧ ((l.length : Int) < n ∨ (n ≤ l.length ∧ (l.length : Int) - n < 10) ∨ (n + 10 ≤ l.length ∧ (byteAt l n != 181) = true) ∨ (n + 10 ≤ l.length ∧ (byteAt l n != 181) = false ∧ 1 < byteAt l ((n : Int) + 1))) := by
  by_cases h0 : a < 0
  · exact .inl h0
  obtain ⟨n, rfl⟩ := Int.eq_ofNat_of_zero_le (by omega : 0 ≤ a)
  refine .inr ⟨n, rfl, ?_⟩
  simp only [headOk, Bool.and_eq_true, decide_eq_true_eq] at h
  by_cases h1 : (l.length : Int) < n
  · exact .inl h1
  by_cases h2 : (l.length : Int) - n < 10
  · exact .inr (.inl ⟨by omega, h2⟩)
  by_cases h3 : byteAt l n = 181
  · refine .inr (.inr (.inr ⟨by omega, by simp [h3], ?_⟩))
    have : ¬ byteAt l ((n : Int) + 1) ≤ 1 := fun h4 => h ⟨⟨by omega, by omega⟩, h3, h4⟩
    omega
  · exact .inr (.inr (.inl ⟨by omega, by simpa using h3⟩))
theorem head_facts {l : Bs} {a : Int} (h : headOk l a = true) : ∃ n : Nat, a = n ∧ n + 10 ≤ l.length ∧ (byteAt l n != 181) = false ∧ byteAt l ((n : Int) + 1) ≤ 1 := by
  simp only [headOk, Bool.and_eq_true, decide_eq_true_eq] at h
  obtain ⟨⟨h0, h1⟩, h2, h3⟩ := h
  obtain ⟨n, rfl⟩ := Int.eq_ofNat_of_zero_le h0
  exact ⟨n, rfl, by omega, by simpa using h2, h3⟩
theorem numAt_cut (l : Bs) (n : Nat) (h : n + 2 ≤ l.length) : numAt ((l.drop n).take 2) 0 = numAt l n := by
  have h0 : n < l.length := by omega
  have h1 : n + 1 < l.length := by omega
  unfold numAt
  have e : ((n : Int) + 1) = ((n + 1 : Nat) : Int) := by omega
  rw [e, byteAt_nat l n h0, byteAt_nat l (n + 1) h1]
  have e0 : ((l.drop n).take 2) = [l[n], l[n + 1]] := by
    rw [List.drop_eq_getElem_cons h0, List.drop_eq_getElem_cons h1]; rfl
  rw [e0]
  rfl
end Go.Proofs.YtfonokhafdflcaaGreat
/- Walks: the bytes of a block, and a block parsed, by the program. -/
namespace Go.Proofs.YtfonokhafdflcaaGreat
open Go.RowKit
set_option linter.unusedVariables false
set_option linter.unusedSimpArgs false
set_option maxRecDepth 100000
attribute [local go_sem high] run_index_S binOp_eql_S binOp_neq_S append_S toList_S size_S run_slice_S run_slice_from_S run_slice_to_S wrap64_byteAt wrap64_byteAt_mul bits_or_bytes convU conv1_some convU2 conv2_some
theorem numB_any (l : Bs) (a : Nat) (w : World) (h : a + 1 < l.length) (hl : l.length ≤ 4000000) :
    Calls Tryz.prog 56 #[.string ⟨l.toArray⟩, .int .i64 (a : Int)] w fun e w' => e = .returned (.int .i64 (numAt l a)) ∧ Below w.heap.size w w' := by
  have h0 := byteAt_nonneg l a
  have h1 := byteAt_le l a
  have h2 := byteAt_nonneg l ((a : Int) + 1)
  have h3 := byteAt_le l ((a : Int) + 1)
  have hi : (a : Int) + 1 < l.length := by omega
  go_enter Tryz.func56, Tryz.ntmps56
  go_wp2
  go_quiet (fail)
  go_wp2
  go_ret
  exact ⟨rfl, (by repeat (first | (with_reducible exact Below.refl _ _) | (with_reducible assumption) | (with_reducible refine Below.drew ?_) | (with_reducible refine Below.alloc ?_ (by first | omega | (simp <;> omega)) _) | (with_reducible refine Below.setCell ?_ (by first | omega | (simp <;> omega)) _) | (with_reducible refine belowN ?_ _)))⟩
set_option maxHeartbeats 1000000 in
theorem blockValid_any (b : Blk) (w : World) (hb : b.sm) :
    Calls Tryz.prog 57 #[bkV b] w fun e w' => e = .returned (.bool b.ok) ∧ Below w.heap.size w w' := by
  obtain ⟨n, r, s, d⟩ := b
  obtain ⟨h1, h2, h3, h4, h5⟩ := hb
  simp only at h1 h2 h3 h4 h5
  go_enter Tryz.func57, Tryz.ntmps57
  go_wp2
  all_goals go_ret
  all_goals refine ⟨ret_bool ?_, (Below.refl _ _).alloc (Nat.le_refl _) _⟩
  all_goals (rw [Bool.eq_iff_iff, Blk.ok_iff]; (try simp only [decide_eq_true_eq, beq_iff_eq]); grind)
def fbRes (b : Blk) : Ending := .returned (.tuple #[.string ⟨(if b.ok = true then b.text else []).toArray⟩, .bool b.ok])
theorem two_le2 (n : Int) : (two n).length ≤ 2 := by simp [two]
set_option maxHeartbeats 4000000 in
theorem formatBlock_any (b : Blk) (w : World) (hb : b.sm) :
    Calls Tryz.prog 42 #[bkV b] w fun e w' => e = fbRes b ∧ Below w.heap.size w w' := by
  have hsb := sumOf_bd b.inner
  have hie : b.inner = (if b.raw = true then (0 : UInt8) else 1) :: (two b.num ++ (two b.size ++ (two b.body.length ++ b.body))) := by simp [Blk.inner]
  have hte : b.text = 181 :: (b.inner ++ two (sumOf b.inner)) := rfl
  have cV := fun w => blockValid_any b w hb
  have hrs : fbRes b = .returned (.tuple #[.string ⟨(if b.ok = true then b.text else []).toArray⟩, .bool b.ok]) := rfl
  obtain ⟨n, r, s, d⟩ := b
  obtain ⟨h1, h2, h3, h4, h5⟩ := hb
  simp only at h1 h2 h3 h4 h5 hie cV
  generalize fbRes ⟨n, r, s, d⟩ = RR at *
  generalize (⟨n, r, s, d⟩ : Blk).text = T at *
  generalize (⟨n, r, s, d⟩ : Blk).inner = I at *
  generalize (⟨n, r, s, d⟩ : Blk).ok = ok at *
  have HT := Go.Lib.hid hte
  have t1 := two_le2 n
  have t2 := two_le2 s
  have t3 := two_le2 d.length
  have t4 := two_le2 (sumOf I)
  have hil : I.length ≤ 1500007 := by rw [hie]; simp; omega
  have HI := Go.Lib.hid hie
  have HRR := Go.Lib.hid hrs
  clear hie hte hrs
  cases ok
  · go_enter Tryz.func42, Tryz.ntmps42
    go_wp2_with fail
    refine (cV _).mono ?_
    rintro e w2 ⟨rfl, hb2⟩
    have hz2 := hb2.size
    simp only [World.size_alloc] at hz2
    have g2 : Below w.heap.size w w2 := ((Below.refl _ _).alloc (Nat.le_refl _) _).trans (hb2.mono (by simp))
    go_wp2
    go_ret2
    exact ⟨by rw [HRR.out]; rfl, g2⟩
  cases r
  all_goals
    go_enter Tryz.func42, Tryz.ntmps42
    go_wp2_with fail
    refine (cV _).mono ?_
    rintro e w1 ⟨rfl, hb1⟩
    have hz1 := hb1.size
    simp only [World.size_alloc] at hz1
    have X1 := box_keep (box_new _ _ _) hb1 (by simp)
    have g1 : Below w.heap.size w w1 := ((Below.refl _ _).alloc (Nat.le_refl _) _).trans (hb1.mono (by simp))
    clear hb1 cV
    have hG := box_class X1 (by omega)
    go_wp2_with fail
    refine wp_region_quiet_below (by kernel_rfl) (by kernel_rfl) ?_
    repeat (go_big_quiet_step (((go_at_call 65; exact Calls.regrown_of (two_any _ _ (by omega) (by omega))))))
    refine wpQuiet_nil ?_
    intro w2 hw2
    have hb2 : Below _ _ w2 := below_of_class hw2
    clear hw2
    have hz2 := hb2.size
    have g2 : Below w.heap.size w w2 := g1.trans (hb2.mono (by omega))
    clear hG hb2 X1
    go_wp2_with fail
    have HI2 := HI.out
    simp only [if_true, if_false, Bool.false_eq_true] at HI2
    rw [← HI2]
    clear HI HI2
    have hq1 : ¬ 9223372036854775807 < 1 + I.length := by omega
    have hq2 : ¬ 9223372036854775807 < I.length + 1 + (two (sumOf I)).length := by omega
    have hq3 : ¬ 9223372036854775807 < 1 + I.length + (two (sumOf I)).length := by omega
    go_region_with (first | (go_at_call 58; refine (sumOf_any _ _ (by omega)).mono ?_; rintro e w' ⟨rfl, rfl⟩) | (go_at_call 65; refine (two_any _ _ (by omega) (by omega)).mono ?_; rintro e w3 ⟨rfl, hb3⟩; have hz3 := hb3.size; (try simp at hz3); try (have hb4 := below_undrew hb3; have hxx := box_keep (box_new _ _ _) hb4 (by simp))))
    all_goals
      go_wp2
      go_ret2
      exact ⟨by rw [HRR.out, HT.out, if_pos trivial]; rfl, (by repeat (first | (with_reducible exact Below.refl _ _) | (with_reducible assumption) | (with_reducible refine Below.drew ?_) | (with_reducible refine Below.alloc ?_ (by first | omega | (simp <;> omega)) _) | (with_reducible refine Below.setCell ?_ (by first | omega | (simp <;> omega)) _) | (with_reducible refine belowN ?_ _) | (with_reducible refine Below.trans ?_ (Below.mono (by with_reducible assumption) (by first | omega | (simp <;> omega))))))⟩
end Go.Proofs.YtfonokhafdflcaaGreat
/- Walks: a block parsed, by the program. -/
namespace Go.Proofs.YtfonokhafdflcaaGreat
open Go.RowKit
set_option linter.unusedVariables false
set_option linter.unusedSimpArgs false
set_option maxRecDepth 100000
attribute [local go_sem high] run_index_S binOp_eql_S binOp_neq_S append_S toList_S size_S run_slice_S run_slice_from_S run_slice_to_S wrap64_byteAt wrap64_byteAt_mul bits_or_bytes convU conv1_some convU2 conv2_some
set_option maxHeartbeats 4000000 in
theorem parseBlock_any (l : Bs) (a : Int) (w : World) (hs : l.length ≤ 1500000) (ha0 : -9223372036854775808 ≤ a) (ha1 : a ≤ 9223372036854775807) :
    Calls Tryz.prog 34 #[.string ⟨l.toArray⟩, .int .i64 a] w fun e w' => e = pbRes (parseB l a) ∧ Below w.heap.size w w' := by
  by_cases hh : headOk l a = true
  · have HH := Go.Lib.hid hh
    obtain ⟨n, rfl, hn, hb181, hb1⟩ := head_facts hh
    clear hh
    have hi1 : ¬ (n : Int) < 0 := by omega
    have hi2 : ¬ (l.length : Int) - 10 < n := by omega
    have hi4 : ¬ 1 < byteAt l ((n : Int) + 1) := by omega
    have hi5 : (n : Int) < l.length := by omega
    have hi6 : (n : Int) + 1 < l.length := by omega
    have cP6 := fun w => numB_any l (n + 6) w (by omega) (by omega)
    have cP2 := fun w => numB_any l (n + 2) w (by omega) (by omega)
    have cP4 := fun w => numB_any l (n + 4) w (by omega) (by omega)
    have ec6 : ((n + 6 : Nat) : Int) = (n : Int) + 6 := by omega
    have ec2 : ((n + 2 : Nat) : Int) = (n : Int) + 2 := by omega
    have ec4 : ((n + 4 : Nat) : Int) = (n : Int) + 4 := by omega
    rw [ec6] at cP6
    rw [ec2] at cP2
    rw [ec4] at cP4
    clear ec6 ec2 ec4
    have hB : blkAt l n = ⟨numAt l ((n : Int) + 2), decide (byteAt l ((n : Int) + 1) = 0), numAt l ((n : Int) + 4), (l.drop (n + 8)).take (numAt l ((n : Int) + 6)).toNat⟩ := by
      unfold blkAt cutAt
      have h6 := numAt_bd l ((n : Int) + 6)
      rw [show ((n : Int) + 8).toNat = n + 8 by omega, show ((n : Int) + 8 + numAt l (↑n + 6)).toNat - (n + 8) = (numAt l (↑n + 6)).toNat by omega]
    have hE : endAt l n = (n : Int) + 8 + numAt l ((n : Int) + 6) + 2 := rfl
    have hn2 := numAt_bd l ((n : Int) + 2)
    have hn4 := numAt_bd l ((n : Int) + 4)
    have hn6 := numAt_bd l ((n : Int) + 6)
    generalize numAt l ((n : Int) + 2) = n2 at *
    generalize numAt l ((n : Int) + 4) = n4 at *
    obtain ⟨m, hm⟩ := Int.eq_ofNat_of_zero_le hn6.1
    rw [hm] at hB hE cP6 hn6
    rw [Int.toNat_natCast] at hB
    clear hm
    obtain ⟨hn2a, hn2b⟩ := hn2
    obtain ⟨hn4a, hn4b⟩ := hn4
    have hn6b := hn6.2
    clear hn6
    have hm2 : m ≤ 65535 := by omega
    by_cases hfit : n + 10 + m ≤ l.length
    · have hfi : ¬ (l.length : Int) - 2 < (n : Int) + 8 + m := by omega
      have hfi2 : (n : Int) + 8 + m ≤ l.length := by omega
      have cPe := fun w => numB_any l (n + 8 + m) w (by omega) (by omega)
      have ece : ((n + 8 + m : Nat) : Int) = (n : Int) + 8 + m := by omega
      rw [ece] at cPe
      clear ece
      have hP : parseOk l n = ((blkAt l n).ok && decide (sumOf ((l.drop (n + 1)).take (7 + m)) = numAt l ((n : Int) + 8 + m))) := by
        unfold parseOk
        rw [HH.out, decide_eq_true (by rw [hE]; omega : endAt l n ≤ l.length), hE]
        simp only [Bool.true_and]
        have e1 : cutAt l ((n : Int) + 1) ((n : Int) + 8 + m + 2 - 2) = (l.drop (n + 1)).take (7 + m) := by
          unfold cutAt
          rw [show ((n : Int) + 1).toNat = n + 1 by omega, show ((n : Int) + 8 + m + 2 - 2).toNat - (n + 1) = 7 + m by omega]
        rw [e1, show (n : Int) + 8 + m + 2 - 2 = (n : Int) + 8 + m by omega]
      have HP : Go.RowKit.Hid (parseB l n = if (blkAt l n).ok = true ∧ sumOf ((l.drop (n + 1)).take (7 + m)) = numAt l ((n : Int) + 8 + m) then some (blkAt l n, (n : Int) + 8 + m + 2) else none) := by
        show _ = _
        unfold parseB; rw [hP, hE]; simp
      clear hP hE
      have hr : decide (byteAt l ((n : Int) + 1) = 0) = (byteAt l ((n : Int) + 1) == 0) := by
        by_cases h : byteAt l ((n : Int) + 1) = 0 <;> simp [h]
      rw [hr] at hB
      clear hr
      generalize hR : (byteAt l ((n : Int) + 1) == 0) = r at *
      have hbl := byteAt_nonneg l ((n : Int) + 1)
      generalize hD : (l.drop (n + 8)).take m = D at *
      have hDl : D.length ≤ 65535 := by rw [← hD]; simp; omega
      have HD := Go.Lib.hid hD
      clear hD
      have hSx : (⟨l.toArray⟩ : ByteArray).extract (n + 1) (n + 8 + m) = ⟨((l.drop (n + 1)).take (7 + m)).toArray⟩ := by rw [ByteArray.extract_mk]; simp; congr 1; omega
      generalize hTT : (l.drop (n + 1)).take (7 + m) = T at *
      have hTl : T.length ≤ 100000 := by rw [← hTT]; simp; omega
      have hTk : List.take (n + 8 + m - (n + 1)) (List.drop (n + 1) l) = T := by rw [show n + 8 + m - (n + 1) = 7 + m by omega]; exact hTT
      have HB := Go.Lib.hid hB
      clear hB hTT
      have hsm : (⟨n2, r, n4, D⟩ : Blk).sm := ⟨hn2a, hn2b, hn4a, hn4b, by show D.length ≤ _; omega⟩
      have hsb := sumOf_bd T
      go_enter Tryz.func34, Tryz.ntmps34
      go_wp2_with fail
      have K0 := Bk.new w bkZC 38
      refine (cP6 _).mono ?_
      rintro e w1 ⟨rfl, hb1⟩
      have K1 := K0.below hb1 K0.lt
      have hz1 := hb1.size
      simp only [World.size_alloc] at hz1
      have g1 : Below w.heap.size w w1 := ((Below.refl _ _).alloc (Nat.le_refl _) _).trans (hb1.mono (by simp))
      clear hb1 K0 cP6
      go_wp2_with fail
      go_cut [9] (fun p wx => ∃ gp : Nat, p = .pointer (some ⟨gp, 0, none⟩) ∧ w1.heap.size ≤ gp ∧ Bk wx gp 38 (bkC ⟨n2, r, n4, D⟩) ∧ Below w1.heap.size w1 wx)
      case first =>
        have hw1 : IntKind.i64.wrap ((n : Int) + 1) = (n : Int) + 1 := IntWalk.i64_in _ (by omega)
        have hw2 : IntKind.i64.wrap ((n : Int) + 2) = (n : Int) + 2 := IntWalk.i64_in _ (by omega)
        have hw4 : IntKind.i64.wrap ((n : Int) + 4) = (n : Int) + 4 := IntWalk.i64_in _ (by omega)
        have hp1 : (0 : Int) ≤ (n : Int) + 1 := by omega
        have hp8 : (0 : Int) ≤ (n : Int) + 8 := by omega
        have hp9 : (0 : Int) ≤ (n : Int) + 8 + m := by omega
        have h89 : (n : Int) + 8 ≤ (n : Int) + 8 + m := by omega
        have ht8 : ((n : Int) + 8).toNat = n + 8 := by omega
        have ht9 : ((n : Int) + 8 + m).toNat = n + 8 + m := by omega
        refine wp_region_held_drew (S := (fun w' => Below w1.heap.size w1 w')) (by kernel_rfl) ?_ (fun hSS => ?_)
        focus (exact (by repeat (first | (with_reducible exact Below.refl _ _) | (with_reducible assumption) | (with_reducible refine Below.drew ?_) | (with_reducible refine Below.alloc ?_ (by first | omega | (simp <;> omega)) _) | (with_reducible refine Below.setCell ?_ (by first | omega | (simp <;> omega)) _) | (with_reducible refine belowN ?_ _) | (with_reducible refine Below.trans ?_ (Below.mono (by with_reducible assumption) (by first | omega | (simp <;> omega)))))))
        refine wpAnyH_take (i := 0) (v := ?_) rfl (by kernel_rfl) (by kernel_rfl) (by kernel_rfl) (fun _ _ _ h => h) (Or.inl ⟨by rfl, ?_⟩) (by assumption) ?_
        rotate_left
        focus (intro w hSw; (try dsimp only at hSw); go_simp; try with_reducible rfl)
        try simp only [Act.put, List.setIfInBounds_toArray, List.set_cons_zero, List.set_cons_succ]
        refine wpAnyH_take (i := 1) (v := ?_) rfl (by kernel_rfl) (by kernel_rfl) (by kernel_rfl) (fun _ _ _ h => h) (Or.inl ⟨by rfl, ?_⟩) (by assumption) ?_
        rotate_left
        focus (intro w hSw; (try dsimp only at hSw); go_simp; try with_reducible rfl)
        try simp only [Act.put, List.setIfInBounds_toArray, List.set_cons_zero, List.set_cons_succ]
        refine wpAnyH_take (i := 2) (v := ?_) rfl (by kernel_rfl) (by kernel_rfl) (by kernel_rfl) (fun _ _ _ h => h) (Or.inl ⟨by rfl, ?_⟩) (by assumption) ?_
        rotate_left
        focus (intro w hSw; (try dsimp only at hSw); go_simp; try with_reducible rfl)
        try simp only [Act.put, List.setIfInBounds_toArray, List.set_cons_zero, List.set_cons_succ]
        refine wpAnyH_take (i := 4) (v := ?_) rfl (by kernel_rfl) (by kernel_rfl) (by kernel_rfl) (fun _ _ _ h => h) (Or.inl ⟨by rfl, ?_⟩) (by assumption) ?_
        rotate_left
        focus (intro w hSw; (try dsimp only at hSw); go_simp; try with_reducible rfl)
        try simp only [Act.put, List.setIfInBounds_toArray, List.set_cons_zero, List.set_cons_succ]
        refine wpAnyH_take (i := 5) (v := ?_) rfl (by kernel_rfl) (by kernel_rfl) (by kernel_rfl) (fun _ _ _ h => h) (Or.inl ⟨by rfl, ?_⟩) (by assumption) ?_
        rotate_left
        focus (intro w hSw; (try dsimp only at hSw); go_simp; try with_reducible rfl)
        try simp only [Act.put, List.setIfInBounds_toArray, List.set_cons_zero, List.set_cons_succ]
        refine wpAnyH_take (i := 6) (v := ?_) rfl (by kernel_rfl) (by kernel_rfl) (by kernel_rfl) (fun _ _ _ h => h) (Or.inl ⟨by rfl, ?_⟩) (by assumption) ?_
        rotate_left
        focus (intro w hSw; (try dsimp only at hSw); go_simp; try with_reducible rfl)
        try simp only [Act.put, List.setIfInBounds_toArray, List.set_cons_zero, List.set_cons_succ]
        refine wpAnyH_take (i := 7) (v := ?_) rfl (by kernel_rfl) (by kernel_rfl) (by kernel_rfl) (fun _ _ _ h => h) (Or.inl ⟨by rfl, ?_⟩) (by assumption) ?_
        rotate_left
        focus (intro w hSw; (try dsimp only at hSw); go_simp; try with_reducible rfl)
        try simp only [Act.put, List.setIfInBounds_toArray, List.set_cons_zero, List.set_cons_succ]
        refine wpAnyH_take (i := 8) (v := ?_) rfl (by kernel_rfl) (by kernel_rfl) (by kernel_rfl) (fun _ _ _ h => h) (Or.inl ⟨by rfl, ?_⟩) (by assumption) ?_
        rotate_left
        focus (intro w hSw; (try dsimp only at hSw); go_simp; try with_reducible rfl)
        try simp only [Act.put, List.setIfInBounds_toArray, List.set_cons_zero, List.set_cons_succ]
        refine wpAnyH_take (i := 9) (v := ?_) rfl (by kernel_rfl) (by kernel_rfl) (by kernel_rfl) (fun _ _ _ h => h) (Or.inl ⟨by rfl, ?_⟩) (by assumption) ?_
        rotate_left
        focus (intro w hSw; (try dsimp only at hSw); go_simp; try with_reducible rfl)
        try simp only [Act.put, List.setIfInBounds_toArray, List.set_cons_zero, List.set_cons_succ]
        refine wpAnyH_take (i := 10) (v := ?_) rfl (by kernel_rfl) (by kernel_rfl) (by kernel_rfl) (fun _ _ _ h => h) (Or.inl ⟨by rfl, ?_⟩) (by assumption) ?_
        rotate_left
        focus (intro w hSw; (try dsimp only at hSw); go_simp; try with_reducible rfl)
        try simp only [Act.put, List.setIfInBounds_toArray, List.set_cons_zero, List.set_cons_succ]
        refine wpAnyH_take (i := 11) (v := ?_) rfl (by kernel_rfl) (by kernel_rfl) (by kernel_rfl) (fun _ _ _ h => h) (Or.inl ⟨by rfl, ?_⟩) (by assumption) ?_
        rotate_left
        focus (intro w hSw; (try dsimp only at hSw); go_simp; try with_reducible rfl)
        try simp only [Act.put, List.setIfInBounds_toArray, List.set_cons_zero, List.set_cons_succ]
        refine wpAnyH_take (i := 13) (v := ?_) rfl (by kernel_rfl) (by kernel_rfl) (by kernel_rfl) (fun _ _ _ h => h) (Or.inl ⟨by rfl, ?_⟩) (by assumption) ?_
        rotate_left
        focus (intro w hSw; (try dsimp only at hSw); go_simp; try with_reducible rfl)
        try simp only [Act.put, List.setIfInBounds_toArray, List.set_cons_zero, List.set_cons_succ]
        refine wpAnyH_take (i := 14) (v := ?_) rfl (by kernel_rfl) (by kernel_rfl) (by kernel_rfl) (fun _ _ _ h => h) (Or.inl ⟨by rfl, ?_⟩) (by assumption) ?_
        rotate_left
        focus (intro w hSw; (try dsimp only at hSw); go_simp; try with_reducible rfl)
        try simp only [Act.put, List.setIfInBounds_toArray, List.set_cons_zero, List.set_cons_succ]
        refine wpAnyH_take (i := 15) (v := ?_) rfl (by kernel_rfl) (by kernel_rfl) (by kernel_rfl) (fun _ _ _ h => h) (Or.inl ⟨by rfl, ?_⟩) (by assumption) ?_
        rotate_left
        focus (intro w hSw; (try dsimp only at hSw); go_simp; try with_reducible rfl)
        try simp only [Act.put, List.setIfInBounds_toArray, List.set_cons_zero, List.set_cons_succ]
        refine wpAnyH_take (i := 16) (v := ?_) rfl (by kernel_rfl) (by kernel_rfl) (by kernel_rfl) (fun _ _ _ h => h) (Or.inl ⟨by rfl, ?_⟩) (by assumption) ?_
        rotate_left
        focus (intro w hSw; (try dsimp only at hSw); go_simp; try with_reducible rfl)
        try simp only [Act.put, List.setIfInBounds_toArray, List.set_cons_zero, List.set_cons_succ]
        refine wpAnyH_ready (rs := [3, 18]) (by kernel_rfl) (by simp) ?_
        refine (AllReadyH.cons (o := _) rfl (fun KK hKK => ?_) (AllReadyH.cons (o := _) rfl (fun KK hKK => ?_) AllReadyH.nil))
        ·
          go_simp
          (go_at_call 56; (with_reducible refine (cP2 _).mono ?_); rintro e w2 ⟨rfl, hb2⟩; have hz2 := hb2.size; (try simp at hz2))
          refine hKK.out _ _ ?_ (fun hSS => ?_)
          focus (exact (by repeat (first | (with_reducible exact Below.refl _ _) | (with_reducible assumption) | (with_reducible refine Below.drew ?_) | (with_reducible refine Below.alloc ?_ (by first | omega | (simp <;> omega)) _) | (with_reducible refine Below.setCell ?_ (by first | omega | (simp <;> omega)) _) | (with_reducible refine belowN ?_ _) | (with_reducible refine Below.trans ?_ (Below.mono (by with_reducible assumption) (by first | omega | (simp <;> omega)))))))
          try simp only [Act.put, List.setIfInBounds_toArray, List.set_cons_zero, List.set_cons_succ]
          refine wpAnyH_ready (rs := [12, 18]) (by kernel_rfl) (by simp) ?_
          refine (AllReadyH.cons (o := _) rfl (fun KK hKK => ?_) (AllReadyH.cons (o := _) rfl (fun KK hKK => ?_) AllReadyH.nil))
          ·
            go_simp
            (go_at_call 56; (with_reducible refine (cP4 _).mono ?_); rintro e w3 ⟨rfl, hb3⟩; have hz3 := hb3.size)
            refine hKK.out _ _ ?_ (fun hSS => ?_)
            focus (exact (by repeat (first | (with_reducible exact Below.refl _ _) | (with_reducible assumption) | (with_reducible refine Below.drew ?_) | (with_reducible refine Below.alloc ?_ (by first | omega | (simp <;> omega)) _) | (with_reducible refine Below.setCell ?_ (by first | omega | (simp <;> omega)) _) | (with_reducible refine belowN ?_ _) | (with_reducible refine Below.trans ?_ (Below.mono (by with_reducible assumption) (by first | omega | (simp <;> omega)))))))
            try simp only [Act.put, List.setIfInBounds_toArray, List.set_cons_zero, List.set_cons_succ]
            refine wpAnyH_take (i := 17) (v := ?_) rfl (by kernel_rfl) (by kernel_rfl) (by kernel_rfl) (fun _ _ _ h => h) (Or.inl ⟨by rfl, ?_⟩) (by assumption) ?_
            rotate_left
            focus (intro w hSw; (try dsimp only at hSw); go_simp; try with_reducible rfl)
            try simp only [Act.put, List.setIfInBounds_toArray, List.set_cons_zero, List.set_cons_succ]
            refine wpAnyH_ready (rs := [18]) (by kernel_rfl) (by simp) ?_
            refine (AllReadyH.cons (o := _) rfl (fun KK hKK => ?_) AllReadyH.nil)
            go_simp
            refine hKK.out _ _ ?_ (fun hSS => ?_)
            focus (exact (by repeat (first | (with_reducible exact Below.refl _ _) | (with_reducible assumption) | (with_reducible refine Below.drew ?_) | (with_reducible refine Below.alloc ?_ (by first | omega | (simp <;> omega)) _) | (with_reducible refine Below.setCell ?_ (by first | omega | (simp <;> omega)) _) | (with_reducible refine belowN ?_ _) | (with_reducible refine Below.trans ?_ (Below.mono (by with_reducible assumption) (by first | omega | (simp <;> omega)))))))
            try simp only [Act.put, List.setIfInBounds_toArray, List.set_cons_zero, List.set_cons_succ]
            refine wpAnyH_ready (rs := [19]) (by kernel_rfl) (by simp) ?_
            refine (AllReadyH.cons (o := _) rfl (fun KK hKK => ?_) AllReadyH.nil)
            go_simp
            refine hKK.out _ _ ?_ (fun hSS => ?_)
            focus (exact (by repeat (first | (with_reducible exact Below.refl _ _) | (with_reducible assumption) | (with_reducible refine Below.drew ?_) | (with_reducible refine Below.alloc ?_ (by first | omega | (simp <;> omega)) _) | (with_reducible refine Below.setCell ?_ (by first | omega | (simp <;> omega)) _) | (with_reducible refine belowN ?_ _) | (with_reducible refine Below.trans ?_ (Below.mono (by with_reducible assumption) (by first | omega | (simp <;> omega)))))))
            try simp only [Act.put, List.setIfInBounds_toArray, List.set_cons_zero, List.set_cons_succ]
            refine wpAnyH_done (by kernel_rfl) ?_ _
            go_wp2_with fail
            go_meet
            rw [HD.out]
            exact ⟨_, rfl, by first | omega | (simp; omega), Bk.new _ _ _, (by repeat (first | (with_reducible exact Below.refl _ _) | (with_reducible assumption) | (with_reducible refine Below.drew ?_) | (with_reducible refine Below.alloc ?_ (by first | omega | (simp <;> omega)) _) | (with_reducible refine Below.setCell ?_ (by first | omega | (simp <;> omega)) _) | (with_reducible refine belowN ?_ _) | (with_reducible refine Below.trans ?_ (Below.mono (by with_reducible assumption) (by first | omega | (simp <;> omega))))))⟩
          ·
            go_simp
            refine hKK.out _ _ ?_ (fun hSS => ?_)
            focus (exact (by repeat (first | (with_reducible exact Below.refl _ _) | (with_reducible assumption) | (with_reducible refine Below.drew ?_) | (with_reducible refine Below.alloc ?_ (by first | omega | (simp <;> omega)) _) | (with_reducible refine Below.setCell ?_ (by first | omega | (simp <;> omega)) _) | (with_reducible refine belowN ?_ _) | (with_reducible refine Below.trans ?_ (Below.mono (by with_reducible assumption) (by first | omega | (simp <;> omega)))))))
            try simp only [Act.put, List.setIfInBounds_toArray, List.set_cons_zero, List.set_cons_succ]
            refine wpAnyH_ready (rs := [12]) (by kernel_rfl) (by simp) ?_
            refine (AllReadyH.cons (o := _) rfl (fun KK hKK => ?_) AllReadyH.nil)
            go_simp
            (go_at_call 56; (with_reducible refine (cP4 _).mono ?_); rintro e w3 ⟨rfl, hb3⟩; have hz3 := hb3.size; simp at hz3; have K3 := Bk.below (Bk.new w2 bkZC 38) hb3 (by simp); have X3 := K3.cell; have F3 := K3.free)
            refine hKK.out _ _ ?_ (fun hSS => ?_)
            focus (exact (by repeat (first | (with_reducible exact Below.refl _ _) | (with_reducible assumption) | (with_reducible refine Below.drew ?_) | (with_reducible refine Below.alloc ?_ (by first | omega | (simp <;> omega)) _) | (with_reducible refine Below.setCell ?_ (by first | omega | (simp <;> omega)) _) | (with_reducible refine belowN ?_ _) | (with_reducible refine Below.trans ?_ (Below.mono (by with_reducible assumption) (by first | omega | (simp <;> omega)))))))
            try simp only [Act.put, List.setIfInBounds_toArray, List.set_cons_zero, List.set_cons_succ]
            refine wpAnyH_take (i := 17) (v := ?_) rfl (by kernel_rfl) (by kernel_rfl) (by kernel_rfl) (fun _ _ _ h => h) (Or.inl ⟨by rfl, ?_⟩) (by assumption) ?_
            rotate_left
            focus (intro w hSw; (try dsimp only at hSw); go_simp; try with_reducible rfl)
            try simp only [Act.put, List.setIfInBounds_toArray, List.set_cons_zero, List.set_cons_succ]
            refine wpAnyH_ready (rs := [19]) (by kernel_rfl) (by simp) ?_
            refine (AllReadyH.cons (o := _) rfl (fun KK hKK => ?_) AllReadyH.nil)
            go_simp
            refine hKK.out _ _ ?_ (fun hSS => ?_)
            focus (exact (by repeat (first | (with_reducible exact Below.refl _ _) | (with_reducible assumption) | (with_reducible refine Below.drew ?_) | (with_reducible refine Below.alloc ?_ (by first | omega | (simp <;> omega)) _) | (with_reducible refine Below.setCell ?_ (by first | omega | (simp <;> omega)) _) | (with_reducible refine belowN ?_ _) | (with_reducible refine Below.trans ?_ (Below.mono (by with_reducible assumption) (by first | omega | (simp <;> omega)))))))
            try simp only [Act.put, List.setIfInBounds_toArray, List.set_cons_zero, List.set_cons_succ]
            refine wpAnyH_done (by kernel_rfl) ?_ _
            go_wp2_with fail
            go_meet
            rw [HD.out]
            exact ⟨_, rfl, by first | omega | (simp; omega), (((K3.set 0 _).set 1 _).set 2 _).set 3 _, (by repeat (first | (with_reducible exact Below.refl _ _) | (with_reducible assumption) | (with_reducible refine Below.drew ?_) | (with_reducible refine Below.alloc ?_ (by first | omega | (simp <;> omega)) _) | (with_reducible refine Below.setCell ?_ (by first | omega | (simp <;> omega)) _) | (with_reducible refine belowN ?_ _) | (with_reducible refine Below.trans ?_ (Below.mono (by with_reducible assumption) (by first | omega | (simp <;> omega))))))⟩
        ·
          go_simp
          refine hKK.out _ _ ?_ (fun hSS => ?_)
          focus (exact (by repeat (first | (with_reducible exact Below.refl _ _) | (with_reducible assumption) | (with_reducible refine Below.drew ?_) | (with_reducible refine Below.alloc ?_ (by first | omega | (simp <;> omega)) _) | (with_reducible refine Below.setCell ?_ (by first | omega | (simp <;> omega)) _) | (with_reducible refine belowN ?_ _) | (with_reducible refine Below.trans ?_ (Below.mono (by with_reducible assumption) (by first | omega | (simp <;> omega)))))))
          try simp only [Act.put, List.setIfInBounds_toArray, List.set_cons_zero, List.set_cons_succ]
          refine wpAnyH_ready (rs := [3]) (by kernel_rfl) (by simp) ?_
          refine (AllReadyH.cons (o := _) rfl (fun KK hKK => ?_) AllReadyH.nil)
          go_simp
          (go_at_call 56; (with_reducible refine (cP2 _).mono ?_); rintro e w2 ⟨rfl, hb2⟩; have hz2 := hb2.size; simp at hz2; have K2 := Bk.below (Bk.drew (Bk.new w1 bkZC 38)) hb2 (by simp))
          refine hKK.out _ _ ?_ (fun hSS => ?_)
          focus (exact (by repeat (first | (with_reducible exact Below.refl _ _) | (with_reducible assumption) | (with_reducible refine Below.drew ?_) | (with_reducible refine Below.alloc ?_ (by first | omega | (simp <;> omega)) _) | (with_reducible refine Below.setCell ?_ (by first | omega | (simp <;> omega)) _) | (with_reducible refine belowN ?_ _) | (with_reducible refine Below.trans ?_ (Below.mono (by with_reducible assumption) (by first | omega | (simp <;> omega)))))))
          try simp only [Act.put, List.setIfInBounds_toArray, List.set_cons_zero, List.set_cons_succ]
          refine wpAnyH_ready (rs := [12]) (by kernel_rfl) (by simp) ?_
          refine (AllReadyH.cons (o := _) rfl (fun KK hKK => ?_) AllReadyH.nil)
          go_simp
          (go_at_call 56; (with_reducible refine (cP4 _).mono ?_); rintro e w3 ⟨rfl, hb3⟩; have hz3 := hb3.size; have K3 := Bk.below K2 hb3 K2.lt; have X3 := K3.cell; have F3 := K3.free)
          refine hKK.out _ _ ?_ (fun hSS => ?_)
          focus (exact (by repeat (first | (with_reducible exact Below.refl _ _) | (with_reducible assumption) | (with_reducible refine Below.drew ?_) | (with_reducible refine Below.alloc ?_ (by first | omega | (simp <;> omega)) _) | (with_reducible refine Below.setCell ?_ (by first | omega | (simp <;> omega)) _) | (with_reducible refine belowN ?_ _) | (with_reducible refine Below.trans ?_ (Below.mono (by with_reducible assumption) (by first | omega | (simp <;> omega)))))))
          try simp only [Act.put, List.setIfInBounds_toArray, List.set_cons_zero, List.set_cons_succ]
          refine wpAnyH_take (i := 17) (v := ?_) rfl (by kernel_rfl) (by kernel_rfl) (by kernel_rfl) (fun _ _ _ h => h) (Or.inl ⟨by rfl, ?_⟩) (by assumption) ?_
          rotate_left
          focus (intro w hSw; (try dsimp only at hSw); go_simp; try with_reducible rfl)
          try simp only [Act.put, List.setIfInBounds_toArray, List.set_cons_zero, List.set_cons_succ]
          refine wpAnyH_ready (rs := [19]) (by kernel_rfl) (by simp) ?_
          refine (AllReadyH.cons (o := _) rfl (fun KK hKK => ?_) AllReadyH.nil)
          go_simp
          refine hKK.out _ _ ?_ (fun hSS => ?_)
          focus (exact (by repeat (first | (with_reducible exact Below.refl _ _) | (with_reducible assumption) | (with_reducible refine Below.drew ?_) | (with_reducible refine Below.alloc ?_ (by first | omega | (simp <;> omega)) _) | (with_reducible refine Below.setCell ?_ (by first | omega | (simp <;> omega)) _) | (with_reducible refine belowN ?_ _) | (with_reducible refine Below.trans ?_ (Below.mono (by with_reducible assumption) (by first | omega | (simp <;> omega)))))))
          try simp only [Act.put, List.setIfInBounds_toArray, List.set_cons_zero, List.set_cons_succ]
          refine wpAnyH_done (by kernel_rfl) ?_ _
          go_wp2_with fail
          go_meet
          rw [HD.out]
          exact ⟨_, rfl, by first | omega | (simp; omega), (((K3.set 0 _).set 1 _).set 2 _).set 3 _, (by repeat (first | (with_reducible exact Below.refl _ _) | (with_reducible assumption) | (with_reducible refine Below.drew ?_) | (with_reducible refine Below.alloc ?_ (by first | omega | (simp <;> omega)) _) | (with_reducible refine Below.setCell ?_ (by first | omega | (simp <;> omega)) _) | (with_reducible refine belowN ?_ _) | (with_reducible refine Below.trans ?_ (Below.mono (by with_reducible assumption) (by first | omega | (simp <;> omega))))))⟩
      case rest =>
        obtain ⟨gp, rfl, hgp, hbk, hb3⟩ := hcut
        have K3 := K1.below hb3 (by omega)
        have g3 := g1.trans (hb3.mono (by omega))
        have hz3 := hb3.size
        have hgl := hbk.lt
        clear K1 g1 hb3
        have X3 := K3.cell
        have F3 := K3.free
        have Y3 := hbk.cell
        have hne : ¬ gp = w.heap.size := by omega
        have hp1 : (0 : Int) ≤ (n : Int) + 1 := by omega
        have hpe : (n : Int) + 1 ≤ (n : Int) + 8 + m := by omega
        have cF := fun w => blockValid_any ⟨n2, r, n4, D⟩ w hsm
        have HP2 : Go.RowKit.Hid (parseB l n = if (⟨n2, r, n4, D⟩ : Blk).ok = true ∧ sumOf T = numAt l ((n : Int) + 8 + m) then some (⟨n2, r, n4, D⟩, (n : Int) + 8 + m + 2) else none) := by
          show _ = _
          rw [HP.out, HB.out]
        clear HP HB hsm
        generalize (⟨n2, r, n4, D⟩ : Blk).ok = ok at *
        generalize numAt l ((n : Int) + 8 + m) = N at *
        have hcases : ok = false ∨ (ok = true ∧ ((sumOf T == N) = false ∧ (sumOf T != N) = true ∨ (sumOf T == N) = true ∧ (sumOf T != N) = false)) := by
          cases ok
          · exact .inl rfl
          · refine .inr ⟨rfl, ?_⟩
            by_cases h : sumOf T = N
            · right; simp [h]
            · left; simp [h]
        rcases hcases with rfl | ⟨rfl, ⟨hd, hd2⟩ | ⟨hd, hd2⟩⟩
        · have HR : Go.RowKit.Hid (pbRes (parseB l n) = .returned (.tuple #[.agg bkZC, .int .i64 0, .bool false])) := by show _ = _; rw [HP2.out]; simp; rfl
          clear HP2
          go_wp2_with fail
          refine (cF _).mono ?_
          rintro e w4 ⟨rfl, hb4⟩
          have K4 := K3.below hb4 (by omega)
          have g4 := g3.trans (hb4.mono (by omega))
          have X4 := K4.cell
          have F4 := K4.free
          clear X3 F3
          go_wp2
          exact bodyPost_ret (v := .tuple #[.agg bkZC, .int .i64 0, .bool false]) (by simp [results, Tryz.results34, go_sem, X4]) rfl ⟨HR.out.symm, (by repeat (first | (with_reducible exact Below.refl _ _) | (with_reducible assumption) | (with_reducible refine Below.drew ?_) | (with_reducible refine Below.alloc ?_ (by first | omega | (simp <;> omega)) _) | (with_reducible refine Below.setCell ?_ (by first | omega | (simp <;> omega)) _) | (with_reducible refine belowN ?_ _)))⟩
        · have HR : Go.RowKit.Hid (pbRes (parseB l n) = .returned (.tuple #[.agg bkZC, .int .i64 0, .bool false])) := by show _ = _; rw [HP2.out, if_neg (fun h => by simp [h.2] at hd)]; rfl
          clear HP2
          go_wp2_with fail
          refine (cF _).mono ?_
          rintro e w4 ⟨rfl, hb4⟩
          have K4 := K3.below hb4 (by omega)
          have hz4 := hb4.size
          have g4 := g3.trans (hb4.mono (by omega))
          clear X3 F3 hb4
          go_wp2_with fail
          refine (sumOf_any T _ (by omega)).mono ?_
          rintro e w5 ⟨rfl, rfl⟩
          go_wp2_with fail
          refine (cPe _).mono ?_
          rintro e w5 ⟨rfl, hb5⟩
          have K5 := K4.below hb5 (by omega)
          have g5 := g4.trans (hb5.mono (by omega))
          have X4 := K5.cell
          have F4 := K5.free
          go_wp2
          exact bodyPost_ret (v := .tuple #[.agg bkZC, .int .i64 0, .bool false]) (by simp [results, Tryz.results34, go_sem, X4]) rfl ⟨HR.out.symm, (by repeat (first | (with_reducible exact Below.refl _ _) | (with_reducible assumption) | (with_reducible refine Below.drew ?_) | (with_reducible refine Below.alloc ?_ (by first | omega | (simp <;> omega)) _) | (with_reducible refine Below.setCell ?_ (by first | omega | (simp <;> omega)) _) | (with_reducible refine belowN ?_ _)))⟩
        · have HR : Go.RowKit.Hid (pbRes (parseB l n) = .returned (.tuple #[bkV ⟨n2, r, n4, D⟩, .int .i64 ((n : Int) + 8 + m + 2), .bool true])) := by show _ = _; rw [HP2.out, if_pos ⟨rfl, by simpa using hd⟩]; rfl
          clear HP2
          go_wp2_with fail
          refine (cF _).mono ?_
          rintro e w4 ⟨rfl, hb4⟩
          have K4 := K3.below hb4 (by omega)
          have k4 := hbk.below hb4 (by omega)
          have hz4 := hb4.size
          have g4 := g3.trans (hb4.mono (by omega))
          clear X3 F3 Y3 hb4
          go_wp2_with fail
          refine (sumOf_any T _ (by omega)).mono ?_
          rintro e w5 ⟨rfl, rfl⟩
          go_wp2_with fail
          refine (cPe _).mono ?_
          rintro e w5 ⟨rfl, hb5⟩
          have K5 := K4.below hb5 (by omega)
          have k5 := k4.below hb5 (by omega)
          have g5 := g4.trans (hb5.mono (by omega))
          have X4 := K5.cell
          have F4 := K5.free
          have Y4 := k5.cell
          go_wp2
          exact bodyPost_ret (v := .tuple #[bkV ⟨n2, r, n4, D⟩, .int .i64 ((n : Int) + 8 + m + 2), .bool true]) (by simp [results, Tryz.results34, go_sem, X4]) rfl ⟨HR.out.symm, (by repeat (first | (with_reducible exact Below.refl _ _) | (with_reducible assumption) | (with_reducible refine Below.drew ?_) | (with_reducible refine Below.alloc ?_ (by first | omega | (simp <;> omega)) _) | (with_reducible refine Below.setCell ?_ (by first | omega | (simp <;> omega)) _) | (with_reducible refine belowN ?_ _)))⟩
    · have hfi : (l.length : Int) - 2 < (n : Int) + 8 + m := by omega
      have HR : Go.RowKit.Hid (pbRes (parseB l n) = .returned (.tuple #[.agg bkZC, .int .i64 0, .bool false])) := by
        refine parseB_no ?_
        unfold parseOk
        rw [decide_eq_false (by rw [hE]; omega : ¬ endAt l n ≤ l.length)]
        simp
      clear hE hB
      go_enter Tryz.func34, Tryz.ntmps34
      go_wp2_with fail
      have K0 := Bk.new w bkZC 38
      refine (cP6 _).mono ?_
      rintro e w1 ⟨rfl, hb1⟩
      have K1 := K0.below hb1 K0.lt
      have hz1 := hb1.size
      simp only [World.size_alloc] at hz1
      have g1 : Below w.heap.size w w1 := ((Below.refl _ _).alloc (Nat.le_refl _) _).trans (hb1.mono (by simp))
      have X1 := K1.cell
      have F1 := K1.free
      go_wp2
      exact bodyPost_ret (v := .tuple #[.agg bkZC, .int .i64 0, .bool false]) (by simp [results, Tryz.results34, go_sem, X1]) rfl ⟨HR.out.symm, (by repeat (first | (with_reducible exact Below.refl _ _) | (with_reducible assumption) | (with_reducible refine Below.drew ?_) | (with_reducible refine Below.alloc ?_ (by first | omega | (simp <;> omega)) _) | (with_reducible refine Below.setCell ?_ (by first | omega | (simp <;> omega)) _) | (with_reducible refine belowN ?_ _)))⟩
  · have HR : Go.RowKit.Hid (pbRes (parseB l a) = .returned (.tuple #[.agg bkZC, .int .i64 0, .bool false])) := parseB_no (parseOk_head hh)
    have hw := head_ways hh
    clear hh
    rcases hw with h0 | ⟨n, rfl, h1⟩
    · go_enter Tryz.func34, Tryz.ntmps34
      go_wp2
      exact bodyPost_ret (v := .tuple #[.agg bkZC, .int .i64 0, .bool false]) (by simp [results, Tryz.results34, go_sem]) rfl ⟨HR.out.symm, (by repeat (first | (with_reducible exact Below.refl _ _) | (with_reducible assumption) | (with_reducible refine Below.drew ?_) | (with_reducible refine Below.alloc ?_ (by first | omega | (simp <;> omega)) _) | (with_reducible refine Below.setCell ?_ (by first | omega | (simp <;> omega)) _) | (with_reducible refine belowN ?_ _)))⟩
    · have hi1 : ¬ (n : Int) < 0 := by omega
      rcases h1 with h1 | ⟨h1, h2⟩ | ⟨h1, h2⟩ | ⟨h1, h2, h3⟩
      all_goals
        first | have hi2 : (l.length : Int) - 10 < n := by omega
              | have hi2 : ¬ (l.length : Int) - 10 < n := by omega
        first | have hi5 : (n : Int) < l.length := by omega
              | skip
        first | have hi6 : (n : Int) + 1 < l.length := by omega
              | skip
        go_enter Tryz.func34, Tryz.ntmps34
        go_wp2
        exact bodyPost_ret (v := .tuple #[.agg bkZC, .int .i64 0, .bool false]) (by simp [results, Tryz.results34, go_sem]) rfl ⟨HR.out.symm, (by repeat (first | (with_reducible exact Below.refl _ _) | (with_reducible assumption) | (with_reducible refine Below.drew ?_) | (with_reducible refine Below.alloc ?_ (by first | omega | (simp <;> omega)) _) | (with_reducible refine Below.setCell ?_ (by first | omega | (simp <;> omega)) _) | (with_reducible refine belowN ?_ _)))⟩
end Go.Proofs.YtfonokhafdflcaaGreat
/- Walks: the next block, by both. -/
namespace Go.Proofs.YtfonokhafdflcaaGreat
open Go.RowKit
set_option linter.unusedVariables false
set_option linter.unusedSimpArgs false
set_option maxRecDepth 100000
attribute [local go_sem high] run_index_S binOp_eql_S binOp_neq_S append_S toList_S size_S run_slice_S run_slice_from_S run_slice_to_S wrap64_byteAt wrap64_byteAt_mul bits_or_bytes convU conv1_some convU2 conv2_some
theorem pb_yes {l : Bs} {a : Int} (h : parseOk l a = true) : pbRes (parseB l a) = .returned (.tuple #[bkV (blkAt l a), .int .i64 (endAt l a), .bool true]) := by
  unfold parseB; rw [if_pos h]; rfl
theorem nextGo_zero (l : Bs) (a : Int) : nextGo l 0 a = -1 := rfl
theorem nextGo_yes {l : Bs} {a : Int} (n : Nat) (h : parseOk l a = true) : nextGo l (n + 1) a = a := by unfold nextGo; rw [if_pos h]
theorem nextGo_no {l : Bs} {a : Int} (n : Nat) (h : parseOk l a = false) : nextGo l (n + 1) a = nextGo l n (a + 1) := by rw [nextGo, if_neg (by rw [h]; simp)]
theorem nextB_bd (l : Bs) (a : Int) : -1 ≤ nextB l a ∧ nextB l a ≤ 8000 ∧ (0 ≤ nextB l a → a ≤ nextB l a ∧ parseOk l (nextB l a) = true) := by
  unfold nextB
  split
  · rename_i h
    rcases nextGo_spec l (l.length - a).toNat a with ⟨h1, _⟩ | ⟨h1, h2, h3, _⟩
    · rw [h1]; exact ⟨by omega, by omega, fun h => by omega⟩
    · exact ⟨by omega, by omega, fun _ => ⟨h1, h3⟩⟩
  · exact ⟨by omega, by omega, fun h => by omega⟩
theorem iParse_yes (l : Bs) (a : Int) (w : World) (hs : l.length ≤ 1500000) (ha0 : -9223372036854775808 ≤ a) (ha1 : a ≤ 9223372036854775807) (h : parseOk l a = true) :
    Calls Tryz.prog 34 #[.string ⟨l.toArray⟩, .int .i64 a] w fun e w' => e = .returned (.tuple #[bkV (blkAt l a), .int .i64 (endAt l a), .bool true]) ∧ Below w.heap.size w w' :=
  (parseBlock_any l a w hs ha0 ha1).mono fun e w' ⟨he, hb⟩ => ⟨he.trans (pb_yes h), hb⟩
theorem iParse_no (l : Bs) (a : Int) (w : World) (hs : l.length ≤ 1500000) (ha0 : -9223372036854775808 ≤ a) (ha1 : a ≤ 9223372036854775807) (h : parseOk l a = false) :
    Calls Tryz.prog 34 #[.string ⟨l.toArray⟩, .int .i64 a] w fun e w' => e = .returned (.tuple #[.agg bkZC, .int .i64 0, .bool false]) ∧ Below w.heap.size w w' :=
  (parseBlock_any l a w hs ha0 ha1).mono fun e w' ⟨he, hb⟩ => ⟨he.trans (parseB_no h), hb⟩
set_option maxHeartbeats 1000000 in
theorem nextBlock_any (l : Bs) (a : Int) (w : World) (hs : l.length ≤ 1500000) (ha0 : -9223372036854775808 ≤ a) (ha1 : a ≤ 9223372036854775807) :
    Calls Tryz.prog 33 #[.string ⟨l.toArray⟩, .int .i64 a] w fun e w' => e = .returned (.int .i64 (nextB l a)) ∧ Below w.heap.size w w' := by
  by_cases hl : l.length ≤ 8000
  · have hl1 : ¬ (8000 : Int) < l.length := by omega
    by_cases h0 : a < 0
    · have HR : Go.RowKit.Hid (nextB l a = -1) := by show _ = _; unfold nextB; rw [if_neg (by omega)]
      go_enter Tryz.func33, Tryz.ntmps33
      go_wp2
      go_ret
      exact ⟨ret_int HR.out.symm, (by repeat (first | (with_reducible exact Below.refl _ _) | (with_reducible assumption) | (with_reducible refine Below.drew ?_) | (with_reducible refine Below.alloc ?_ (by first | omega | (simp <;> omega)) _) | (with_reducible refine Below.setCell ?_ (by first | omega | (simp <;> omega)) _) | (with_reducible refine belowN ?_ _)))⟩
    · obtain ⟨n, rfl⟩ := Int.eq_ofNat_of_zero_le (by omega : 0 ≤ a)
      have HR : Go.RowKit.Hid (nextB l n = nextGo l (l.length - n) n) := by
        show _ = _
        unfold nextB; rw [if_pos ⟨hl, by omega⟩, show ((l.length : Int) - n).toNat = l.length - n by omega]
      generalize nextB l n = R at *
      go_enter Tryz.func33, Tryz.ntmps33
      go_wp2
      go_loopw [1] (fun i wr => ∃ k : Nat, i = .int .i64 k ∧ k ≤ max n l.length ∧ Go.RowKit.Hid (R = nextGo l (l.length - k) k) ∧ Below w.heap.size w wr) (fun i _ => l.length - (intOf i).toNat)
      case atStart => exact ⟨n, rfl, by omega, HR, (by repeat (first | (with_reducible exact Below.refl _ _) | (with_reducible assumption) | (with_reducible refine Below.drew ?_) | (with_reducible refine Below.alloc ?_ (by first | omega | (simp <;> omega)) _) | (with_reducible refine Below.setCell ?_ (by first | omega | (simp <;> omega)) _) | (with_reducible refine belowN ?_ _)))⟩
      case round =>
        obtain ⟨k, rfl, hk2, HK, hb⟩ := hrel
        clear HR
        by_cases hlt : k < l.length
        · have hki : (k : Int) < l.length := by omega
          obtain ⟨m, hm⟩ : ∃ m, l.length - k = m + 1 := ⟨l.length - k - 1, by omega⟩
          have HM := Go.Lib.hid hm
          clear hm
          cases hp : parseOk l k
          · have HK2 : Go.RowKit.Hid (R = nextGo l (l.length - (k + 1)) ((k : Int) + 1)) := by
              show _ = _
              rw [HK.out, HM.out, nextGo_no m hp, show l.length - (k + 1) = m by have := HM.out; omega]
            have cP := fun w => iParse_no l k w (by omega) (by omega) (by omega) hp
            clear hp HK HM
            go_wp2_with fail
            refine (cP _).mono ?_
            rintro e w1 ⟨rfl, hb1⟩
            have hbs := hb.size
            have g1 := hb.trans (hb1.mono (by omega))
            have gs := g1.size
            clear cP hb1
            go_wp2
            go_roundw
            case rel => exact ⟨k + 1, by go_num, by omega, HK2, (by repeat (first | (with_reducible exact Below.refl _ _) | (with_reducible assumption) | (with_reducible refine Below.drew ?_) | (with_reducible refine Below.alloc ?_ (by first | omega | (simp <;> omega)) _) | (with_reducible refine Below.setCell ?_ (by first | omega | (simp <;> omega)) _) | (with_reducible refine belowN ?_ _)))⟩
            case measure => simp [intOf]; omega
          · have HK2 : Go.RowKit.Hid (R = (k : Int)) := by
              show _ = _
              rw [HK.out, HM.out, nextGo_yes m hp]
            have cP := fun w => iParse_yes l k w (by omega) (by omega) (by omega) hp
            clear hp HK HM
            generalize blkAt l k = b at *
            obtain ⟨n2, r, n4, D⟩ := b
            go_wp2_with fail
            refine (cP _).mono ?_
            rintro e w1 ⟨rfl, hb1⟩
            have hbs := hb.size
            have g1 := hb.trans (hb1.mono (by omega))
            have gs := g1.size
            clear cP hb1
            go_wp2
            go_ret
            exact ⟨ret_int HK2.out.symm, (by repeat (first | (with_reducible exact Below.refl _ _) | (with_reducible assumption) | (with_reducible refine Below.drew ?_) | (with_reducible refine Below.alloc ?_ (by first | omega | (simp <;> omega)) _) | (with_reducible refine Below.setCell ?_ (by first | omega | (simp <;> omega)) _) | (with_reducible refine belowN ?_ _)))⟩
        · have hki : ¬ (k : Int) < l.length := by omega
          have HK2 : Go.RowKit.Hid (R = -1) := by
            show _ = _
            rw [HK.out, show l.length - k = 0 by omega]; rfl
          clear HK
          go_wp2
          go_ret
          exact ⟨ret_int HK2.out.symm, (by repeat (first | (with_reducible exact Below.refl _ _) | (with_reducible assumption) | (with_reducible refine Below.drew ?_) | (with_reducible refine Below.alloc ?_ (by first | omega | (simp <;> omega)) _) | (with_reducible refine Below.setCell ?_ (by first | omega | (simp <;> omega)) _) | (with_reducible refine belowN ?_ _)))⟩
  · have hl1 : (8000 : Int) < l.length := by omega
    have HR : Go.RowKit.Hid (nextB l a = -1) := by show _ = _; unfold nextB; rw [if_neg (by omega)]
    go_enter Tryz.func33, Tryz.ntmps33
    go_wp2
    go_ret
    exact ⟨ret_int HR.out.symm, (by repeat (first | (with_reducible exact Below.refl _ _) | (with_reducible assumption) | (with_reducible refine Below.drew ?_) | (with_reducible refine Below.alloc ?_ (by first | omega | (simp <;> omega)) _) | (with_reducible refine Below.setCell ?_ (by first | omega | (simp <;> omega)) _) | (with_reducible refine belowN ?_ _)))⟩
end Go.Proofs.YtfonokhafdflcaaGreat
