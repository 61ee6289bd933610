/- Walks: the draws of operations and of their texts. -/
import Derived.Test.YtkoefklgfkhmpaaDoorD5
import Derived.Test.YtkoefklgfkhmpaaDoorW4
import Derived.Test.YtkoefklgfkhmpaaDoorW6
namespace Go.Proofs.YtkoefklgfkhmpaaDoor
open Go.RowKit
set_option linter.unusedVariables false
set_option linter.unusedSimpArgs false
set_option maxRecDepth 100000
attribute [local go_sem high] run_index_S binOp_eql_S binOp_neq_S append_S toList_S size_S run_slice_S run_slice_from_S run_slice_to_S wrap64_byteAt wrap64_byteAt_mul bits_or_bytes convU conv1_some convU2 conv2_some
set_option maxHeartbeats 2000000 in
theorem drawOpValid_any (bs : Bs) (A : Option Addr) (cap : Nat) (w : World) (hs : Sl w A bs.length cap 1 (bs.map u8v)) :
    Calls Tryd.prog 17 #[.slice A bs.length cap] w fun e w' => (∃ x : OpR, e = .returned x.val' ∧ OpSm x) ∧ Below w.heap.size w w' := by
  have K0_0 := Bk.new w #[.int .i64 0, .string ⟨#[]⟩, .int .i64 0, .int .i64 0, .int .i64 0, .string ⟨#[]⟩] 24
  have g0 : Below w.heap.size w (w.alloc (.cells #[.int .i64 0, .string ⟨#[]⟩, .int .i64 0, .int .i64 0, .int .i64 0, .string ⟨#[]⟩] 24)) := (by repeat (first | (with_reducible exact Below.refl _ _) | (with_reducible assumption) | (with_reducible refine Below.drew ?_) | (with_reducible refine Below.alloc ?_ (by first | omega | (simp <;> omega)) _) | (with_reducible refine Below.setCell ?_ (by first | omega | (simp <;> omega)) _) | (with_reducible refine belowN ?_ _)))
  go_enter Tryd.func17, Tryd.ntmps17
  go_wp2_with fail
  refine (l9Open_any bs A cap _ (hs.alloc _)).mono ?_
  rintro e w1 ⟨rfl, R1, hb1⟩
  have z1 := hb1.size
  have K0_1 := K0_0.below hb1 K0_0.lt
  have g1 : BelowR w.heap.size (w.heap.size + 1) w w1 := below_toR (g0.trans (hb1.mono (by simp))) _
  simp only [World.size_alloc] at R1 z1 ⊢
  clear hb1 K0_0 g0
  go_wp2_with fail
  refine (l1Some_any _ _ _ R1 (by omega)).mono ?_
  rintro e w2 ⟨⟨o, l, m, rfl, hst⟩, R2, b2⟩
  have z2 := b2.size
  try simp only [World.size_alloc, World.size_setCell, World.size_drew] at z2
  have K0_2 := K0_1.belowR b2 (by first | omega | (simp; done) | (simp; omega)) (by omega)
  have g2 := g1.trans (b2.mono (by first | omega | (simp; done) | (simp; omega)))
  clear b2 g1 K0_1
  go_wp2_with fail
  refine (l8Op_any _ _ o l m _ R2 (by omega) hst).mono ?_
  rintro e w3 ⟨⟨x, rfl, hx⟩, R3, b3⟩
  have z3 := b3.size
  try simp only [World.size_alloc, World.size_setCell, World.size_drew] at z3
  have K0_3 := K0_2.belowR b3 (by first | omega | (simp; done) | (simp; omega)) (by omega)
  have g3 := g2.trans (b3.mono (by first | omega | (simp; done) | (simp; omega)))
  clear b3 g2 K0_2
  obtain ⟨k, f, t, s, nm, d⟩ := x
  go_wp2_with fail
  refine (l8BadOp_any _ _ k f t s nm d _ R3 (by omega) hx.1 hx.2).mono ?_
  rintro e w4 ⟨⟨y, rfl, hy⟩, R4, b4⟩
  have z4 := b4.size
  try simp only [World.size_alloc, World.size_setCell, World.size_drew] at z4
  have K0_4 := K0_3.belowR b4 (by first | omega | (simp; done) | (simp; omega)) (by omega)
  have g4 := g3.trans (b4.mono (by first | omega | (simp; done) | (simp; omega)))
  clear b4 g3 K0_3
  obtain ⟨k2, f2, t2, s2, nm2, d2⟩ := y
  have X0 := K0_4.cell
  have F0 := K0_4.free
  have g4b : Below w.heap.size w w4 := g4.below (by omega)
  go_wp2
  exact bodyPost_ret (v := (⟨k2, f2, t2, s2, nm2, d2⟩ : OpR).val') (by simp [results, Tryd.results17, go_sem, X0]) rfl ⟨⟨⟨k2, f2, t2, s2, nm2, d2⟩, rfl, hy⟩, (by repeat (first | (with_reducible exact Below.refl _ _) | (with_reducible assumption) | (with_reducible refine Below.drew ?_) | (with_reducible refine Below.alloc ?_ (by first | omega | (simp <;> omega)) _) | (with_reducible refine Below.setCell ?_ (by first | omega | (simp <;> omega)) _) | (with_reducible refine belowN ?_ _)))⟩
theorem drawFormatOp_any (bs : Bs) (A : Option Addr) (cap : Nat) (w : World) (hs : Sl w A bs.length cap 1 (bs.map u8v)) :
    Calls Tryd.prog 12 #[.slice A bs.length cap] w fun e w' => (∃ x : OpR, e = .returned x.val' ∧ OpSm x) ∧ Below w.heap.size w w' := by
  have K0_0 := Bk.new w #[.int .i64 0, .string ⟨#[]⟩, .int .i64 0, .int .i64 0, .int .i64 0, .string ⟨#[]⟩] 24
  have g0 : Below w.heap.size w (w.alloc (.cells #[.int .i64 0, .string ⟨#[]⟩, .int .i64 0, .int .i64 0, .int .i64 0, .string ⟨#[]⟩] 24)) := (by repeat (first | (with_reducible exact Below.refl _ _) | (with_reducible assumption) | (with_reducible refine Below.drew ?_) | (with_reducible refine Below.alloc ?_ (by first | omega | (simp <;> omega)) _) | (with_reducible refine Below.setCell ?_ (by first | omega | (simp <;> omega)) _) | (with_reducible refine belowN ?_ _)))
  go_enter Tryd.func12, Tryd.ntmps12
  go_wp2_with fail
  refine (drawOpValid_any bs A cap _ (hs.alloc _)).mono ?_
  rintro e w1 ⟨⟨y, rfl, hy⟩, hb1⟩
  have z1 := hb1.size
  have K0_1 := K0_0.below hb1 K0_0.lt
  have g1 := g0.trans (hb1.mono (by simp))
  simp only [World.size_alloc] at z1
  obtain ⟨k2, f2, t2, s2, nm2, d2⟩ := y
  have X0 := K0_1.cell
  have F0 := K0_1.free
  go_wp2
  exact bodyPost_ret (v := (⟨k2, f2, t2, s2, nm2, d2⟩ : OpR).val') (by simp [results, Tryd.results12, go_sem, X0]) rfl ⟨⟨⟨k2, f2, t2, s2, nm2, d2⟩, rfl, hy⟩, (by repeat (first | (with_reducible exact Below.refl _ _) | (with_reducible assumption) | (with_reducible refine Below.drew ?_) | (with_reducible refine Below.alloc ?_ (by first | omega | (simp <;> omega)) _) | (with_reducible refine Below.setCell ?_ (by first | omega | (simp <;> omega)) _) | (with_reducible refine belowN ?_ _)))⟩
theorem drawLogRecord_any (bs : Bs) (A : Option Addr) (cap : Nat) (w : World) (hs : Sl w A bs.length cap 1 (bs.map u8v)) :
    Calls Tryd.prog 5 #[.slice A bs.length cap] w fun e w' => (∃ x : OpR, e = .returned x.val' ∧ OpSm x) ∧ Below w.heap.size w w' := by
  have K0_0 := Bk.new w #[.int .i64 0, .string ⟨#[]⟩, .int .i64 0, .int .i64 0, .int .i64 0, .string ⟨#[]⟩] 24
  have g0 : Below w.heap.size w (w.alloc (.cells #[.int .i64 0, .string ⟨#[]⟩, .int .i64 0, .int .i64 0, .int .i64 0, .string ⟨#[]⟩] 24)) := (by repeat (first | (with_reducible exact Below.refl _ _) | (with_reducible assumption) | (with_reducible refine Below.drew ?_) | (with_reducible refine Below.alloc ?_ (by first | omega | (simp <;> omega)) _) | (with_reducible refine Below.setCell ?_ (by first | omega | (simp <;> omega)) _) | (with_reducible refine belowN ?_ _)))
  go_enter Tryd.func5, Tryd.ntmps5
  go_wp2_with fail
  refine (drawOpValid_any bs A cap _ (hs.alloc _)).mono ?_
  rintro e w1 ⟨⟨y, rfl, hy⟩, hb1⟩
  have z1 := hb1.size
  have K0_1 := K0_0.below hb1 K0_0.lt
  have g1 := g0.trans (hb1.mono (by simp))
  simp only [World.size_alloc] at z1
  obtain ⟨k2, f2, t2, s2, nm2, d2⟩ := y
  have X0 := K0_1.cell
  have F0 := K0_1.free
  go_wp2
  exact bodyPost_ret (v := (⟨k2, f2, t2, s2, nm2, d2⟩ : OpR).val') (by simp [results, Tryd.results5, go_sem, X0]) rfl ⟨⟨⟨k2, f2, t2, s2, nm2, d2⟩, rfl, hy⟩, (by repeat (first | (with_reducible exact Below.refl _ _) | (with_reducible assumption) | (with_reducible refine Below.drew ?_) | (with_reducible refine Below.alloc ?_ (by first | omega | (simp <;> omega)) _) | (with_reducible refine Below.setCell ?_ (by first | omega | (simp <;> omega)) _) | (with_reducible refine belowN ?_ _)))⟩
theorem ext_drop (t : Bs) (k : Nat) : (⟨t.toArray⟩ : ByteArray).extract k t.length = ⟨(t.drop k).toArray⟩ := by
  rw [ByteArray.extract_mk]
  simp
  rw [List.take_of_length_le (by simp)]
theorem small1 {x : Bs} (h : x ∈ ([[], [48], [49], [59], [44], [46], [45], [124], [32]] : List Bs)) : x.length ≤ 1 := by
  simp at h
  rcases h with h | h | h | h | h | h | h | h | h <;> rw [h] <;> simp
set_option maxHeartbeats 4000000 in
theorem l3Bent_any (r M : Nat) (t : Bs) (w : World) (hR : Rd w r M) (hM : M ≤ 50000000) (ht : t.length ≤ 1000000) :
    Calls Tryd.prog 34 #[.pointer (some ⟨r, 0, none⟩), .string ⟨t.toArray⟩] w fun e w' => (∃ u : Bs, e = .returned (sv u) ∧ u.length ≤ t.length + 1) ∧ Rd w' r (M + 4) ∧ BelowR w.heap.size r w w' := by
  have hr := hR.lt
  have R0 := hR
  have g0 := BelowR.refl w.heap.size r w
  go_enter Tryd.func34, Tryd.ntmps34
  go_wp2_with fail
  refine (pick_any r M 2 _ R0 (by omega) (by omega) (by omega)).mono ?_
  rintro e w1 ⟨⟨v, rfl, hv0, hv1⟩, R1, b1⟩
  have z1 := b1.size
  try simp only [World.size_alloc, World.size_setCell, World.size_drew] at z1
  have g1 := g0.trans (b1.mono (by first | omega | (simp; done) | (simp; omega)))
  clear b1 g0 
  by_cases hv : v = 0
  · subst hv
    go_wp2
    go_ret
    exact ⟨⟨t, rfl, by omega⟩, R1.mono (by omega), g1⟩
  have hvb : (v == 0) = false := by rw [beq_eq_false_iff_ne]; exact hv
  by_cases hte : t = []
  · subst hte
    go_wp2
    go_ret
    exact ⟨⟨[], rfl, by simp⟩, R1.mono (by omega), g1⟩
  have hteb : decide (t = []) = false := by simpa using hte
  have htl : 0 < t.length := List.length_pos_iff.2 hte
  clear hv hte hv1
  go_wp2_with fail
  refine (pick_any r _ _ _ R1 (by omega) (by omega) (by omega)).mono ?_
  rintro e w2 ⟨⟨k, rfl, hk0, hk1⟩, R2, b2⟩
  have z2 := b2.size
  try simp only [World.size_alloc, World.size_setCell, World.size_drew] at z2
  have g2 := g1.trans (b2.mono (by first | omega | (simp; done) | (simp; omega)))
  clear b2 g1 
  obtain ⟨n, rfl⟩ := Int.eq_ofNat_of_zero_le hk0
  have hn : n < t.length := by omega
  have hni : (n : Int) < t.length := by omega
  have hni2 : (n : Int) ≤ t.length := by omega
  clear hk0 hk1
  obtain ⟨P1, hP1, hP2, hP3⟩ : ∃ P : Bs, t.take n = P ∧ P.length ≤ 1000000 ∧ P.length = n := ⟨_, rfl, by simp; omega, by simp; omega⟩
  have s2 := Sl.list w2 [sv [], sv [48], sv [49], sv [59], sv [44], sv [46], sv [45], sv [124], sv [32]] 9 w2.heap.size 9 rfl rfl (by omega)
  go_wp2_with fail
  go_region_with (first
    | (go_at_call 52; refine (pick_any r _ 2 _ (by exact R3) (by omega) (by omega) (by omega)).mono ?_; rintro e w4 ⟨⟨q, rfl, hq0, hq1⟩, R4, b4⟩; have g4 := g3.trans (b4.mono (by omega)); obtain ⟨qn, rfl⟩ := Int.eq_ofNat_of_zero_le hq0; have hqn : qn ≤ 1 := (by omega); have hqi : (n : Int) + qn ≤ t.length := (by omega); have hqi0 : 0 ≤ (n : Int) + qn := (by omega); have hqi2 : n + qn ≤ t.length := (by omega); have hqw : IntKind.i64.wrap ((n : Int) + qn) = (n : Int) + qn := IntWalk.i64_in _ ⟨(by omega), (by omega)⟩; have hqx : (⟨t.toArray⟩ : ByteArray).extract (n + qn) t.length = ⟨(t.drop (n + qn)).toArray⟩ := ext_drop t (n + qn); obtain ⟨D1, hD1, hD2, hD3⟩ : ∃ D : Bs, t.drop (n + qn) = D ∧ D.length ≤ 1000000 ∧ D.length ≤ t.length - n := ⟨_, rfl, by rw [List.length_drop]; omega, by rw [List.length_drop]; omega⟩; have hs2 : ¬ 9223372036854775807 < n + x.length + D1.length := (by omega); have hs4 : ¬ 9223372036854775807 < n + x.length + (t.length - (n + qn)) := (by omega); have hs5 : n + x.length + (t.length - (n + qn)) ≤ 9223372036854775807 := (by omega); have hs6 : n + x.length + D1.length ≤ 9223372036854775807 := (by omega); have hs3 : ¬ 9223372036854775807 < n + (x.length + D1.length) := (by omega); clear b4 hq0 hq1)
    | (go_at_call 53; refine (of_any r _ [[], [48], [49], [59], [44], [46], [45], [124], [32]] (some ⟨w2.heap.size, 0, none⟩) 9 _ (Rd.drew (Rd.alloc R2 _)) (by omega) (by exact s2) (by simp) (by simp) (by rintro g off ⟨⟩; omega)).mono ?_; rintro e w3 ⟨⟨x, hx, rfl⟩, R3, b3⟩; have z3 := b3.size; simp only [World.size_alloc, World.size_drew] at z3; have g3 := (BelowR.drew (g2.alloc (by omega) _)).trans (b3.mono (by simp; omega)); have hxl : x.length ≤ 1 := small1 hx; have hs1 : ¬ 9223372036854775807 < n + x.length := (by omega); clear b3 hx))
  all_goals
    go_wp2
    go_ret
    refine ⟨⟨_, rfl, ?_⟩, R4.mono (by omega), g4⟩
    first
      | (simp only [List.length_append]; omega)
      | (simp; omega)
set_option maxHeartbeats 2000000 in
theorem drawParseOp_any (bs : Bs) (A : Option Addr) (cap : Nat) (w : World) (hs : Sl w A bs.length cap 1 (bs.map u8v)) :
    Calls Tryd.prog 15 #[.slice A bs.length cap] w fun e w' => (∃ u : Bs, e = .returned (sv u) ∧ u.length ≤ 10000) ∧ Below w.heap.size w w' := by
  go_enter Tryd.func15, Tryd.ntmps15
  go_wp2_with fail
  refine (l9Open_any bs A cap _ hs).mono ?_
  rintro e w1 ⟨rfl, R1, hb1⟩
  have z1 := hb1.size
  have g1 : BelowR w.heap.size w.heap.size w w1 := below_toR hb1 _
  clear hb1
  go_wp2_with fail
  refine (l1Some_any _ _ _ R1 (by omega)).mono ?_
  rintro e w2 ⟨⟨o, l, m, rfl, hst⟩, R2, b2⟩
  have z2 := b2.size
  try simp only [World.size_alloc, World.size_setCell, World.size_drew] at z2
  have g2 := g1.trans (b2.mono (by first | omega | (simp; done) | (simp; omega)))
  clear b2 g1 
  go_wp2_with fail
  refine (l8Op_any _ _ o l m _ R2 (by omega) hst).mono ?_
  rintro e w3 ⟨⟨x, rfl, hx⟩, R3, b3⟩
  have z3 := b3.size
  try simp only [World.size_alloc, World.size_setCell, World.size_drew] at z3
  have g3 := g2.trans (b3.mono (by first | omega | (simp; done) | (simp; omega)))
  clear b3 g2 
  obtain ⟨k, f, t, s, nm, d⟩ := x
  have hl := fmtOp_len k nm f t s d
  go_wp2_with fail
  refine (sFormatOp_any k f t s nm d _ (Nat.le_trans hx.1 (by omega)) (Nat.le_trans hx.2 (by omega))).mono ?_
  rintro e w4 ⟨rfl, hb4⟩
  have z4 := hb4.size
  have R4 := R3.keep hb4
  have g4 := g3.trans (below_toR (hb4.mono (by omega)) _)
  clear hb4 g3
  go_wp2_with fail
  refine (l3Bent_any _ _ _ _ R4 (by omega) (by omega)).mono ?_
  rintro e w5 ⟨⟨u, rfl, hu⟩, R5, b5⟩
  have z5 := b5.size
  try simp only [World.size_alloc, World.size_setCell, World.size_drew] at z5
  have g5 := g4.trans (b5.mono (by first | omega | (simp; done) | (simp; omega)))
  clear b5 g4 
  go_wp2
  go_ret
  exact ⟨⟨u, rfl, by omega⟩, g5.below (Nat.le_refl _)⟩
end Go.Proofs.YtkoefklgfkhmpaaDoor
