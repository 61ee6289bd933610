/- Walks: the draws of changed, dropped and repeated bytes. -/
import Derived.Test.YtgcjfddkgbigoaaE1
import Derived.Test.YtgcjfddkgbigoaaD7
namespace Go.Proofs.Ytgcjfddkgbigoaa
open Go.RowKit
set_option linter.unusedSimpArgs false
set_option linter.unusedVariables false
set_option maxRecDepth 100000
attribute [local go_sem high] run_index_S binOp_eql_S binOp_neq_S append_S toList_S size_S run_slice_S run_slice_from_S run_slice_to_S wrap64_byteAt wrap64_byteAt_mul bits_or_bytes convU conv1_some convU2 conv2_some
/-- A stream and two numbers. -/
def Dr3 (w : World) (e : Ending) (w' : World) : Prop := (∃ (l : Bs) (a v : Int), e = .returned (.tuple #[sv l, .int .i64 a, .int .i64 v]) ∧ l.length ≤ 22000 ∧ -9223372036854775808 ≤ a ∧ a ≤ 9223372036854775807 ∧ -9223372036854775808 ≤ v ∧ v ≤ 9223372036854775807) ∧ Below w.heap.size w w'
set_option maxHeartbeats 4000000 in
theorem drawChangeByte_any (bs : Bs) (A : Option Addr) (cap : Nat) (w : World) (hs : Sl w A bs.length cap 1 (bs.map u8v)) :
    Calls Try.prog 11 #[.slice A bs.length cap] w (Dr3 w) := by
  go_enter Try.func11, Try.ntmps11
  go_wp2_with fail
  refine (l9Open_any bs A cap _ hs).mono ?_
  rintro e w1 ⟨rfl, R1, hb1⟩
  have z1 := hb1.size
  have g1 : BelowR w.heap.size w.heap.size w w1 := below_toR hb1 _
  clear hb1 hs
  generalize hr0 : w.heap.size = r at *
  go_wp2_with fail
  refine (l5Some_any _ _ _ R1 (by omega)).mono ?_
  rintro e w2 ⟨⟨o, l, m, dict, d, n, rfl, hst, hdl, hd, hn0, hn1⟩, R2, b2⟩
  have z2 := b2.size
  try simp only [World.size_alloc, World.size_setCell, World.size_drew] at z2
  have g2 := g1.trans (b2.mono (by first | omega | (simp; done) | (simp; omega)))
  clear b2 g1 
  have hX : ((mkC o l m dict d n).getD []).length ≤ 22000 := by
    cases h : mkC o l m dict d n
    · simp
    · exact mkC_len h
  generalize (mkC o l m dict d n).getD [] = X at *
  go_wp2_with fail
  refine (pick_any _ _ (X.length + 1) _ (R2.alloc _) (by omega) (by omega) (by omega)).mono ?_
  rintro e w3 ⟨⟨a, rfl, ha0, ha1⟩, R3, b3⟩
  have z3 := b3.size
  try simp only [World.size_alloc, World.size_setCell, World.size_drew] at z3
  have g3 := (g2.alloc (by first | omega | (simp <;> omega)) _).trans (b3.mono (by first | omega | (simp; done) | (simp; omega)))
  clear b3 g2 
  go_wp2_with fail
  refine (pick_any _ _ 256 _ R3 (by omega) (by omega) (by omega)).mono ?_
  rintro e w4 ⟨⟨v, rfl, hv0, hv1⟩, R4, b4⟩
  have z4 := b4.size
  try simp only [World.size_alloc, World.size_setCell, World.size_drew] at z4
  have g4 := g3.trans (b4.mono (by first | omega | (simp; done) | (simp; omega)))
  clear b4 g3 
  go_wp2_with fail
  refine (pick_any _ _ 20 _ R4 (by omega) (by omega) (by omega)).mono ?_
  rintro e w5 ⟨⟨k, rfl, hk0, hk1⟩, R5, b5⟩
  have z5 := b5.size
  try simp only [World.size_alloc, World.size_setCell, World.size_drew] at z5
  have g5 := g4.trans (b5.mono (by first | omega | (simp; done) | (simp; omega)))
  clear b5 g4 
  by_cases h0 : k = 0
  · subst h0
    have s1 := Sl.list w5 [.int .i64 (-1), .int .i64 9223372036854775807, .int .i64 (-9223372036854775808)] 3 w5.heap.size 3 rfl rfl (by omega)
    go_wp2_with fail
    refine (num_any r _ [(-1), 9223372036854775807, (-9223372036854775808)] (some ⟨w5.heap.size, 0, none⟩) 3 _ (R5.alloc _) (by omega) s1 (by simp) (by simp) (by rintro g off ⟨⟩; omega)).mono ?_
    rintro e w6 ⟨⟨y, hy, rfl⟩, R6, b6⟩
    have z6 := b6.size
    try simp only [World.size_alloc, World.size_setCell, World.size_drew] at z6
    have g6 := (g5.alloc (by first | omega | (simp <;> omega)) _).trans (b6.mono (by first | omega | (simp; done) | (simp; omega)))
    clear b6 g5 
    have hy2 : -9223372036854775808 ≤ y ∧ y ≤ 9223372036854775807 := by simp at hy; omega
    clear s1 hy
    go_wp2
    go_ret3
    exact ⟨⟨X, y, v, rfl, by omega, hy2.1, hy2.2, by omega, by omega⟩, (by rw [hr0]; exact g6.below (Nat.le_refl _))⟩
  have hkb : (k == 0) = false := by rw [beq_eq_false_iff_ne]; exact h0
  by_cases h1 : k = 1
  · subst h1
    have s1 := Sl.list w5 [.int .i64 (-1), .int .i64 256] 3 w5.heap.size 2 rfl rfl (by omega)
    go_wp2_with fail
    refine (num_any r _ [(-1), 256] (some ⟨w5.heap.size, 0, none⟩) 2 _ (R5.alloc _) (by omega) s1 (by simp) (by simp) (by rintro g off ⟨⟩; omega)).mono ?_
    rintro e w6 ⟨⟨y, hy, rfl⟩, R6, b6⟩
    have z6 := b6.size
    try simp only [World.size_alloc, World.size_setCell, World.size_drew] at z6
    have g6 := (g5.alloc (by first | omega | (simp <;> omega)) _).trans (b6.mono (by first | omega | (simp; done) | (simp; omega)))
    clear b6 g5 
    have hy2 : -1 ≤ y ∧ y ≤ 256 := by simp at hy; omega
    clear s1 hy
    go_wp2
    go_ret3
    exact ⟨⟨X, a, y, rfl, by omega, by omega, by omega, by omega, by omega⟩, (by rw [hr0]; exact g6.below (Nat.le_refl _))⟩
  have hkb1 : (k == 1) = false := by rw [beq_eq_false_iff_ne]; exact h1
  go_wp2
  go_ret3
  exact ⟨⟨X, a, v, rfl, by omega, by omega, by omega, by omega, by omega⟩, (by rw [hr0]; exact g5.below (Nat.le_refl _))⟩
set_option maxHeartbeats 4000000 in
theorem drawDropBytes_any (bs : Bs) (A : Option Addr) (cap : Nat) (w : World) (hs : Sl w A bs.length cap 1 (bs.map u8v)) :
    Calls Try.prog 52 #[.slice A bs.length cap] w (Dr3 w) := by
  go_enter Try.func52, Try.ntmps52
  go_wp2_with fail
  refine (l9Open_any bs A cap _ hs).mono ?_
  rintro e w1 ⟨rfl, R1, hb1⟩
  have z1 := hb1.size
  have g1 : BelowR w.heap.size w.heap.size w w1 := below_toR hb1 _
  clear hb1 hs
  generalize hr0 : w.heap.size = r at *
  go_wp2_with fail
  refine (l5Some_any _ _ _ R1 (by omega)).mono ?_
  rintro e w2 ⟨⟨o, l, m, dict, d, n, rfl, hst, hdl, hd, hn0, hn1⟩, R2, b2⟩
  have z2 := b2.size
  try simp only [World.size_alloc, World.size_setCell, World.size_drew] at z2
  have g2 := g1.trans (b2.mono (by first | omega | (simp; done) | (simp; omega)))
  clear b2 g1 
  have hX : ((mkC o l m dict d n).getD []).length ≤ 22000 := by
    cases h : mkC o l m dict d n
    · simp
    · exact mkC_len h
  generalize (mkC o l m dict d n).getD [] = X at *
  go_wp2_with fail
  refine (pick_any _ _ (X.length + 1) _ (R2.alloc _) (by omega) (by omega) (by omega)).mono ?_
  rintro e w3 ⟨⟨a, rfl, ha0, ha1⟩, R3, b3⟩
  have z3 := b3.size
  try simp only [World.size_alloc, World.size_setCell, World.size_drew] at z3
  have g3 := (g2.alloc (by first | omega | (simp <;> omega)) _).trans (b3.mono (by first | omega | (simp; done) | (simp; omega)))
  clear b3 g2 
  go_wp2_with fail
  refine (pick_any _ _ (X.length - a + 1) _ R3 (by omega) (by omega) (by omega)).mono ?_
  rintro e w4 ⟨⟨v, rfl, hv0, hv1⟩, R4, b4⟩
  have z4 := b4.size
  try simp only [World.size_alloc, World.size_setCell, World.size_drew] at z4
  have g4 := g3.trans (b4.mono (by first | omega | (simp; done) | (simp; omega)))
  clear b4 g3 
  go_wp2_with fail
  refine (pick_any _ _ 20 _ R4 (by omega) (by omega) (by omega)).mono ?_
  rintro e w5 ⟨⟨k, rfl, hk0, hk1⟩, R5, b5⟩
  have z5 := b5.size
  try simp only [World.size_alloc, World.size_setCell, World.size_drew] at z5
  have g5 := g4.trans (b5.mono (by first | omega | (simp; done) | (simp; omega)))
  clear b5 g4 
  by_cases h0 : k = 0
  · subst h0
    have s1 := Sl.list w5 [.int .i64 (-1), .int .i64 9223372036854775807, .int .i64 (-9223372036854775808)] 3 w5.heap.size 3 rfl rfl (by omega)
    go_wp2_with fail
    refine (num_any r _ [(-1), 9223372036854775807, (-9223372036854775808)] (some ⟨w5.heap.size, 0, none⟩) 3 _ (R5.alloc _) (by omega) s1 (by simp) (by simp) (by rintro g off ⟨⟩; omega)).mono ?_
    rintro e w6 ⟨⟨y, hy, rfl⟩, R6, b6⟩
    have z6 := b6.size
    try simp only [World.size_alloc, World.size_setCell, World.size_drew] at z6
    have g6 := (g5.alloc (by first | omega | (simp <;> omega)) _).trans (b6.mono (by first | omega | (simp; done) | (simp; omega)))
    clear b6 g5 
    have hy2 : -9223372036854775808 ≤ y ∧ y ≤ 9223372036854775807 := by simp at hy; omega
    clear s1 hy
    go_wp2
    go_ret3
    exact ⟨⟨X, y, v, rfl, by omega, hy2.1, hy2.2, by omega, by omega⟩, (by rw [hr0]; exact g6.below (Nat.le_refl _))⟩
  have hkb : (k == 0) = false := by rw [beq_eq_false_iff_ne]; exact h0
  by_cases h1 : k = 1
  · subst h1
    have s1 := Sl.list w5 [.int .i64 (-1), .int .i64 (v + 400), .int .i64 9223372036854775807, .int .i64 (-9223372036854775808)] 3 w5.heap.size 4 rfl rfl (by omega)
    go_wp2_with fail
    refine (num_any r _ [(-1), v + 400, 9223372036854775807, (-9223372036854775808)] (some ⟨w5.heap.size, 0, none⟩) 4 _ (R5.alloc _) (by omega) s1 (by simp) (by simp) (by rintro g off ⟨⟩; omega)).mono ?_
    rintro e w6 ⟨⟨y, hy, rfl⟩, R6, b6⟩
    have z6 := b6.size
    try simp only [World.size_alloc, World.size_setCell, World.size_drew] at z6
    have g6 := (g5.alloc (by first | omega | (simp <;> omega)) _).trans (b6.mono (by first | omega | (simp; done) | (simp; omega)))
    clear b6 g5 
    have hy2 : -9223372036854775808 ≤ y ∧ y ≤ 9223372036854775807 := by simp at hy; omega
    clear s1 hy
    go_wp2
    go_ret3
    exact ⟨⟨X, a, y, rfl, by omega, by omega, by omega, hy2.1, hy2.2⟩, (by rw [hr0]; exact g6.below (Nat.le_refl _))⟩
  have hkb1 : (k == 1) = false := by rw [beq_eq_false_iff_ne]; exact h1
  by_cases h2 : k = 2
  · subst h2
    have s1 := Sl.list w5 [.int .i64 8000, .int .i64 8001] 3 w5.heap.size 2 rfl rfl (by omega)
    go_wp2_with fail
    refine (num_any r _ [8000, 8001] (some ⟨w5.heap.size, 0, none⟩) 2 _ (R5.alloc _) (by omega) s1 (by simp) (by simp) (by rintro g off ⟨⟩; omega)).mono ?_
    rintro e w6 ⟨⟨y, hy, rfl⟩, R6, b6⟩
    have z6 := b6.size
    try simp only [World.size_alloc, World.size_setCell, World.size_drew] at z6
    have g6 := (g5.alloc (by first | omega | (simp <;> omega)) _).trans (b6.mono (by first | omega | (simp; done) | (simp; omega)))
    clear b6 g5 
    have hy2 : 8000 ≤ y ∧ y ≤ 8001 := by simp at hy; omega
    have hml := rep_length [120] y.toNat
    clear s1 hy
    go_wp2_with (go_at_call 59; refine (l9Many_any [120] y _ (by simp; omega) (by simp) (by omega)).mono ?_; rintro e w' ⟨rfl, rfl⟩)
    go_ret3
    exact ⟨⟨rep [120] y.toNat, a, v, rfl, by rw [hml]; simp; omega, by omega, by omega, by omega, by omega⟩, (by rw [hr0]; exact g6.below (Nat.le_refl _))⟩
  have hkb2 : (k == 2) = false := by rw [beq_eq_false_iff_ne]; exact h2
  go_wp2
  go_ret3
  exact ⟨⟨X, a, v, rfl, by omega, by omega, by omega, by omega, by omega⟩, (by rw [hr0]; exact g5.below (Nat.le_refl _))⟩
theorem drawRepeatBytes_any (bs : Bs) (A : Option Addr) (cap : Nat) (w : World) (hs : Sl w A bs.length cap 1 (bs.map u8v)) :
    Calls Try.prog 14 #[.slice A bs.length cap] w (Dr3 w) := by
  go_enter Try.func14, Try.ntmps14
  go_wp2_with fail
  refine (drawDropBytes_any bs A cap _ hs).mono ?_
  rintro e w1 ⟨⟨l, a, v, rfl, h1, h2, h3, h4, h5⟩, hb1⟩
  go_wp2
  go_ret3
  exact ⟨⟨l, a, v, rfl, h1, h2, h3, h4, h5⟩, hb1⟩
end Go.Proofs.Ytgcjfddkgbigoaa
