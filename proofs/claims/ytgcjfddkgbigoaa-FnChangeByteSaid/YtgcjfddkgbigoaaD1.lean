/- Walks: the drawing functions. -/
import Derived.Test.YtgcjfddkgbigoaaRd
namespace Go.Proofs.Ytgcjfddkgbigoaa
open Go.RowKit
set_option linter.unusedVariables false
set_option maxRecDepth 100000
attribute [local go_sem high] run_index_S binOp_eql_S binOp_neq_S append_S toList_S size_S run_slice_S run_slice_from_S run_slice_to_S wrap64_byteAt wrap64_byteAt_mul bits_or_bytes convU conv1_some convU2 conv2_some
theorem xor_bd (x : Int) (h0 : 0 ≤ x) (h1 : x < 4611686018427387904) : ∃ y : Int, bits .xor .i64 x (x / 64) = y ∧ 0 ≤ y ∧ y < 9223372036854775808 := by
  obtain ⟨a, rfl⟩ := Int.eq_ofNat_of_zero_le h0
  have e : ((a : Int) / 64) = ((a / 64 : Nat) : Int) := by omega
  rw [e]
  have ofI : ∀ a : Nat, a < 9223372036854775808 → (BitVec.ofInt 64 (a : Int)).toNat = a := fun a ha => by
    rw [BitVec.ofInt_natCast, BitVec.toNat_ofNat]; exact Nat.mod_eq_of_lt (by omega)
  have hx : a ^^^ (a / 64) < 2 ^ 63 := Nat.xor_lt_two_pow (by omega) (by omega)
  have key : bits .xor .i64 (a : Int) ((a / 64 : Nat) : Int) = ((a ^^^ (a / 64) : Nat) : Int) := by
    show IntKind.i64.wrap ((BitVec.ofInt 64 (a : Int) ^^^ BitVec.ofInt 64 ((a / 64 : Nat) : Int)).toNat : Int) = _
    rw [BitVec.toNat_xor, ofI a (by omega), ofI (a / 64) (by omega), IntKind.wrap_i64]
    omega
  exact ⟨_, key, by omega, by omega⟩
theorem tmod_bd (b n : Int) (h0 : 0 ≤ b) (h1 : 1 ≤ n) : 0 ≤ b % n ∧ b % n < n := by
  exact ⟨Int.emod_nonneg b (by omega), Int.emod_lt_of_pos b (by omega)⟩
/-- A number of a range, and the source turned. -/
def PickRes (r M : Nat) (lo hi : Int) (w : World) (e : Ending) (w' : World) : Prop := (∃ v : Int, e = .returned (.int .i64 v) ∧ lo ≤ v ∧ v ≤ hi) ∧ Rd w' r M ∧ BelowR w.heap.size r w w'
set_option maxHeartbeats 2000000 in
theorem pick_any (r M : Nat) (n : Int) (w : World) (hR : Rd w r M) (hM : M ≤ 100000000) (hn0 : -9223372036854775808 ≤ n) (hn : n ≤ 9223372036854775807) :
    Calls Try.prog 47 #[.pointer (some ⟨r, 0, none⟩), .int .i64 n] w (PickRes r (M + 1) 0 (max 0 (n - 1)) w) := by
  obtain ⟨A, ln, cap, bs, P, hK, hln, hl2, hcap, hcap2, hPM, hrd⟩ := hR
  have hr := Bk.lt (t := 103) (cs := #[.slice A ln cap, .int .i64 (P : Int)]) hK
  have hK' : Bk (w.setCell ⟨r, 1, none⟩ (.int .i64 ((P : Int) + 1))) r 103 #[.slice A ln cap, .int .i64 ((P : Int) + 1)] := Bk.set (t := 103) (cs := #[.slice A ln cap, .int .i64 (P : Int)]) hK 1 _
  have hX := Bk.cell (t := 103) (cs := #[.slice A ln cap, .int .i64 (P : Int)]) hK
  have hF := Bk.free (t := 103) (cs := #[.slice A ln cap, .int .i64 (P : Int)]) hK
  have hB : BelowR w.heap.size r w (w.setCell ⟨r, 1, none⟩ (.int .i64 ((P : Int) + 1))) := (BelowR.refl w.heap.size r w).setCell (p := ⟨r, 1, none⟩) (.inl rfl) _
  have hrd' : 0 < ln → ∃ g off, A = some ⟨g, off, none⟩ ∧ g < r ∧ ∀ (j : Nat) (hj : j < bs.length), (w.setCell ⟨r, 1, none⟩ (.int .i64 ((P : Int) + 1))).cell? ⟨g, off + j, none⟩ = some (u8v bs[j]) := by
    intro h0
    obtain ⟨g, off, hA, hg, hc⟩ := hrd h0
    exact ⟨g, off, hA, hg, fun j hj => (hB.cell (p := ⟨g, off + j, none⟩) (by show g < _; omega) (by show g ≠ r; omega)).trans (hc j hj)⟩
  have hR' : Rd (w.setCell ⟨r, 1, none⟩ (.int .i64 ((P : Int) + 1))) r (M + 1) := ⟨A, ln, cap, bs, P + 1, by have := hK'; unfold Bk at this; rw [this]; simp, hln, hl2, hcap, hcap2, by omega, hrd'⟩
  have hX' := hK'.cell
  have hF' := hK'.free
  have hres : ∀ x, Rd x r (M + 1) → BelowR w.heap.size r w x → ∀ v : Int, 0 ≤ v → v ≤ max 0 (n - 1) → PickRes r (M + 1) 0 (max 0 (n - 1)) w (.returned (.int .i64 v)) x := fun x h1 h2 v h3 h4 => ⟨⟨v, rfl, h3, h4⟩, h1, h2⟩
  clear hK hrd
  by_cases hn1 : n < 1
  · go_enter Try.func47, Try.ntmps47
    go_wp2
    go_ret
    exact hres _ hR' hB 0 (Int.le_refl _) (by omega)
  by_cases hl0 : ln = 0
  · subst hl0
    have hl0' : ((0 : Nat) : Int) = 0 := rfl
    go_enter Try.func47, Try.ntmps47
    go_wp2
    go_ret
    exact hres _ hR' hB 0 (Int.le_refl _) (by omega)
  have hlp : 0 < ln := by omega
  have hlb : ((ln : Int) == 0) = false := by rw [beq_eq_false_iff_ne]; omega
  obtain ⟨g, off, rfl, hg, hc⟩ := hrd' hlp
  have hn2 : 1 ≤ n := by omega
  have hmax : max 0 (n - 1) = n - 1 := by omega
  have hu8 : ∀ j, j < bs.length → ∃ b : Int, 0 ≤ b ∧ b ≤ 255 ∧ (w.setCell ⟨r, 1, none⟩ (.int .i64 ((P : Int) + 1))).cell? ⟨g, off + j, none⟩ = some (.int .u8 b) := fun j hj => ⟨(bs[j].toNat : Int), by omega, by have := bs[j].toNat_lt; omega, hc j hj⟩
  rw [hmax] at hres ⊢
  by_cases hPl : P < ln
  · obtain ⟨b, hb1, hb2, hcP⟩ := hu8 P (by omega)
    have hq := tmod_bd b n hb1 hn2
    obtain ⟨hq0, hq1⟩ := hq
    have hPi : (P : Int) < ln := by omega
    clear hc hrd' hK' hu8
    go_enter Try.func47, Try.ntmps47
    go_wp2
    go_ret
    exact hres _ hR' hB _ hq0 (by omega)
  · obtain ⟨q1, hq1, hq1l⟩ : ∃ q : Nat, (P : Int) % ln = q ∧ q < ln := ⟨P % ln, by simp, Nat.mod_lt _ hlp⟩
    obtain ⟨q2, hq2, hq2l⟩ : ∃ q : Nat, ((P : Int) * 7 + 3) % ln = q ∧ q < ln := ⟨(P * 7 + 3) % ln, by simp, Nat.mod_lt _ hlp⟩
    obtain ⟨b1, hb1, hb2, hc1⟩ := hu8 q1 (by omega)
    obtain ⟨b2, hb3, hb4, hc2⟩ := hu8 q2 (by omega)
    obtain ⟨q3, hq3, hq3l⟩ : ∃ q : Nat, (P : Int) / ln = q ∧ q ≤ P := ⟨P / ln, by simp, Nat.div_le_self _ _⟩
    have hPi : ¬ (P : Int) < ln := by omega
    have hq1i : (q1 : Int) < ln := by omega
    have hq2i : (q2 : Int) < ln := by omega
    clear hc hrd' hK' hu8
    go_enter Try.func47, Try.ntmps47
    go_wp2
    go_quiet (fail)
    have hX0 : 0 ≤ b1 * 131 + b2 * 1117 + (P : Int) * 29 + (q3 : Int) * 53 := by omega
    have hX1 : b1 * 131 + b2 * 1117 + (P : Int) * 29 + (q3 : Int) * 53 < 4611686018427387904 := by omega
    generalize b1 * 131 + b2 * 1117 + (P : Int) * 29 + (q3 : Int) * 53 = X at *
    obtain ⟨y, hy, hy0, hy1⟩ := xor_bd X hX0 hX1
    have hq := tmod_bd y n hy0 hn2
    obtain ⟨hq0, hq1⟩ := hq
    go_wp2
    go_ret
    exact hres _ (hR'.drewN _) (hB.drewN _) _ hq0 (by omega)
theorem num_any (r M : Nat) (ls : List Int) (A : Option Addr) (cap : Nat) (w : World) (hR : Rd w r M) (hM : M ≤ 100000000) (hs : Sl w A ls.length cap 1 (ls.map (Value.int .i64))) (h0 : 0 < ls.length) (hl : ls.length ≤ 1000) (hA : ∀ g off, A = some ⟨g, off, none⟩ → g ≠ r) :
    Calls Try.prog 48 #[.pointer (some ⟨r, 0, none⟩), .slice A ls.length cap] w fun e w' => (∃ v ∈ ls, e = .returned (.int .i64 v)) ∧ Rd w' r (M + 1) ∧ BelowR w.heap.size r w w' := by
  go_enter Try.func48, Try.ntmps48
  go_wp2_with fail
  refine (pick_any r M ls.length w hR hM (by omega) (by omega)).mono ?_
  rintro e w' ⟨⟨v, rfl, hv0, hv1⟩, hR', hB⟩
  obtain ⟨k, rfl⟩ := Int.eq_ofNat_of_zero_le hv0
  have hk : k < ls.length := by omega
  obtain ⟨g, off, u, rfl, hg, hu, hc⟩ := Sl.at1 hs hk
  have hc' := (hB.cell (p := ⟨g, off + k, none⟩) hg (hA g off rfl)).trans hc
  rw [List.getElem?_map, List.getElem?_eq_getElem hk] at hu
  simp at hu
  subst hu
  have hki : (k : Int) < ls.length := by omega
  go_wp2
  go_ret
  exact ⟨⟨_, List.getElem_mem hk, rfl⟩, hR', hB⟩
theorem l9Open_any (bs : Bs) (A : Option Addr) (cap : Nat) (w : World) (hs : Sl w A bs.length cap 1 (bs.map u8v)) :
    Calls Try.prog 45 #[.slice A bs.length cap] w fun e w' => e = .returned (.pointer (some ⟨w.heap.size, 0, none⟩)) ∧ Rd w' w.heap.size 0 ∧ Below w.heap.size w w' := by
  obtain ⟨h1, h2, h3, h4⟩ := hs
  have key : ∀ (n : Nat), n ≤ bs.length → n ≤ 2000 → Rd (w.alloc (.cells #[.slice A n cap, .int .i64 0] 103)) w.heap.size 0 := by
    intro n hn hn2
    refine ⟨A, n, cap, bs.take n, 0, heap_alloc_new w _, by simp; omega, hn2, by omega, h2, Nat.le_refl _, fun h0 => ?_⟩
    obtain ⟨g, off, rfl, hg, hc⟩ := h4 (by omega)
    refine ⟨g, off, rfl, hg, fun j hj => ?_⟩
    rw [List.length_take] at hj
    rw [World.cell?_alloc_lt _ _ _ hg, hc j (u8v bs[j]) (by simp [List.getElem?_map, List.getElem?_eq_getElem (show j < bs.length by omega)])]
    rw [List.getElem_take]
  have K := Go.Lib.hid key
  clear key h4
  by_cases hl : bs.length ≤ 2000
  · have hli : ¬ (2000 : Int) < bs.length := by omega
    go_enter Try.func45, Try.ntmps45
    go_wp2
    go_ret
    exact ⟨rfl, K.out bs.length (Nat.le_refl _) hl, (by repeat (first | (with_reducible exact Below.refl _ _) | (with_reducible assumption) | (with_reducible refine Below.drew ?_) | (with_reducible refine Below.alloc ?_ (by first | omega | (simp <;> omega)) _) | (with_reducible refine Below.setCell ?_ (by first | omega | (simp <;> omega)) _) | (with_reducible refine belowN ?_ _)))⟩
  · have hli : (2000 : Int) < bs.length := by omega
    have hci : (2000 : Int) ≤ cap := by omega
    go_enter Try.func45, Try.ntmps45
    go_wp2
    go_ret
    exact ⟨rfl, K.out 2000 (by omega) (by omega), (by repeat (first | (with_reducible exact Below.refl _ _) | (with_reducible assumption) | (with_reducible refine Below.drew ?_) | (with_reducible refine Below.alloc ?_ (by first | omega | (simp <;> omega)) _) | (with_reducible refine Below.setCell ?_ (by first | omega | (simp <;> omega)) _) | (with_reducible refine belowN ?_ _)))⟩
end Go.Proofs.Ytgcjfddkgbigoaa
