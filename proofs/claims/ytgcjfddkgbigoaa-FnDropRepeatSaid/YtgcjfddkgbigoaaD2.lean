/- Walks: drawing settings, data and operations. -/
import Derived.Test.YtgcjfddkgbigoaaD1
import Derived.Test.YtgcjfddkgbigoaaAp
namespace Go.Proofs.Ytgcjfddkgbigoaa
open Go.RowKit
set_option linter.unusedSimpArgs false
set_option linter.unusedVariables false
set_option maxRecDepth 100000
attribute [local go_sem high] run_index_S binOp_eql_S binOp_neq_S append_S toList_S size_S run_slice_S run_slice_from_S run_slice_to_S wrap64_byteAt wrap64_byteAt_mul bits_or_bytes convU conv1_some convU2 conv2_some
theorem Bk.belowR {w w' : World} {B r g : Nat} {t : TypeId} {cs : Array Value} (h : Bk w g t cs) (hb : BelowR B r w w') (hg : g < B) (hne : g ≠ r) : Bk w' g t cs := (hb.block g hg hne).trans h
theorem Sl.list (w : World) (cs : List Value) (t : TypeId) (n k : Nat) (hn : n = w.heap.size) (hk : k = cs.length) (h : k ≤ 1000) : Sl (w.alloc (.cells cs.toArray t)) (some ⟨n, 0, none⟩) k k 1 cs := by
  subst hn hk
  have := Sl.new w cs.toArray t cs.length 1 (by simp) (by omega)
  simpa using this
set_option maxHeartbeats 2000000 in
theorem l1Some_any (r M : Nat) (w : World) (hR : Rd w r M) (hM : M ≤ 50000000) :
    Calls Try.prog 94 #[.pointer (some ⟨r, 0, none⟩)] w fun e w' => (∃ o l m : Int, e = .returned (.agg #[.int .i64 o, .int .i64 l, .int .i64 m]) ∧ stOk o l m) ∧ Rd w' r (M + 5) ∧ BelowR w.heap.size r w w' := by
  have hr := hR.lt
  have K0_0 := Bk.new w #[.int .i64 0, .int .i64 0, .int .i64 0] 69
  have R0 := hR.alloc (.cells #[.int .i64 0, .int .i64 0, .int .i64 0] 69)
  have s1 := Sl.list (w.alloc (.cells #[.int .i64 0, .int .i64 0, .int .i64 0] 69)) [.int .i64 2, .int .i64 3, .int .i64 2, .int .i64 1, .int .i64 8, .int .i64 5] 3 (w.heap.size + 1) 6 (by simp) rfl (by omega)
  have g0 : BelowR w.heap.size r w (w.alloc (.cells #[.int .i64 0, .int .i64 0, .int .i64 0] 69)) := below_toR (by repeat (first | (with_reducible exact Below.refl _ _) | (with_reducible assumption) | (with_reducible refine Below.drew ?_) | (with_reducible refine Below.alloc ?_ (by first | omega | (simp <;> omega)) _) | (with_reducible refine Below.setCell ?_ (by first | omega | (simp <;> omega)) _) | (with_reducible refine belowN ?_ _))) r
  go_enter Try.func94, Try.ntmps94
  go_wp2_with fail
  refine (num_any r M [2, 3, 2, 1, 8, 5] (some ⟨w.heap.size + 1, 0, none⟩) 6 _ (R0.alloc _) (by omega) s1 (by simp) (by simp) (by rintro g off ⟨⟩; omega)).mono ?_
  rintro e w1 ⟨⟨l, hl, rfl⟩, R1, b1⟩
  have z1 := b1.size
  try simp only [World.size_alloc, World.size_setCell, World.size_drew] at z1
  have K0_1 := (K0_0.alloc _).belowR b1 (by first | omega | (simp; done) | (simp; omega)) (by omega)
  have g1 := (g0.alloc (by first | omega | (simp <;> omega)) _).trans (b1.mono (by first | omega | (simp; done) | (simp; omega)))
  clear b1 g0 K0_0
  have hl12 : 1 ≤ l ∧ l ≤ 8 := by
    simp at hl
    omega
  obtain ⟨hl1, hl2⟩ := hl12
  clear s1 R0 hl
  go_wp2_with fail
  refine (pick_any r _ _ _ R1 (by omega) (by omega) (by omega)).mono ?_
  rintro e w2 ⟨⟨v, rfl, hv0, hv1⟩, R2, b2⟩
  have z2 := b2.size
  try simp only [World.size_alloc, World.size_setCell, World.size_drew] at z2
  have K0_2 := K0_1.belowR b2 (by first | omega | (simp; done) | (simp; omega)) (by omega)
  have g2 := g1.trans (b2.mono (by first | omega | (simp; done) | (simp; omega)))
  clear b2 g1 K0_1
  have hv2 : v ≤ 8 - l := by omega
  clear hv1
  go_wp2_with fail
  refine (pick_any r _ 2 _ R2 (by omega) (by omega) (by omega)).mono ?_
  rintro e w3 ⟨⟨u, rfl, hu0, hu1⟩, R3, b3⟩
  have z3 := b3.size
  try simp only [World.size_alloc, World.size_setCell, World.size_drew] at z3
  have K0_3 := K0_2.belowR b3 (by first | omega | (simp; done) | (simp; omega)) (by omega)
  have g3 := g2.trans (b3.mono (by first | omega | (simp; done) | (simp; omega)))
  clear b3 g2 K0_2
  have hu2 : u ≤ 1 := by omega
  clear hu1
  by_cases hu : u = 0
  · subst hu
    go_wp2_with fail
    refine (pick_any r _ 2 _ R3 (by omega) (by omega) (by omega)).mono ?_
    rintro e w4 ⟨⟨x, rfl, hx0, hx1⟩, R4, b4⟩
    have z4 := b4.size
    try simp only [World.size_alloc, World.size_setCell, World.size_drew] at z4
    have K0_4 := K0_3.belowR b4 (by first | omega | (simp; done) | (simp; omega)) (by omega)
    have g4 := g3.trans (b4.mono (by first | omega | (simp; done) | (simp; omega)))
    clear b4 g3 K0_3
    have hx2 : x ≤ 1 := by omega
    clear hx1
    by_cases hmm : l + 2 + x ≤ 10
    · skip
      go_wp2_with fail
      refine (pick_any r _ 2 _ R4 (by omega) (by omega) (by omega)).mono ?_
      rintro e w5 ⟨⟨y, rfl, hy0, hy1⟩, R5, b5⟩
      have z5 := b5.size
      try simp only [World.size_alloc, World.size_setCell, World.size_drew] at z5
      have K0_5 := K0_4.belowR b5 (by first | omega | (simp; done) | (simp; omega)) (by omega)
      have g5 := g4.trans (b5.mono (by first | omega | (simp; done) | (simp; omega)))
      clear b5 g4 K0_4
      have hy2 : y ≤ 1 := by omega
      have X5 := K0_5.cell
      have F5 := K0_5.free
      have L5 : w.heap.size ≤ w5.heap.size := by omega
      clear hy1
      go_wp2
      exact bodyPost_ret (v := .agg #[.int .i64 y, .int .i64 l, .int .i64 (l + 2 + x)]) (by simp [results, Try.results94, go_sem, X5]) rfl ⟨⟨y, l, (l + 2 + x), rfl, by unfold stOk; omega⟩, (by (repeat (first | (with_reducible assumption) | (with_reducible refine Rd.drew ?_) | (with_reducible refine Rd.drewN ?_ _) | (with_reducible refine Rd.alloc ?_ _) | ((with_reducible refine Rd.far ?_ ?_ _); rotate_left; focus (first | omega | (simp <;> omega))))); done), (by (repeat (first | (with_reducible exact BelowR.refl _ _ _) | (with_reducible assumption) | (with_reducible refine BelowR.drew ?_) | (with_reducible refine BelowR.drewN ?_ _) | ((with_reducible refine BelowR.alloc ?_ ?_ _); rotate_left; focus (first | omega | (simp <;> omega))) | ((with_reducible refine BelowR.setCell ?_ ?_ _); rotate_left; focus (first | (left; rfl) | (right; first | omega | (simp <;> omega)))))); done)⟩
    · skip
      go_wp2_with fail
      refine (pick_any r _ 2 _ R4 (by omega) (by omega) (by omega)).mono ?_
      rintro e w5 ⟨⟨y, rfl, hy0, hy1⟩, R5, b5⟩
      have z5 := b5.size
      try simp only [World.size_alloc, World.size_setCell, World.size_drew] at z5
      have K0_5 := K0_4.belowR b5 (by first | omega | (simp; done) | (simp; omega)) (by omega)
      have g5 := g4.trans (b5.mono (by first | omega | (simp; done) | (simp; omega)))
      clear b5 g4 K0_4
      have hy2 : y ≤ 1 := by omega
      have X5 := K0_5.cell
      have F5 := K0_5.free
      have L5 : w.heap.size ≤ w5.heap.size := by omega
      clear hy1
      go_wp2
      exact bodyPost_ret (v := .agg #[.int .i64 y, .int .i64 l, .int .i64 10]) (by simp [results, Try.results94, go_sem, X5]) rfl ⟨⟨y, l, 10, rfl, by unfold stOk; omega⟩, (by (repeat (first | (with_reducible assumption) | (with_reducible refine Rd.drew ?_) | (with_reducible refine Rd.drewN ?_ _) | (with_reducible refine Rd.alloc ?_ _) | ((with_reducible refine Rd.far ?_ ?_ _); rotate_left; focus (first | omega | (simp <;> omega))))); done), (by (repeat (first | (with_reducible exact BelowR.refl _ _ _) | (with_reducible assumption) | (with_reducible refine BelowR.drew ?_) | (with_reducible refine BelowR.drewN ?_ _) | ((with_reducible refine BelowR.alloc ?_ ?_ _); rotate_left; focus (first | omega | (simp <;> omega))) | ((with_reducible refine BelowR.setCell ?_ ?_ _); rotate_left; focus (first | (left; rfl) | (right; first | omega | (simp <;> omega)))))); done)⟩
  · skip
    go_wp2_with fail
    refine (pick_any r _ 2 _ R3 (by omega) (by omega) (by omega)).mono ?_
    rintro e w4 ⟨⟨y, rfl, hy0, hy1⟩, R4, b4⟩
    have z4 := b4.size
    try simp only [World.size_alloc, World.size_setCell, World.size_drew] at z4
    have K0_4 := K0_3.belowR b4 (by first | omega | (simp; done) | (simp; omega)) (by omega)
    have g4 := g3.trans (b4.mono (by first | omega | (simp; done) | (simp; omega)))
    clear b4 g3 K0_3
    have hy2 : y ≤ 1 := by omega
    have X5 := K0_4.cell
    have F5 := K0_4.free
    have L5 : w.heap.size ≤ w4.heap.size := by omega
    replace R4 := R4.mono (show M + 1 + 1 + 1 + 1 ≤ M + 5 by omega)
    clear hy1
    go_wp2
    exact bodyPost_ret (v := .agg #[.int .i64 y, .int .i64 l, .int .i64 (l + 2 + v)]) (by simp [results, Try.results94, go_sem, X5]) rfl ⟨⟨y, l, l + 2 + v, rfl, by unfold stOk; omega⟩, (by (repeat (first | (with_reducible assumption) | (with_reducible refine Rd.drew ?_) | (with_reducible refine Rd.drewN ?_ _) | (with_reducible refine Rd.alloc ?_ _) | ((with_reducible refine Rd.far ?_ ?_ _); rotate_left; focus (first | omega | (simp <;> omega))))); done), (by (repeat (first | (with_reducible exact BelowR.refl _ _ _) | (with_reducible assumption) | (with_reducible refine BelowR.drew ?_) | (with_reducible refine BelowR.drewN ?_ _) | ((with_reducible refine BelowR.alloc ?_ ?_ _); rotate_left; focus (first | omega | (simp <;> omega))) | ((with_reducible refine BelowR.setCell ?_ ?_ _); rotate_left; focus (first | (left; rfl) | (right; first | omega | (simp <;> omega)))))); done)⟩
theorem snoc_own {w : World} {B : Nat} {v : Value} {out : Bs} {x : Int} (h : w.ownsRow B 5 1 v (out.length + 1) (out.map u8v ++ [.int .u8 x])) (h0 : 0 ≤ x) (h1 : x ≤ 255) : w.ownsRow B 5 1 v (out ++ [UInt8.ofNat x.toNat]).length ((out ++ [UInt8.ofNat x.toNat]).map u8v) := by
  have e : u8v (UInt8.ofNat x.toNat) = .int .u8 x := by
    show Value.int .u8 _ = _
    rw [UInt8.toNat_ofNat']
    congr 1; omega
  rw [List.map_append, List.length_append]
  simp only [List.map_cons, List.map_nil, e]
  exact h
/-- Behind an append of new cells: a source, and what lies below. -/
theorem appR {B r : Nat} {w W w3 : World} {o : Obj} {row : Option Nat} (hB : BelowR B r w W) (hg : (W.alloc o).grownBy w3 row) (hs : B ≤ W.heap.size) (hr : ∀ k, row = some k → B ≤ k) : BelowR B r w w3 :=
  (hB.alloc hs o).grown hg (by simp; omega) hr
theorem Rd.app {r M : Nat} {W w3 : World} {o : Obj} {row : Option Nat} (h : Rd W r M) (hg : (W.alloc o).grownBy w3 row) (hr : ∀ k, row = some k → r < k) : Rd w3 r M := by
  have hlt := h.lt
  obtain ⟨A, n, cap, bs, P, h1, h2, h3, h4, h5, h6, h7⟩ := h.alloc o
  refine ⟨A, n, cap, bs, P, (hg.block r (by simp; omega) (fun e => by have := hr r e.symm; omega)).trans h1, h2, h3, h4, h5, h6, fun hn => ?_⟩
  obtain ⟨g, off, hA, hgr, hc⟩ := h7 hn
  exact ⟨g, off, hA, hgr, fun j hj => (World.cell?_of_block (a := ⟨g, off + j, none⟩) (hg.block g (by simp; omega) (fun e => by have := hr g e.symm; omega))).trans (hc j hj)⟩
theorem Rd.grown {r M : Nat} {w w3 : World} {row : Option Nat} (h : Rd w r M) (hg : w.grownBy w3 row) (hr : ∀ k, row = some k → r < k) : Rd w3 r M := by
  have hlt := h.lt
  obtain ⟨A, n, cap, bs, P, h1, h2, h3, h4, h5, h6, h7⟩ := h
  refine ⟨A, n, cap, bs, P, (hg.block r hlt (fun e => by have := hr r e.symm; omega)).trans h1, h2, h3, h4, h5, h6, fun hn => ?_⟩
  obtain ⟨g, off, hA, hgr, hc⟩ := h7 hn
  exact ⟨g, off, hA, hgr, fun j hj => (World.cell?_of_block (a := ⟨g, off + j, none⟩) (hg.block g (by omega) (fun e => by have := hr g e.symm; omega))).trans (hc j hj)⟩
set_option maxHeartbeats 2000000 in
theorem l1Bytes_any (r M most : Nat) (w : World) (hR : Rd w r M) (hM : M ≤ 50000000) (hmost : most ≤ 10000) :
    Calls Try.prog 87 #[.pointer (some ⟨r, 0, none⟩), .int .i64 (most : Int)] w fun e w' => (∃ d : Bs, e = .returned (sv d) ∧ d.length ≤ most) ∧ Rd w' r (M + 1 + most) ∧ BelowR w.heap.size r w w' := by
  have hr := hR.lt
  obtain ⟨i, hi, hz0, hz1, hz2⟩ := info_parts info_u8
  go_enter Try.func87, Try.ntmps87
  go_wp2_with (at_make; go_must (refine wpList_make_own _ rfl _ _ 22 rfl w.heap.size 5 i (.int .u8 0) 1 Try.underlying22 hi hz0 hz1 _ _ _ most rfl rfl (by omega) (by rw [hz2]; omega) (by unfold maxLen; omega) (by first | omega | (simp; done)) ?_); intro w1 O0_1 hg1)
  have g1 : BelowR w.heap.size r w w1 := below_toR ((Below.refl _ _).grown hg1 (Nat.le_refl _) (by simp)) r
  have R1 : Rd w1 r M := hR.grown hg1 (by simp)
  have z1 := g1.size
  clear hg1
  go_wp2_with fail
  refine (pick_any r _ _ _ R1 (by omega) (by omega) (by omega)).mono ?_
  rintro e w2 ⟨⟨n0, rfl, hn0, hn1⟩, R2, b2⟩
  have z2 := b2.size
  try simp only [World.size_alloc, World.size_setCell, World.size_drew] at z2
  have O0_2 := ownsR_keep O0_1 b2 (by omega)
  have g2 := g1.trans (b2.mono (by first | omega | (simp; done) | (simp; omega)))
  clear b2 g1 O0_1
  obtain ⟨n, rfl⟩ := Int.eq_ofNat_of_zero_le hn0
  have hnm : n ≤ most := by omega
  clear hn0 hn1
  go_wp2
  go_loopw [5, 6] (fun v a wr => ∃ (k c : Nat) (out : Bs), a = .int .i64 (k : Int) ∧ c + k = n ∧ out.length = c ∧ wr.ownsRow w.heap.size 5 1 v out.length (out.map u8v) ∧ Rd wr r (M + 1 + c) ∧ BelowR w.heap.size r w wr) (fun _ a _ => (intOf a).toNat)
  case atStart => exact ⟨n, 0, [], rfl, by omega, rfl, O0_2, R2, g2⟩
  case round =>
    obtain ⟨k, c, out, rfl, hck, hol, O0_2, R2, g2⟩ := hrel
    have HOL : Go.RowKit.Hid (out.length = c) := hol
    have hol2 : out.length ≤ most := by omega
    have z2 := g2.size
    clear hol
    by_cases hk : 0 < k
    · have hki : (0 : Int) < k := by omega
      go_wp2_with fail
      refine (pick_any r _ 256 _ R2 (by omega) (by omega) (by omega)).mono ?_
      rintro e w3 ⟨⟨x, rfl, hx0, hx1⟩, R3, b3⟩
      have z3 := b3.size
      try simp only [World.size_alloc, World.size_setCell, World.size_drew] at z3
      have O0_3 := ownsR_keep O0_2 b3 (by omega)
      have g3 := g2.trans (b3.mono (by first | omega | (simp; done) | (simp; omega)))
      clear b3 g2 O0_2
      have hx2 : x ≤ 255 := by omega
      clear hx1
      have hm1 : out.length + 1 ≤ maxLen := by unfold maxLen; omega
      have hm2 : (out.length + 1) * 1 ≤ 140737488355328 := by omega
      have hlt := O0_3.lt
      go_wp2_with (at_builtin; go_must (refine wpList_append_own _ rfl _ _ 22 rfl (w.heap.size) 5 i _ 1 1 Try.underlying22 hi hz0 hz1 hz2 rfl (by omega) _ _ _ rfl (O0_3.alloc _) ⟨w3.heap.size, 0, none⟩ 1 1 [.int .u8 x] rfl rfl ?_ ?_ hm1 hm2 ?_ ?_))
      try (case refine_1 => first | exact cell_one_new _ _ _ | omega | (simp <;> omega; done) | (simp [Value.oneCell']; done))
      try (case refine_2 => first | exact cell_one_new _ _ _ | omega | (simp <;> omega; done) | (simp [Value.oneCell']; done))
      try (case refine_3 => first | exact cell_one_new _ _ _ | omega | (simp <;> omega; done) | (simp [Value.oneCell']; done))
      intro v4 w4 O0_4 hg4 _
      have g4 := appR g3 hg4 (by omega) (fun q hq => (hlt q hq).1)
      have R4 := R3.app hg4 (fun q hq => by have := (hlt q hq).1; omega)
      go_wp2
      go_roundw
      case rel => exact ⟨k - 1, c + 1, out ++ [UInt8.ofNat x.toNat], by go_num, by omega, by have := HOL.out; simp; omega, snoc_own O0_4 hx0 hx2, R4, g4⟩
      case measure => simp [intOf]; omega
    · have hcv := conv_own O0_2
      have hki : ¬ (0 : Int) < k := by omega
      go_wp2
      go_ret
      exact ⟨⟨out, rfl, hol2⟩, R2.mono (by omega), g2⟩
end Go.Proofs.Ytgcjfddkgbigoaa
