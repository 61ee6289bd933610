import Derived.Test.YtfonokhafdflcaaGreatGD1
import Derived.Test.YtfonokhafdflcaaGreatGS4
import Derived.Test.YtfonokhafdflcaaGreatGP1
import Derived.Test.YtfonokhafdflcaaGreatGW
/- Walks: drawing a setting, a dictionary and a container. -/
namespace Go.Proofs.YtfonokhafdflcaaGreat
open Go.RowKit
set_option linter.unusedSimpArgs false
set_option linter.unusedVariables false
set_option maxRecDepth 100000
attribute [local go_sem high] run_index_S binOp_eql_S binOp_neq_S append_S toList_S size_S run_slice_S run_slice_from_S run_slice_to_S wrap64_byteAt wrap64_byteAt_mul bits_or_bytes convU conv1_some convU2 conv2_some
theorem sv_ext_from (p : Bs) (n : Nat) : (ByteArray.mk p.toArray).extract n p.length = ⟨(p.drop n).toArray⟩ := by
  apply ByteArray.ext
  simp [ByteArray.data_extract]
  rw [List.take_of_length_le (by simp)]
theorem wrapI (x : Int) (h0 : -1000000000 ≤ x) (h1 : x ≤ 1000000000) : IntKind.i64.wrap x = x := by rw [IntWalk.i64_left, IntWalk.wrap64_in _ ⟨by omega, by omega⟩]
set_option maxHeartbeats 2000000 in
theorem l4Dict_any (r M : Nat) (so sl sm : Int) (d : Bs) (w : World) (hR : Rd w r M) (hM : M ≤ 40000000) (hd : d.length ≤ 1000) (hst : stOk so sl sm) :
    Calls Tryz.prog 47 #[.pointer (some ⟨r, 0, none⟩), .agg #[.int .i64 so, .int .i64 sl, .int .i64 sm], sv d] w fun e w' => (∃ x : Bs, e = .returned (sv x) ∧ x.length ≤ d.length + 20) ∧ Rd w' r (M + 66) ∧ BelowR w.heap.size r w w' := by
  have hr := hR.lt
  have K0_0 := Bk.new w #[.int .i64 so, .int .i64 sl, .int .i64 sm] 24
  have R0 := hR.alloc (.cells #[.int .i64 so, .int .i64 sl, .int .i64 sm] 24)
  have g0 : BelowR w.heap.size r w (w.alloc (.cells #[.int .i64 so, .int .i64 sl, .int .i64 sm] 24)) := below_toR (by repeat (first | (with_reducible exact Below.refl _ _) | (with_reducible assumption) | (with_reducible refine Below.drew ?_) | (with_reducible refine Below.alloc ?_ (by first | omega | (simp <;> omega)) _) | (with_reducible refine Below.setCell ?_ (by first | omega | (simp <;> omega)) _) | (with_reducible refine belowN ?_ _))) r
  go_enter Tryz.func47, Tryz.ntmps47
  go_wp2_with fail
  refine (pick_any r M 4 _ R0 (by omega) (by omega) (by omega)).mono ?_
  rintro e w1 ⟨⟨v, rfl, hv0, hv1⟩, R1, b1⟩
  have z1 := b1.size
  try simp only [World.size_alloc, World.size_setCell, World.size_drew] at z1
  have K0_1 := K0_0.belowR b1 (by first | omega | (simp; done) | (simp; omega)) (by omega)
  have g1 := g0.trans (b1.mono (by first | omega | (simp; done) | (simp; omega)))
  clear b1 g0 K0_0
  have X0 := K0_1.cell
  by_cases hv : v = 0
  · subst hv
    go_wp2
    go_ret
    exact ⟨⟨[], rfl, by simp⟩, R1.mono (by omega), g1⟩
  have hvb : (v == 0) = false := by rw [beq_eq_false_iff_ne]; exact hv
  by_cases hv2 : v = 1 ∧ 0 < d.length
  · obtain ⟨hv2, hpos⟩ := hv2
    subst hv2
    have hpos' : (0 : Int) < d.length := by omega
    go_wp2_with fail
    refine (pick_any r _ (d.length : Int) _ R1 (by omega) (by omega) (by omega)).mono ?_
    rintro e w2 ⟨⟨k, rfl, hk0, hk1⟩, R2, b2⟩
    have z2 := b2.size
    try simp only [World.size_alloc, World.size_setCell, World.size_drew] at z2
    have K0_2 := K0_1.belowR b2 (by first | omega | (simp; done) | (simp; omega)) (by omega)
    have g2 := g1.trans (b2.mono (by first | omega | (simp; done) | (simp; omega)))
    clear b2 g1 K0_1
    obtain ⟨k, rfl⟩ := Int.eq_ofNat_of_zero_le hk0
    have hkl : k ≤ d.length := by omega
    go_wp2
    go_ret
    exact ⟨⟨d.drop k, by first | rfl | (simp only [sv_ext_from]; rfl), by simp; omega⟩, R2.mono (by omega), g2⟩
  · by_cases hv1 : v = 1
    · subst hv1
      have hpos' : ¬ (0 : Int) < d.length := by
        intro h; exact hv2 ⟨rfl, by omega⟩
      clear hv2
      go_wp2_with fail
      refine (l1Data_any r _ 20 so sl sm _ R1 (by omega) (by omega) hst).mono ?_
      rintro e w2 ⟨⟨x, rfl, hx⟩, R2, b2⟩
      have z2 := b2.size
      try simp only [World.size_alloc, World.size_setCell, World.size_drew] at z2
      have K0_2 := K0_1.belowR b2 (by first | omega | (simp; done) | (simp; omega)) (by omega)
      have g2 := g1.trans (b2.mono (by first | omega | (simp; done) | (simp; omega)))
      clear b2 g1 K0_1
      go_wp2
      go_ret
      exact ⟨⟨x, rfl, by omega⟩, R2.mono (by omega), g2⟩
    · have hvb1 : (v == 1) = false := by rw [beq_eq_false_iff_ne]; exact hv1
      clear hv2
      go_wp2_with fail
      refine (l1Data_any r _ 20 so sl sm _ R1 (by omega) (by omega) hst).mono ?_
      rintro e w2 ⟨⟨x, rfl, hx⟩, R2, b2⟩
      have z2 := b2.size
      try simp only [World.size_alloc, World.size_setCell, World.size_drew] at z2
      have K0_2 := K0_1.belowR b2 (by first | omega | (simp; done) | (simp; omega)) (by omega)
      have g2 := g1.trans (b2.mono (by first | omega | (simp; done) | (simp; omega)))
      clear b2 g1 K0_1
      go_wp2
      go_ret
      exact ⟨⟨x, rfl, by omega⟩, R2.mono (by omega), g2⟩
set_option maxHeartbeats 2000000 in
theorem l5Setup_any (r M : Nat) (w : World) (hR : Rd w r M) (hM : M ≤ 30000000) :
    Calls Tryz.prog 21 #[.pointer (some ⟨r, 0, none⟩)] w fun e w' => (∃ (o l m : Int) (x : Bs), e = .returned (.tuple #[.agg #[.int .i64 o, .int .i64 l, .int .i64 m], sv x]) ∧ stOk o l m ∧ x.length ≤ 40) ∧ Rd w' r (M + 111) ∧ BelowR w.heap.size r w w' := by
  have hr := hR.lt
  have K0_0 := Bk.new w #[.int .i64 0, .int .i64 0, .int .i64 0] 24
  have R0 := hR.alloc (.cells #[.int .i64 0, .int .i64 0, .int .i64 0] 24)
  have g0 : BelowR w.heap.size r w (w.alloc (.cells #[.int .i64 0, .int .i64 0, .int .i64 0] 24)) := below_toR (by repeat (first | (with_reducible exact Below.refl _ _) | (with_reducible assumption) | (with_reducible refine Below.drew ?_) | (with_reducible refine Below.alloc ?_ (by first | omega | (simp <;> omega)) _) | (with_reducible refine Below.setCell ?_ (by first | omega | (simp <;> omega)) _) | (with_reducible refine belowN ?_ _))) r
  go_enter Tryz.func21, Tryz.ntmps21
  go_wp2_with fail
  refine (l1Some_any r M _ R0 (by omega)).mono ?_
  rintro e w1 ⟨⟨o, l, m, rfl, hst⟩, R1, b1⟩
  have z1 := b1.size
  try simp only [World.size_alloc, World.size_setCell, World.size_drew] at z1
  have K0_1 := K0_0.belowR b1 (by first | omega | (simp; done) | (simp; omega)) (by omega)
  have g1 := g0.trans (b1.mono (by first | omega | (simp; done) | (simp; omega)))
  clear b1 g0 K0_0
  have K1 := Bk.new w1 #[.int .i64 o, .int .i64 l, .int .i64 m] 24
  have K0 := K0_1.alloc (.cells #[.int .i64 o, .int .i64 l, .int .i64 m] 24)
  have R2 := R1.alloc (.cells #[.int .i64 o, .int .i64 l, .int .i64 m] 24)
  have g2 := g1.alloc (by omega) (.cells #[.int .i64 o, .int .i64 l, .int .i64 m] 24)
  have hX := K1.cell
  have hXF := K1.free
  go_wp2_with fail
  have hz0 : w.heap.size < w1.heap.size := K0_1.lt
  obtain ⟨bb, hbb⟩ : ∃ bb, w1.heap.size = bb := ⟨_, rfl⟩
  rw [hbb] at K1 hX hXF hz0
  have hl1 := K1.lt
  generalize w1.alloc (.cells #[.int .i64 o, .int .i64 l, .int .i64 m] 24) = wa at *
  clear R1 g1 K0_1 hXF
  refine wp_region_held_drew (S := (fun w' => w'.cell? ⟨bb, 0, none⟩ = some (.int .i64 o) ∧ w'.cell? ⟨bb, 1, none⟩ = some (.int .i64 l) ∧ w'.cell? ⟨bb, 2, none⟩ = some (.int .i64 m))) (by kernel_rfl) ?_ (fun hSS => ?_)
  focus ((refine ⟨?_, ?_, ?_⟩; all_goals first | (simp [hX9]; done) | (simp [hX8]; done) | (simp [hX7]; done) | (simp [hX]; done)))
  refine wpAnyH_take (i := 0) (v := ?_) rfl (by kernel_rfl) (by kernel_rfl) (by kernel_rfl) (fun _ _ _ h => h) (Or.inl ⟨by rfl, ?_⟩) (by assumption) ?_
  rotate_left
  focus (intro w hSw; (try dsimp only at hSw); go_simp; try with_reducible rfl)
  try simp only [Act.put, List.setIfInBounds_toArray, List.set_cons_zero, List.set_cons_succ]
  refine wpAnyH_take (i := 1) (v := ?_) rfl (by kernel_rfl) (by kernel_rfl) (by kernel_rfl) (fun _ _ _ h => h) (Or.inl ⟨by rfl, ?_⟩) (by assumption) ?_
  rotate_left
  focus (intro w hSw; (try dsimp only at hSw); go_simp; try with_reducible rfl)
  try simp only [Act.put, List.setIfInBounds_toArray, List.set_cons_zero, List.set_cons_succ]
  refine wpAnyH_take (i := 2) (v := ?_) rfl (by kernel_rfl) (by kernel_rfl) (by kernel_rfl) (fun _ _ _ h => h) (Or.inl ⟨by rfl, ?_⟩) (by assumption) ?_
  rotate_left
  focus (intro w hSw; (try dsimp only at hSw); go_simp; try with_reducible rfl)
  try simp only [Act.put, List.setIfInBounds_toArray, List.set_cons_zero, List.set_cons_succ]
  refine wpAnyH_take (i := 3) (v := ?_) rfl (by kernel_rfl) (by kernel_rfl) (by kernel_rfl) (fun _ _ _ h => h) (Or.inl ⟨by rfl, ?_⟩) (by assumption) ?_
  rotate_left
  focus (intro w hSw; (try dsimp only at hSw); go_simp; try with_reducible rfl)
  try simp only [Act.put, List.setIfInBounds_toArray, List.set_cons_zero, List.set_cons_succ]
  refine wpAnyH_take (i := 4) (v := ?_) rfl (by kernel_rfl) (by kernel_rfl) (by kernel_rfl) (fun _ _ _ h => h) (Or.inl ⟨by rfl, ?_⟩) (by assumption) ?_
  rotate_left
  focus (intro w hSw; (try dsimp only at hSw); go_simp; try with_reducible rfl)
  try simp only [Act.put, List.setIfInBounds_toArray, List.set_cons_zero, List.set_cons_succ]
  refine wpAnyH_ready (rs := [5]) (by kernel_rfl) (by simp) ?_
  refine AllReadyH.cons (o := _) rfl (fun KK hKK => ?_) AllReadyH.nil
  go_simp
  (go_at_call 48; refine (l1Data_any r _ 12 o l m _ R2.drew (by omega) (by omega) hst).mono ?_; rintro e w7 ⟨⟨d1, rfl, hd1⟩, R7, b7⟩; have z7 : wa.heap.size ≤ w7.heap.size := b7.size; have K1_7 := K1.drew.belowR b7 hl1 (by omega); have K0_7 := K0.drew.belowR b7 (by show _ < wa.heap.size; omega) (by omega); have g7 := g2.drew.trans (b7.mono (by show _ ≤ wa.heap.size; omega)); have hX7 := K1_7.cell)
  refine hKK.out _ _ ?_ (fun hSS => ?_)
  focus ((refine ⟨?_, ?_, ?_⟩; all_goals first | (simp [hX9]; done) | (simp [hX8]; done) | (simp [hX7]; done) | (simp [hX]; done)))
  try simp only [Act.put, List.setIfInBounds_toArray, List.set_cons_zero, List.set_cons_succ]
  refine wpAnyH_ready (rs := [6]) (by kernel_rfl) (by simp) ?_
  refine AllReadyH.cons (o := _) rfl (fun KK hKK => ?_) AllReadyH.nil
  go_simp
  (go_at_call 47; refine (l4Dict_any r _ o l m d1 _ R7 (by omega) (by omega) hst).mono ?_; rintro e w8 ⟨⟨x, rfl, hx⟩, R8, b8⟩; have z8 := b8.size; have K1_8 := K1_7.belowR b8 (by omega) (by omega); have K0_8 := K0_7.belowR b8 (by omega) (by omega); have g8 := g7.trans (b8.mono (by omega)); have hX8 := K1_8.cell; have hF8 := K0_8.free; have hY8 := K0_8.cell; have hX9 := (((K1_8.far (p := ⟨w.heap.size, 0, none⟩) (by simp; omega) (.int .i64 o)).far (p := ⟨w.heap.size, 1, none⟩) (by simp; omega) (.int .i64 l)).far (p := ⟨w.heap.size, 2, none⟩) (by simp; omega) (.int .i64 m)).cell)
  refine hKK.out _ _ ?_ (fun hSS => ?_)
  focus ((refine ⟨?_, ?_, ?_⟩; all_goals first | (simp [hX9]; done) | (simp [hX8]; done) | (simp [hX7]; done) | (simp [hX]; done)))
  try simp only [Act.put, List.setIfInBounds_toArray, List.set_cons_zero, List.set_cons_succ]
  refine wpAnyH_ready (rs := [7]) (by kernel_rfl) (by simp) ?_
  refine AllReadyH.cons (o := _) rfl (fun KK hKK => ?_) AllReadyH.nil
  go_simp
  refine hKK.out _ _ ?_ (fun hSS => ?_)
  focus ((refine ⟨?_, ?_, ?_⟩; all_goals first | (simp [hX9]; done) | (simp [hX8]; done) | (simp [hX7]; done) | (simp [hX]; done)))
  try simp only [Act.put, List.setIfInBounds_toArray, List.set_cons_zero, List.set_cons_succ]
  refine wpAnyH_take (i := 8) (v := ?_) rfl (by kernel_rfl) (by kernel_rfl) (by kernel_rfl) (fun _ _ _ h => h) (Or.inl ⟨by rfl, ?_⟩) (by assumption) ?_
  rotate_left
  focus (intro w hSw; (try dsimp only at hSw); go_simp; try with_reducible rfl)
  try simp only [Act.put, List.setIfInBounds_toArray, List.set_cons_zero, List.set_cons_succ]
  refine wpAnyH_done (by kernel_rfl) ?_ _
  simp only [List.getElem_toArray, List.getElem_cons_succ, List.getElem_cons_zero, Act.put, List.setIfInBounds_toArray, List.set_cons_zero, List.set_cons_succ]
  have Q := (((K0_8.set 0 (.int .i64 o)).set 1 (.int .i64 l)).set 2 (.int .i64 m)).cell
  replace R8 := R8.mono (show _ ≤ M + 111 by omega)
  clear hKK hX9 hX8 hX7 hX hY8 hF8
  go_wp2
  have R9 : Rd (((w8.setCell ⟨w.heap.size, 0, none⟩ (.int .i64 o)).setCell ⟨w.heap.size, 1, none⟩ (.int .i64 l)).setCell ⟨w.heap.size, 2, none⟩ (.int .i64 m)) r (M + 111) := Rd.far (Rd.far (Rd.far R8 hr _) hr _) hr _
  have g9 : BelowR w.heap.size r w (((w8.setCell ⟨w.heap.size, 0, none⟩ (.int .i64 o)).setCell ⟨w.heap.size, 1, none⟩ (.int .i64 l)).setCell ⟨w.heap.size, 2, none⟩ (.int .i64 m)) := BelowR.setCell (BelowR.setCell (BelowR.setCell g8 (.inr (Nat.le_refl _)) _) (.inr (Nat.le_refl _)) _) (.inr (Nat.le_refl _)) _
  exact bodyPost_ret (v := .tuple #[.agg #[.int .i64 o, .int .i64 l, .int .i64 m], sv x]) (by simp [results, Tryz.results21, go_sem, Q]) rfl ⟨⟨o, l, m, x, rfl, hst, by omega⟩, R9, g9⟩
end Go.Proofs.YtfonokhafdflcaaGreat
/- Walks: changing, dropping, repeating bytes; both sides. -/
namespace Go.Proofs.YtfonokhafdflcaaGreat
open Go.RowKit
set_option linter.unusedSimpArgs false
set_option linter.unusedVariables false
set_option maxRecDepth 100000
attribute [local go_sem high] run_index_S binOp_eql_S binOp_neq_S append_S toList_S size_S run_slice_S run_slice_from_S run_slice_to_S wrap64_byteAt wrap64_byteAt_mul bits_or_bytes convU conv1_some convU2 conv2_some
/-- A stream with a byte changed. -/
def cbO (l : Bs) (a v : Int) : Option Bs := if l.length ≤ 8000 ∧ 0 ≤ a ∧ a < l.length ∧ 0 ≤ v ∧ v ≤ 255 then some (l.take a.toNat ++ UInt8.ofNat v.toNat :: l.drop (a.toNat + 1)) else none
def spanOk (l : Bs) (a n : Int) : Bool := decide (l.length ≤ 8000 ∧ 0 ≤ a ∧ a ≤ l.length ∧ 0 ≤ n ∧ n ≤ l.length - a)
def drO (l : Bs) (a n : Int) : Option Bs := if spanOk l a n = true then some (l.take a.toNat ++ l.drop (a.toNat + n.toNat)) else none
def rpO (l : Bs) (a n : Int) : Option Bs := if spanOk l a n = true ∧ l.length + n ≤ 8000 then some (l.take (a.toNat + n.toNat) ++ l.drop a.toNat) else none
/-- A string, and whether there is one. -/
def obR (x : Option Bs) : Ending := .returned (.tuple #[sv (x.getD []), .bool x.isSome])
theorem spanOk_iff (l : Bs) (a n : Int) : (spanOk l a n = true) ↔ (l.length ≤ 8000 ∧ 0 ≤ a ∧ a ≤ l.length ∧ 0 ≤ n ∧ n ≤ l.length - a) := by simp [spanOk]
theorem cbO_no {l : Bs} {a v : Int} (h : ¬ (l.length ≤ 8000 ∧ 0 ≤ a ∧ a < l.length ∧ 0 ≤ v ∧ v ≤ 255)) : obR (cbO l a v) = .returned (.tuple #[sv [], .bool false]) := by unfold cbO; rw [if_neg h]; rfl
theorem cbO_yes {l : Bs} {a v : Int} (h : l.length ≤ 8000 ∧ 0 ≤ a ∧ a < l.length ∧ 0 ≤ v ∧ v ≤ 255) : obR (cbO l a v) = .returned (.tuple #[sv (l.take a.toNat ++ UInt8.ofNat v.toNat :: l.drop (a.toNat + 1)), .bool true]) := by unfold cbO; rw [if_pos h]; rfl
theorem drO_no {l : Bs} {a n : Int} (h : spanOk l a n = false) : obR (drO l a n) = .returned (.tuple #[sv [], .bool false]) := by unfold drO; rw [if_neg (by simp [h])]; rfl
theorem drO_yes {l : Bs} {a n : Int} (h : spanOk l a n = true) : obR (drO l a n) = .returned (.tuple #[sv (l.take a.toNat ++ l.drop (a.toNat + n.toNat)), .bool true]) := by unfold drO; rw [if_pos h]; rfl
theorem rpO_no {l : Bs} {a n : Int} (h : ¬ (spanOk l a n = true ∧ l.length + n ≤ 8000)) : obR (rpO l a n) = .returned (.tuple #[sv [], .bool false]) := by unfold rpO; rw [if_neg h]; rfl
theorem rpO_yes {l : Bs} {a n : Int} (h : spanOk l a n = true) (h2 : l.length + n ≤ 8000) : obR (rpO l a n) = .returned (.tuple #[sv (l.take (a.toNat + n.toNat) ++ l.drop a.toNat), .bool true]) := by unfold rpO; rw [if_pos ⟨h, h2⟩]; rfl
theorem rangeValid_any (l : Bs) (a n : Int) (w : World) (hl : l.length ≤ 1500000) (ha0 : -9223372036854775808 ≤ a) (ha1 : a ≤ 9223372036854775807) :
    Calls Tryz.prog 45 #[sv l, .int .i64 a, .int .i64 n] w fun e w' => e = .returned (.bool (spanOk l a n)) ∧ w = w' := by
  have HB := Go.Lib.hid (spanOk_iff l a n)
  generalize spanOk l a n = B at *
  go_enter Tryz.func45, Tryz.ntmps45
  go_wp2
  all_goals go_ret
  all_goals refine ⟨ret_bool ?_, rfl⟩
  all_goals (rw [Bool.eq_iff_iff, HB.out]; (try simp only [decide_eq_true_eq]); first | omega | grind)
set_option maxHeartbeats 1000000 in
theorem iDropBytes_any (l : Bs) (a n : Int) (w : World) (hl : l.length ≤ 1500000) (ha0 : -9223372036854775808 ≤ a) (ha1 : a ≤ 9223372036854775807) :
    Calls Tryz.prog 18 #[sv l, .int .i64 a, .int .i64 n] w fun e w' => e = obR (drO l a n) ∧ Below w.heap.size w w' := by
  have cS := fun w => rangeValid_any l a n w hl ha0 ha1
  cases h : spanOk l a n
  · have HR := Go.Lib.hid (drO_no h)
    rw [h] at cS
    generalize obR (drO l a n) = GG at *
    clear h
    go_enter Tryz.func18, Tryz.ntmps18
    go_wp2_with (go_at_call 45; refine (cS _).mono ?_; rintro e w' ⟨rfl, rfl⟩)
    go_ret2
    exact ⟨by rw [HR.out]; rfl, (by repeat (first | (with_reducible exact Below.refl _ _) | (with_reducible assumption) | (with_reducible refine Below.drew ?_) | (with_reducible refine Below.alloc ?_ (by first | omega | (simp <;> omega)) _) | (with_reducible refine Below.setCell ?_ (by first | omega | (simp <;> omega)) _) | (with_reducible refine belowN ?_ _)))⟩
  · have HR := Go.Lib.hid (drO_yes h)
    rw [h] at cS
    rw [spanOk_iff] at h
    generalize obR (drO l a n) = GG at *
    obtain ⟨h1, h2, h3, h4, h5⟩ := h
    obtain ⟨k, rfl⟩ := Int.eq_ofNat_of_zero_le h2
    obtain ⟨m, rfl⟩ := Int.eq_ofNat_of_zero_le h4
    have hk : k ≤ l.length := by omega
    have hk1 : k + m ≤ l.length := by omega
    have hq : ¬ 9223372036854775807 < (l.take k).length + (l.drop (k + m)).length := by simp; omega
    have hki : (k : Int) ≤ l.length := by omega
    have hki1 : (k : Int) + m ≤ l.length := by omega
    go_enter Tryz.func18, Tryz.ntmps18
    go_wp2_with (go_at_call 45; refine (cS _).mono ?_; rintro e w' ⟨rfl, rfl⟩)
    have hw1 : IntKind.i64.wrap ((k : Int) + m) = (k : Int) + m := IntWalk.i64_in _ (by omega)
    have hw2 : ((k : Int) + m).toNat = k + m := by omega
    have hw3 : 0 ≤ (k : Int) + m := by omega
    go_quiet (fail)
    clear hw1 hw2 hw3
    go_wp2
    go_ret2
    exact ⟨by rw [HR.out]; simp, (by repeat (first | (with_reducible exact Below.refl _ _) | (with_reducible assumption) | (with_reducible refine Below.drew ?_) | (with_reducible refine Below.alloc ?_ (by first | omega | (simp <;> omega)) _) | (with_reducible refine Below.setCell ?_ (by first | omega | (simp <;> omega)) _) | (with_reducible refine belowN ?_ _)))⟩
end Go.Proofs.YtfonokhafdflcaaGreat
/- Walks: the draws of changed, dropped and repeated bytes. -/
namespace Go.Proofs.YtfonokhafdflcaaGreat
open Go.RowKit
set_option linter.unusedSimpArgs false
set_option linter.unusedVariables false
set_option maxRecDepth 100000
attribute [local go_sem high] run_index_S binOp_eql_S binOp_neq_S append_S toList_S size_S run_slice_S run_slice_from_S run_slice_to_S wrap64_byteAt wrap64_byteAt_mul bits_or_bytes convU conv1_some convU2 conv2_some
/-- A stream and two numbers. -/
def Dr3 (w : World) (e : Ending) (w' : World) : Prop := (∃ (l : Bs) (a v : Int), e = .returned (.tuple #[sv l, .int .i64 a, .int .i64 v]) ∧ l.length ≤ 22000 ∧ -9223372036854775808 ≤ a ∧ a ≤ 9223372036854775807 ∧ -9223372036854775808 ≤ v ∧ v ≤ 9223372036854775807) ∧ Below w.heap.size w w'
end Go.Proofs.YtfonokhafdflcaaGreat
