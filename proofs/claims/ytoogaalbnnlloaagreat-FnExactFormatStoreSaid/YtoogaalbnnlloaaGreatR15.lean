/- The laws of stores: valid, size, file, range (printed by gen_r10.py). -/
import Derived.Test.YtoogaalbnnlloaaGreatR14
namespace Go.Proofs.YtoogaalbnnlloaaGreat
open Go.RowKit
set_option linter.unusedVariables false
set_option linter.unusedSimpArgs false
set_option maxRecDepth 100000
attribute [local go_sem high] run_index_S binOp_eql_S binOp_neq_S append_S toList_S size_S run_slice_S run_slice_from_S run_slice_to_S wrap64_byteAt wrap64_byteAt_mul bits_or_bytes convU conv1_some convU2 conv2_some
set_option maxHeartbeats 2000000 in
theorem law_ExactFormatStore (S : Sto) (A : Option Addr) (cap : Nat) (w : World) (hs : Sl w A S.fs.length cap 2 (flsV S.fs)) (hd : S.dict.length ≤ 9223372036854775807) (hx : ∀ f ∈ S.fs, f.1.length ≤ 9223372036854775807 ∧ f.2.length ≤ 9223372036854775807) :
    Calls Tryz.prog 10 #[S.V A cap] w fun e w' => e = .returned (.bool true) ∧ Below w.heap.size w w' := by
  have HS : Go.RowKit.Hid (∀ wr, Below w.heap.size w wr → Sl wr A S.fs.length cap 2 (flsV S.fs)) := fun wr h => hs.below h
  have cZ := fun w h => szStore_any S 1048576 A cap w h (by omega) hd hx
  have cT : Go.RowKit.Hid (S.small 1048576 → ∀ w, Sl w A S.fs.length cap 2 (flsV S.fs) → Calls Tryz.prog 27 #[S.V A cap] w fun e w' => ∃ (A' : Option Addr) (cap' : Nat), e = .returned (S.V A' cap') ∧ w'.ownsRow w.heap.size 116 2 (.slice A' S.fs.length cap') S.fs.length (flsV S.fs) ∧ Below w.heap.size w w') := fun h w hs => toStore_any S A cap w hs (by have := h.2.1; omega)
  obtain ⟨R, hR⟩ : ∃ R, S.fmt = R := ⟨_, rfl⟩
  have cP : Go.RowKit.Hid (S.small 1048576 → ∀ A cap w, Sl w A S.fs.length cap 2 (flsV S.fs) → Calls Tryz.prog 43 #[S.V A cap] w fun e w' => e = .returned (sv R) ∧ Below w.heap.size w w') := fun h A cap w hs => by rw [← hR]; exact sFormatStore_any S A cap w hs (by have := h.1; omega) (by have := h.2.1; omega) (fun f hf => by have := h.2.2 f hf; omega)
  have cG : Go.RowKit.Hid (S.small 1048576 → ∀ A cap w, Sl w A S.fs.length cap 2 (flsV S.fs) → Calls Tryz.prog 44 #[S.V A cap] w fun e w' => e = .returned (sv R) ∧ Below w.heap.size w w') := fun h A cap w hs => by rw [← hR]; exact formatStore_any S A cap w hs (by have := h.1; omega) (by have := h.2.1; omega) (fun f hf => by have := h.2.2 f hf; omega)
  have cE : Go.RowKit.Hid (S.small 1048576 → ∀ w A B ca cb, Sl w A S.fs.length ca 2 (flsV S.fs) → Sl w B S.fs.length cb 2 (flsV S.fs) → Calls Tryz.prog 29 #[S.V A ca, S.V B cb] w fun e w' => e = .returned (.bool true) ∧ Below w.heap.size w w') := fun h w A B ca cb h1 h2 => eqStore_same S A B ca cb w h1 h2 (by have := h.2.1; omega)
  clear hs hd hx hR
  generalize S.small 1048576 = P at *
  obtain ⟨o, l, m, dict, fs⟩ := S
  simp only at *
  go_enter Tryz.func10, Tryz.ntmps10
  have hK0 : Bk (w.alloc (.cells #[.int .i64 o, .int .i64 l, .int .i64 m, .string ⟨dict.toArray⟩, .slice A fs.length cap] 45)) w.heap.size 45 #[.int .i64 o, .int .i64 l, .int .i64 m, .string ⟨dict.toArray⟩, .slice A fs.length cap] := (by (repeat (first | (with_reducible assumption) | (with_reducible exact Bk.new _ _ _) | (with_reducible refine Bk.newAt _ _ _ (by simp; done)) | (with_reducible refine Bk.drew ?_) | (with_reducible refine Bk.drewN ?_ _) | (with_reducible refine Bk.alloc ?_ _))); done)
  have g0 : Below w.heap.size w (w.alloc (.cells #[.int .i64 o, .int .i64 l, .int .i64 m, .string ⟨dict.toArray⟩, .slice A fs.length cap] 45)) := (by repeat (first | (with_reducible exact Below.refl _ _) | (with_reducible assumption) | (with_reducible refine Below.drew ?_) | (with_reducible refine Below.alloc ?_ (by first | omega | (simp <;> omega)) _) | (with_reducible refine Below.setCell ?_ (by first | omega | (simp <;> omega)) _) | (with_reducible refine belowN ?_ _)))
  go_upto_region 1 with (fail)
  generalize w.alloc (.cells #[.int .i64 o, .int .i64 l, .int .i64 m, .string ⟨dict.toArray⟩, .slice A fs.length cap] 45) = w0 at *
  have hX0 := hK0.cell
  have hz0 := hK0.lt
  go_wp2_with fail
  refine (cZ _ (HS.out _ g0)).mono ?_
  rintro e w1 ⟨⟨x, rfl, hx1, hx2, hx3⟩, hb1⟩
  have hz1 := hb1.size
  have hK1 := hK0.below hb1 hz0
  have g1 := g0.trans (hb1.mono (by omega))
  clear hb1 hK0 g0 hX0 cZ
  by_cases hneg : x < 0
  · clear hx3
    go_wp2
    go_ret
    exact ⟨rfl, g1⟩
  have hP := hx3 (by omega)
  have cT2 := Go.Lib.hid (cT.out hP)
  have cP2 := Go.Lib.hid (cP.out hP)
  have cG2 := Go.Lib.hid (cG.out hP)
  have cE2 := Go.Lib.hid (cE.out hP)
  clear cT cP cG cE hx3 hP
  have hX1 := hK1.cell
  go_wp2_with fail
  refine (cT2.out _ (HS.out _ g1)).mono ?_
  rintro e w2 ⟨A2, c2, rfl, o2, hb2⟩
  have hz2 := hb2.size
  have hK2 := hK1.below hb2 (by omega)
  have g2 := g1.trans (hb2.mono (by omega))
  have s2 := own_Sl o2
  clear hb2 hK1 g1 o2 hX1
  go_wp2_with fail
  refine (cP2.out _ _ _ s2).mono ?_
  rintro e w3 ⟨rfl, hb3⟩
  have hz3 := hb3.size
  have hK3 := hK2.below hb3 (by omega)
  have g3 := g2.trans (hb3.mono (by omega))
  clear hb3 hK2 g2 s2 cP2
  have hX3 := hK3.cell
  go_wp2_with fail
  refine (cT2.out _ (HS.out _ g3)).mono ?_
  rintro e w4 ⟨A4, c4, rfl, o4, hb4⟩
  have hz4 := hb4.size
  have hK5 := (hK3.below hb4 (by omega)).alloc (.cells #[.int .i64 o, .int .i64 l, .int .i64 m, .string ⟨dict.toArray⟩, .slice A4 fs.length c4] 50)
  have hN5 := Bk.new w4 #[.int .i64 o, .int .i64 l, .int .i64 m, .string ⟨dict.toArray⟩, .slice A4 fs.length c4] 50
  have g5 := (g3.trans (hb4.mono (by omega))).alloc (by omega) (.cells #[.int .i64 o, .int .i64 l, .int .i64 m, .string ⟨dict.toArray⟩, .slice A4 fs.length c4] 50)
  have s5 := (own_Sl o4).alloc (.cells #[.int .i64 o, .int .i64 l, .int .i64 m, .string ⟨dict.toArray⟩, .slice A4 fs.length c4] 50)
  have hq4 : w.heap.size < w4.heap.size := by omega
  clear hb4 hK3 g3 o4 hX3
  go_upto_region 7 with (fail)
  generalize w4.alloc (.cells #[.int .i64 o, .int .i64 l, .int .i64 m, .string ⟨dict.toArray⟩, .slice A4 fs.length c4] 50) = W at *
  generalize w4.heap.size = q4 at *
  have hX5 := hN5.cell
  have hl5 := hN5.lt
  go_wp2_with fail
  refine (cG2.out _ _ _ s5).mono ?_
  rintro e w6 ⟨rfl, hb6⟩
  have hz6 := hb6.size
  have hK6 := hK5.below hb6 (by omega)
  have hN6 := hN5.below hb6 hl5
  have g6 := g5.trans (hb6.mono (by omega))
  have s6 := s5.below hb6
  have hX6 := hN6.cell
  have hY6 := hK6.cell
  have hl6 := hN6.lt
  clear hb6 hK5 hN5 g5 s5 hX5 cG2
  go_wp2_with fail
  refine wp_region_held_drew (S := (fun w' => w'.cell? ⟨q4, 0, none⟩ = some (.int .i64 o) ∧ w'.cell? ⟨q4, 1, none⟩ = some (.int .i64 l) ∧ w'.cell? ⟨q4, 2, none⟩ = some (.int .i64 m) ∧ w'.cell? ⟨q4, 3, none⟩ = some (.string ⟨dict.toArray⟩) ∧ w'.cell? ⟨q4, 4, none⟩ = some (.slice A4 fs.length c4) ∧ w'.cell? ⟨w.heap.size, 0, none⟩ = some (.int .i64 o) ∧ w'.cell? ⟨w.heap.size, 1, none⟩ = some (.int .i64 l) ∧ w'.cell? ⟨w.heap.size, 2, none⟩ = some (.int .i64 m) ∧ w'.cell? ⟨w.heap.size, 3, none⟩ = some (.string ⟨dict.toArray⟩) ∧ w'.cell? ⟨w.heap.size, 4, none⟩ = some (.slice A fs.length cap))) (by kernel_rfl) ?_ (fun hSS => ?_)
  focus ((refine ⟨?_, ?_, ?_, ?_, ?_, ?_, ?_, ?_, ?_, ?_⟩; all_goals first | (simp [hX9]; done) | (simp [hY9]; done) | (simp [hX8]; done) | (simp [hY8]; done) | (simp [hX6]; done) | (simp [hY6]; done)))
  refine wpAnyH_take (i := 0) (v := ?_) rfl (by kernel_rfl) (by kernel_rfl) (by kernel_rfl) (fun _ _ _ h => h) (Or.inl ⟨by rfl, ?_⟩) (by assumption) ?_
  rotate_left
  focus (intro w hSw; (try dsimp only at hSw); go_simp; try with_reducible rfl)
  try simp only [Act.put, List.setIfInBounds_toArray, List.set_cons_zero, List.set_cons_succ]
  refine wpAnyH_take (i := 1) (v := ?_) rfl (by kernel_rfl) (by kernel_rfl) (by kernel_rfl) (fun _ _ _ h => h) (Or.inl ⟨by rfl, ?_⟩) (by assumption) ?_
  rotate_left
  focus (intro w hSw; (try dsimp only at hSw); go_simp; try with_reducible rfl)
  try simp only [Act.put, List.setIfInBounds_toArray, List.set_cons_zero, List.set_cons_succ]
  refine wpAnyH_ready (rs := [2]) (by kernel_rfl) (by simp) ?_
  refine AllReadyH.cons (o := _) rfl (fun KK hKK => ?_) AllReadyH.nil
  go_simp
  (go_at_call 27; refine (cT2.out w6.drew (HS.out w6 g6)).mono ?_; rintro e w8 ⟨A8, c8, rfl, o8, b8⟩; have b8 : Below w6.heap.size w6 w8 := below_undrew b8; have z8 := b8.size; have hK8 := hK6.below b8 (by omega); have hN8 := hN6.below b8 hl6; have g8 := g6.trans (b8.mono (by omega)); have s8 := s6.below b8; have s9 := own_Sl o8; have hX8 := hN8.cell; have hY8 := hK8.cell)
  refine hKK.out _ _ ?_ (fun hSS => ?_)
  focus ((refine ⟨?_, ?_, ?_, ?_, ?_, ?_, ?_, ?_, ?_, ?_⟩; all_goals first | (simp [hX9]; done) | (simp [hY9]; done) | (simp [hX8]; done) | (simp [hY8]; done) | (simp [hX6]; done) | (simp [hY6]; done)))
  try simp only [Act.put, List.setIfInBounds_toArray, List.set_cons_zero, List.set_cons_succ]
  refine wpAnyH_ready (rs := [3]) (by kernel_rfl) (by simp) ?_
  refine AllReadyH.cons (o := _) rfl (fun KK hKK => ?_) AllReadyH.nil
  go_simp
  (go_at_call 29; refine (cE2.out w8 _ _ _ _ s8 s9).mono ?_; rintro e w9 ⟨rfl, b9⟩; have g9 := g8.trans (b9.mono (by omega)); have hX9 := (hN8.below b9 hN8.lt).cell; have hY9 := (hK8.below b9 hK8.lt).cell)
  refine hKK.out _ _ ?_ (fun hSS => ?_)
  focus ((refine ⟨?_, ?_, ?_, ?_, ?_, ?_, ?_, ?_, ?_, ?_⟩; all_goals first | (simp [hX9]; done) | (simp [hY9]; done) | (simp [hX8]; done) | (simp [hY8]; done) | (simp [hX6]; done) | (simp [hY6]; done)))
  try simp only [Act.put, List.setIfInBounds_toArray, List.set_cons_zero, List.set_cons_succ]
  refine wpAnyH_take (i := 4) (v := ?_) rfl (by kernel_rfl) (by kernel_rfl) (by kernel_rfl) (fun _ _ _ h => h) (Or.inl ⟨by rfl, ?_⟩) (by assumption) ?_
  rotate_left
  focus (intro w hSw; (try dsimp only at hSw); go_simp; try with_reducible rfl)
  try simp only [Act.put, List.setIfInBounds_toArray, List.set_cons_zero, List.set_cons_succ]
  refine wpAnyH_done (by kernel_rfl) ?_ _
  go_wp2
  go_ret
  exact ⟨rfl, g9⟩
end Go.Proofs.YtoogaalbnnlloaaGreat
