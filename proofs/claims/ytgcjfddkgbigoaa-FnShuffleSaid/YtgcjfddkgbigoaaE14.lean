/- Walks: the draw of shuffled blocks. -/
import Derived.Test.YtgcjfddkgbigoaaE11
import Derived.Test.YtgcjfddkgbigoaaO1
import Derived.Deep.Cut
namespace Go.Proofs.Ytgcjfddkgbigoaa
open Go.RowKit
set_option linter.unusedSimpArgs false
set_option linter.unusedVariables false
set_option maxRecDepth 100000
attribute [local go_sem high] run_index_S binOp_eql_S binOp_neq_S append_S toList_S size_S run_slice_S run_slice_from_S run_slice_to_S wrap64_byteAt wrap64_byteAt_mul bits_or_bytes convU conv1_some convU2 conv2_some
theorem info_intE : (Try.prog.info? 3).map (fun i => (i.zero, i.size, i.bytes)) = some (some (.int .i64 0), 1, 8) := by kernel_rfl
theorem sContainerBlocks_any (l : Bs) (w : World) (hs : l.length ≤ 1500000) :
    Calls Try.prog 63 #[.string ⟨l.toArray⟩] w (BksRes (blocksB l) w) := by
  have cB := fun w => l5Blocks_any l w hs
  unfold BksRes at *
  go_enter Try.func63, Try.ntmps63
  go_wp2_with fail
  refine (cB _).mono ?_
  rintro e w1 ⟨A1, c1, rfl, o1, hb1⟩
  have H := Go.Lib.hid (And.intro o1 hb1)
  clear o1 hb1 cB
  go_wp2
  go_ret2
  exact ⟨A1, c1, rfl, H.out.1, H.out.2⟩
def ShRes (w : World) (e : Ending) (w' : World) : Prop := (∃ (l : Bs) (o : List Int) (A : Option Addr) (cap : Nat), e = .returned (.tuple #[sv l, .slice A o.length cap]) ∧ l.length ≤ 100000 ∧ o.length ≤ 100 ∧ SlI w' A cap o) ∧ Below w.heap.size w w'
theorem bks_len (l : Bs) : ((blocksB l).getD []).length ≤ 40 := by
  cases h : blocksB l with
  | none => simp
  | some bs => exact (blocks_short h).2
set_option maxHeartbeats 2000000 in
theorem drawShuffle_any (bs : Bs) (A : Option Addr) (cap : Nat) (w : World) (hs : Sl w A bs.length cap 1 (bs.map u8v)) :
    Calls Try.prog 35 #[.slice A bs.length cap] w (ShRes w) := by
  obtain ⟨i, hi, hz0, hz1, hz2⟩ := info_parts info_intE
  unfold ShRes
  go_enter Try.func35, Try.ntmps35
  go_wp2_with fail
  refine (l9Open_any bs A cap _ hs).mono ?_
  rintro e w1 ⟨rfl, R1, hb1⟩
  have z1 := hb1.size
  have g1 : BelowR w.heap.size w.heap.size w w1 := below_toR hb1 _
  have hlt := R1.lt
  clear hb1 hs
  generalize hr0 : w.heap.size = r at *
  go_wp2_with fail
  refine (l5Some_any _ _ _ R1 (by omega)).mono ?_
  rintro e w2 ⟨⟨o, l, m, dict, d, q, rfl, hst, hdl, hd, hk0, hk1⟩, R2, b2⟩
  have z2 := b2.size
  try simp only [World.size_alloc, World.size_setCell, World.size_drew] at z2
  have g2 := g1.trans (b2.mono (by first | omega | (simp; done) | (simp; omega)))
  clear b2 g1 
  obtain ⟨X, hX⟩ : ∃ X, (mkC o l m dict d q).getD [] = X := ⟨_, rfl⟩
  have hXl : X.length ≤ 22000 := by
    rw [← hX]
    cases h : mkC o l m dict d q
    · simp
    · exact mkC_len h
  rw [hX]
  clear hX
  have cB := fun w => sContainerBlocks_any X w (by omega)
  have hbl := bks_len X
  unfold BksRes at cB
  generalize (blocksB X).getD [] = bks at *
  generalize (blocksB X).isSome = bo at *
  go_wp2_with fail
  refine (cB _).mono ?_
  rintro e w3 ⟨A3, c3, rfl, o3, hb3⟩
  have z3 := hb3.size
  simp only [World.size_alloc] at z3
  have R3 := (R2.alloc (.cells #[.int .i64 o, .int .i64 l, .int .i64 m] 69)).keep hb3
  have g3 := (g2.alloc (by omega) (.cells #[.int .i64 o, .int .i64 l, .int .i64 m] 69)).trans (below_toR (hb3.mono (by simp; omega)) r)
  have hc3 := (own_Sl o3).1
  clear hb3 o3 cB g2 R2
  go_upto_region 4 with fail
  generalize hB0 : w3.heap.size = B0 at *
  have hrB : r < B0 := by omega
  have O4 := lit_own (base := B0) (size := 1) (Bk.newAt w3 #[] 3 hB0.symm) (Nat.le_refl _)
  have R4 := R3.alloc (.cells #[] 3)
  have g4 := g3.alloc (by omega) (.cells #[] 3)
  have z4 : B0 ≤ (w3.alloc (.cells #[] 3)).heap.size := by simp; omega
  go_wp2
  go_loopw [10, 11] (fun v i wr => ∃ (k : Nat) (vs : List Int), i = .int .i64 (k : Int) ∧ k ≤ bks.length ∧ vs.length = k ∧ wr.ownsRow B0 3 1 v vs.length (vs.map iV) ∧ Rd wr r (400 + k) ∧ BelowR r r w wr ∧ B0 ≤ wr.heap.size) (fun _ i _ => bks.length - (intOf i).toNat)
  case atStart => exact ⟨0, [], rfl, by omega, rfl, O4, R4.mono (by omega), g4, z4⟩
  case round =>
    obtain ⟨k, vs, rfl, hk, hvs, O0_5, R5, g5, hz5⟩ := hrel
    have HVS := Go.Lib.hid hvs
    have hvl : vs.length ≤ 40 := by omega
    clear hvs O4 R4 g4 z4 R3 g3
    by_cases hlt : k < bks.length
    · have hki : (k : Int) < bks.length := by omega
      have hr5 := R5.lt
      go_wp2_with fail
      refine (pick_any r _ ((k : Int) + 1) _ R5 (by omega) (by omega) (by omega)).mono ?_
      rintro e w6 ⟨⟨x, rfl, hx0, hx1⟩, R6, b6⟩
      have z6 := b6.size
      try simp only [World.size_alloc, World.size_setCell, World.size_drew] at z6
      have O0_6 := ownsR_keep O0_5 b6 (by omega)
      have g6 := g5.trans (b6.mono (by first | omega | (simp; done) | (simp; omega)))
      clear b6 g5 O0_5
      obtain ⟨v, rfl⟩ := Int.eq_ofNat_of_zero_le hx0
      have hvk : v ≤ k := by omega
      clear hx0 hx1
      have hm1 : vs.length + 1 ≤ maxLen := by unfold maxLen; omega
      have hm2 : (vs.length + 1) * 8 ≤ 140737488355328 := by omega
      have hlt6 := O0_6.lt
      go_upto_region 9 with fail
      go_wp2_with (at_builtin; go_must (refine wpList_ap _ rfl _ _ 49 rfl (B0) 3 i _ 1 8 Try.underlying49 hi hz0 hz1 hz2 rfl (by omega) _ _ _ rfl (O0_6.alloc _) _ 1 1 [iV (k : Int)] rfl (Sl.newAt w6 #[iV (k : Int)] _ 1 1 (by first | rfl | simp) (by simp) (by omega)) (by simp [Value.oneCell']) hm1 hm2 ?_ ?_))
      try (case refine_1 => first | omega | (simp <;> omega; done))
      intro A7 c7 w7 O7 hg7 _
      have g7 := appR g6 hg7 (by omega) (fun q hq => by have := (hlt6 q hq).1; omega)
      have R7 := R6.app hg7 (fun q hq => by have := (hlt6 q hq).1; omega)
      have z7 := app_size hg7
      obtain ⟨gq, rfl, hgB, hgl⟩ := own_pos O7 (by omega)
      obtain ⟨us, hus⟩ : ∃ us, us = vs ++ [(k : Int)] := ⟨_, rfl⟩
      have hul : us.length = vs.length + 1 := by rw [hus]; simp
      rw [show vs.map iV ++ [iV (k : Int)] = us.map iV by rw [hus, List.map_append]; rfl] at O7
      have hku : k < us.length := by rw [hul, HVS.out]; omega
      have hvu : v < us.length := by rw [hul, HVS.out]; omega
      have ci := (O7.cellAt k (by omega)).trans (by rw [List.getElem?_map, List.getElem?_eq_getElem hku]; rfl : (us.map iV)[k]? = some (iV us[k]))
      have cv := (O7.cellAt v (by omega)).trans (by rw [List.getElem?_map, List.getElem?_eq_getElem hvu]; rfl : (us.map iV)[v]? = some (iV us[v]))
      have fi := O7.frozenAt k
      have O8 := (O7.stored k (iV us[v])).1
      have R8 := R7.far (p := ⟨gq, k, none⟩) (by show r < gq; omega) (iV us[v])
      have g8 := g7.setCell (p := ⟨gq, k, none⟩) (.inr (by show r ≤ gq; omega)) (iV us[v])
      have hki2 : (k : Int) < vs.length + 1 := by rw [HVS.out]; omega
      have hvi2 : (v : Int) < vs.length + 1 := by rw [HVS.out]; omega
      have H8 := Go.Lib.hid (And.intro O8 (And.intro R8 g8))
      have z8 : w7.heap.size ≤ (w7.setCell ⟨gq, k, none⟩ (iV us[v])).heap.size := by simp
      clear hg7 O7 O0_6 R6 g6 R7 g7 O8 R8 g8 hus R5
      generalize hxa : us[k] = xa at *
      generalize hxb : us[v] = xb at *
      have HUL := Go.Lib.hid hul
      clear hul hxa hxb
      go_upto_region 12 with fail
      generalize w7.setCell ⟨gq, k, none⟩ (iV xb) = W at *
      clear ci cv fi
      obtain ⟨O8, R8, g8⟩ := H8.out
      have cv : ∃ y, W.cell? ⟨gq, v, none⟩ = some y := by
        have h := O8.cellAt v (by omega)
        rw [h]
        have hl : ((us.map iV).set k (iV xb)).length = us.length := by simp
        rw [List.getElem?_eq_getElem (by omega)]
        exact ⟨_, rfl⟩
      obtain ⟨y, cv⟩ := cv
      have fv := O8.frozenAt v
      have O9 := (O8.stored v (iV xa)).1
      have R9 := R8.far (p := ⟨gq, v, none⟩) (by show r < gq; omega) (iV xa)
      have g9 := g8.setCell (p := ⟨gq, v, none⟩) (.inr (by show r ≤ gq; omega)) (iV xa)
      rw [show ((us.map iV).set k (iV xb)).set v (iV xa) = ((us.set k xb).set v xa).map iV by rw [List.map_set, List.map_set]] at O9
      have hl9 : ((us.set k xb).set v xa).length = vs.length + 1 := by simp [HUL.out]
      rw [← hl9] at O9
      have z9 : B0 ≤ (W.setCell ⟨gq, v, none⟩ (iV xa)).heap.size := by simp; omega
      have H9 := Go.Lib.hid (And.intro O9 (And.intro R9 g9))
      have HL9 := Go.Lib.hid hl9
      clear O8 R8 g8 O9 R9 g9 H8 hl9
      go_wp2
      go_roundw
      case rel => exact ⟨k + 1, (us.set k xb).set v xa, by go_num, by omega, by rw [HL9.out, HVS.out], by rw [HL9.out]; rw [HL9.out] at H9; exact H9.out.1, H9.out.2.1.mono (by omega), H9.out.2.2, z9⟩
      case measure => simp [intOf]; omega
    · have hki : ¬ (k : Int) < bks.length := by omega
      obtain ⟨A9, c9, rfl, _⟩ := Sl.of_own O0_5
      have hr5 := R5.lt
      go_wp2_with fail
      refine (pick_any r _ 12 _ R5 (by omega) (by omega) (by omega)).mono ?_
      rintro e w6 ⟨⟨x, rfl, hx0, hx1⟩, R6, b6⟩
      have z6 := b6.size
      try simp only [World.size_alloc, World.size_setCell, World.size_drew] at z6
      have O0_6 := ownsR_keep O0_5 b6 (by omega)
      have g6 := g5.trans (b6.mono (by first | omega | (simp; done) | (simp; omega)))
      clear b6 g5 O0_5
      by_cases hx : x = 0
      · subst hx
        have s1 := Sl.list w6 [iV 0, iV (-1), iV (bks.length : Int)] 3 w6.heap.size 3 rfl rfl (by omega)
        have hr6 := R6.lt
        go_wp2_with fail
        refine (num_any r _ [0, (-1), (bks.length : Int)] (some ⟨w6.heap.size, 0, none⟩) 3 _ (R6.alloc _) (by omega) s1 (by simp) (by simp) (by rintro g off ⟨⟩; omega)).mono ?_
        rintro e w7 ⟨⟨y, hy, rfl⟩, R7, b7⟩
        have z7 := b7.size
        try simp only [World.size_alloc, World.size_setCell, World.size_drew] at z7
        have O0_7 := ownsR_keep (World.ownsRow.alloc O0_6 _) b7 (by omega)
        have g7 := (g6.alloc (by first | omega | (simp <;> omega)) _).trans (b7.mono (by first | omega | (simp; done) | (simp; omega)))
        clear b7 g6 O0_6
        have hm1 : vs.length + 1 ≤ maxLen := by unfold maxLen; omega
        have hm2 : (vs.length + 1) * 8 ≤ 140737488355328 := by omega
        have hlt7 := O0_7.lt
        clear s1 hy R5 R6
        go_wp2_with (at_builtin; go_must (refine wpList_ap _ rfl _ _ 49 rfl (B0) 3 i _ 1 8 Try.underlying49 hi hz0 hz1 hz2 rfl (by omega) _ _ _ rfl (O0_7.alloc _) _ 1 1 [iV y] rfl (Sl.newAt w7 #[iV y] _ 1 1 (by first | rfl | simp) (by simp) (by omega)) (by simp [Value.oneCell']) hm1 hm2 ?_ ?_))
        try (case refine_1 => first | omega | (simp <;> omega; done))
        intro A8 c8 w8 O8 hg8 _
        have g8 := appR g7 hg8 (by omega) (fun q hq => by have := (hlt7 q hq).1; omega)
        have R8 := R7.app hg8 (fun q hq => by have := (hlt7 q hq).1; omega)
        have z8 := app_size hg8
        have O0_8 : w8.ownsRow B0 3 1 (.slice A8 (vs ++ [y]).length c8) (vs ++ [y]).length ((vs ++ [y]).map iV) := by rw [List.length_append, List.map_append]; exact O8
        have HVY : (vs ++ [y]).length = vs.length + 1 := by simp
        rw [← HVY]
        have HVL : (vs ++ [y]).length ≤ 100 := by omega
        clear hg8 O8 O0_7 R7 g7 HVY
        generalize vs ++ [y] = us at *
        go_wp2_with fail
        refine (l5Bad_any _ _ X _ R8 (by omega) (by omega)).mono ?_
        rintro e w9 ⟨⟨x9, rfl, hx9⟩, R9, b9⟩
        have z9 := b9.size
        try simp only [World.size_alloc, World.size_setCell, World.size_drew] at z9
        have O0_9 := ownsR_keep O0_8 b9 (by omega)
        have g9 := g8.trans (b9.mono (by first | omega | (simp; done) | (simp; omega)))
        clear b9 g8 O0_8
        have S9 := Sl.of_own O0_9
        go_wp2
        go_ret2
        refine ⟨⟨x9, us, A8, c8, rfl, by omega, HVL, ?_⟩, (by rw [hr0]; exact g9.below (Nat.le_refl _))⟩
        obtain ⟨A', c', e1, hs9⟩ := S9
        injection e1 with e2 e3 e4
        subst e2 e4
        exact hs9
      · have hxb : (x == 0) = false := by rw [beq_eq_false_iff_ne]; exact hx
        go_wp2_with fail
        refine (l5Bad_any _ _ X _ R6 (by omega) (by omega)).mono ?_
        rintro e w7 ⟨⟨x9, rfl, hx9⟩, R7, b7⟩
        have z7 := b7.size
        try simp only [World.size_alloc, World.size_setCell, World.size_drew] at z7
        have O0_7 := ownsR_keep O0_6 b7 (by omega)
        have g7 := g6.trans (b7.mono (by first | omega | (simp; done) | (simp; omega)))
        clear b7 g6 O0_6
        have S9 := Sl.of_own O0_7
        go_wp2
        go_ret2
        refine ⟨⟨x9, vs, A9, c9, rfl, by omega, by omega, ?_⟩, (by rw [hr0]; exact g7.below (Nat.le_refl _))⟩
        obtain ⟨A', c', e1, hs9⟩ := S9
        injection e1 with e2 e3 e4
        subst e2 e4
        exact hs9
end Go.Proofs.Ytgcjfddkgbigoaa
