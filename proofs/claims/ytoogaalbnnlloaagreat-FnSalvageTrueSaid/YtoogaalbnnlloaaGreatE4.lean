/- Walks: damaged containers, and the draws of streams that are searched. -/
import Derived.Test.YtoogaalbnnlloaaGreatGD2
import Derived.Test.YtoogaalbnnlloaaGreatP15
import Derived.Lib.QuietBelow
namespace Go.Proofs.YtoogaalbnnlloaaGreat
open Go.RowKit
set_option linter.unusedSimpArgs false
set_option linter.unusedVariables false
set_option maxRecDepth 100000
attribute [local go_sem high] run_index_S binOp_eql_S binOp_neq_S append_S toList_S size_S run_slice_S run_slice_from_S run_slice_to_S wrap64_byteAt wrap64_byteAt_mul bits_or_bytes convU conv1_some convU2 conv2_some
theorem obR_of (x : Option Bs) (n : Nat) (h : ∀ y, x = some y → y.length ≤ n) : ∃ (y : Bs) (b : Bool), obR x = .returned (.tuple #[sv y, .bool b]) ∧ y.length ≤ n := by
  refine ⟨x.getD [], x.isSome, rfl, ?_⟩
  cases x with
  | none => simp
  | some y => exact h y rfl
theorem drO_ob (l : Bs) (a n : Int) : ∃ (y : Bs) (b : Bool), obR (drO l a n) = .returned (.tuple #[sv y, .bool b]) ∧ y.length ≤ 22000 :=
  obR_of _ _ fun y h => by
    unfold drO at h
    split at h
    · next hs =>
      rw [spanOk_iff] at hs
      injection h with h
      rw [← h]; simp; omega
    · cases h
theorem rpO_ob (l : Bs) (a n : Int) : ∃ (y : Bs) (b : Bool), obR (rpO l a n) = .returned (.tuple #[sv y, .bool b]) ∧ y.length ≤ 22000 :=
  obR_of _ _ fun y h => by
    unfold rpO at h
    split at h
    · next hs =>
      obtain ⟨hs, h2⟩ := hs
      rw [spanOk_iff] at hs
      injection h with h
      rw [← h]; simp; omega
    · cases h
theorem cbO_ob (l : Bs) (a n : Int) : ∃ (y : Bs) (b : Bool), obR (cbO l a n) = .returned (.tuple #[sv y, .bool b]) ∧ y.length ≤ 22000 :=
  obR_of _ _ fun y h => by
    unfold cbO at h
    split at h
    · next hs =>
      injection h with h
      rw [← h]; simp; omega
    · cases h
def HarmRes (r M : Nat) (w : World) (e : Ending) (w' : World) : Prop := (∃ x : Bs, e = .returned (sv x) ∧ x.length ≤ 22000) ∧ Rd w' r M ∧ BelowR w.heap.size r w w'
theorem plc_bd (l : Bs) (k : Nat) (h : k < ((blocksB l).elim [] plc).length) : ∃ x y : Int, ((blocksB l).elim [] plc)[k] = (x, y) ∧ 0 ≤ x ∧ x ≤ 100000 := by
  obtain ⟨ps, hps⟩ : ∃ ps, (blocksB l).elim [] plc = ps := ⟨_, rfl⟩
  have key : ∀ ps, (blocksB l).elim [] plc = ps → ∀ (k : Nat) (h : k < ps.length), ∃ x y : Int, ps[k] = (x, y) ∧ 0 ≤ x ∧ x ≤ 100000 := by
    rintro ps rfl k h
    revert h
    generalize hQ : (blocksB l).elim [] plc = Q
    intro h
    cases hB : blocksB l with
    | none => rw [hB] at hQ; simp only [Option.elim_none] at hQ; subst hQ; simp at h
    | some bs =>
      rw [hB] at hQ
      simp only [Option.elim_some] at hQ
      have hok := NumOk_mem (blocks_some hB).1
      have hlen := (blocks_short hB).2
      subst hQ
      have := plcAt_bd bs hok k
      exact ⟨(plcAt bs k).1, (plcAt bs k).2, plc_at bs k h, by omega, by omega⟩
  exact key _ rfl k h
theorem plcs_len (l : Bs) : ((blocksB l).elim [] plc).length ≤ 40 := by
  cases hB : blocksB l with
  | none => simp
  | some bs => simp only [Option.elim_some, plc_length]; exact (blocks_short hB).2
set_option maxHeartbeats 4000000 in
theorem l7Harm_any (r M : Nat) (l : Bs) (w : World) (hR : Rd w r M) (hM : M ≤ 30000000) (hl : l.length ≤ 22000) :
    Calls Tryz.prog 143 #[.pointer (some ⟨r, 0, none⟩), sv l] w (HarmRes r (M + 10) w) := by
  have hr := hR.lt
  have cI := fun w => sIndexOf_any l w (by omega)
  unfold PlRes at cI
  have HB := Go.Lib.hid (plc_bd l)
  have hpl := plcs_len l
  generalize (blocksB l).elim [] plc = P at *
  generalize (blocksB l).isSome = bo at *
  unfold HarmRes
  go_enter Tryz.func143, Tryz.ntmps143
  go_wp2_with fail
  refine (cI _).mono ?_
  rintro e w1 ⟨A1, c1, rfl, o1, hb1⟩
  have z1 := hb1.size
  have R1 := hR.keep hb1
  have g1 : BelowR w.heap.size r w w1 := below_toR hb1 _
  have O1_1 := o1
  clear cI hb1 o1 hR
  go_wp2_with fail
  refine (pick_any _ _ (l.length + 1) _ R1 (by omega) (by omega) (by omega)).mono ?_
  rintro e w2 ⟨⟨a, rfl, ha0, ha1⟩, R2, b2⟩
  have z2 := b2.size
  try simp only [World.size_alloc, World.size_setCell, World.size_drew] at z2
  have O1_2 := ownsR_keep O1_1 b2 (by omega)
  have g2 := g1.trans (b2.mono (by first | omega | (simp; done) | (simp; omega)))
  clear b2 g1 O1_1
  go_wp2_with fail
  refine (pick_any _ _ (l.length - a + 1) _ R2 (by omega) (by omega) (by omega)).mono ?_
  rintro e w3 ⟨⟨n, rfl, hn0, hn1⟩, R3, b3⟩
  have z3 := b3.size
  try simp only [World.size_alloc, World.size_setCell, World.size_drew] at z3
  have O1_3 := ownsR_keep O1_2 b3 (by omega)
  have g3 := g2.trans (b3.mono (by first | omega | (simp; done) | (simp; omega)))
  clear b3 g2 O1_2
  go_wp2_with fail
  refine (pick_any _ _ 5 _ R3 (by omega) (by omega) (by omega)).mono ?_
  rintro e w4 ⟨⟨k, rfl, hk0, hk1⟩, R4, b4⟩
  have z4 := b4.size
  try simp only [World.size_alloc, World.size_setCell, World.size_drew] at z4
  have O1_4 := ownsR_keep O1_3 b4 (by omega)
  have g4 := g3.trans (b4.mono (by first | omega | (simp; done) | (simp; omega)))
  clear b4 g3 O1_3
  clear R1 R2 R3
  by_cases h0 : k = 0
  · subst h0
    go_wp2_with fail
    refine (pick_any _ _ 256 _ R4 (by omega) (by omega) (by omega)).mono ?_
    rintro e w5 ⟨⟨v, rfl, hv0, hv1⟩, R5, b5⟩
    have z5 := b5.size
    try simp only [World.size_alloc, World.size_setCell, World.size_drew] at z5
    have g5 := g4.trans (b5.mono (by first | omega | (simp; done) | (simp; omega)))
    clear b5 g4 
    obtain ⟨y, b, hy, hyl⟩ := cbO_ob l a v
    have cC := fun w => sChangeByte_any l a v w (by omega) (by omega) (by omega)
    rw [hy] at cC
    clear hy
    go_wp2_with fail
    refine (cC _).mono ?_
    rintro e w6 ⟨rfl, hb6⟩
    have R6 := (R5.keep hb6).mono (show M + 1 + 1 + 1 + 1 ≤ M + 10 by omega)
    have g6 := g5.trans (below_toR (hb6.mono (by omega)) r)
    clear cC
    cases b
    · go_wp2
      go_ret
      exact ⟨⟨l, rfl, hl⟩, R6, g6⟩
    · go_wp2
      go_ret
      exact ⟨⟨y, rfl, hyl⟩, R6, g6⟩
  have hkb : (k == 0) = false := by rw [beq_eq_false_iff_ne]; exact h0
  by_cases h1 : k = 1
  · subst h1
    go_wp2_with fail
    refine (pick_any _ _ 20 _ R4 (by omega) (by omega) (by omega)).mono ?_
    rintro e w5 ⟨⟨v, rfl, hv0, hv1⟩, R5, b5⟩
    have z5 := b5.size
    try simp only [World.size_alloc, World.size_setCell, World.size_drew] at z5
    have g5 := g4.trans (b5.mono (by first | omega | (simp; done) | (simp; omega)))
    clear b5 g4 
    have R6 := R5.mono (show M + 1 + 1 + 1 + 1 ≤ M + 10 by omega)
    by_cases hnv : n ≤ 1 + v
    · obtain ⟨y, b, hy, hyl⟩ := drO_ob l a n
      have cC := fun w => sDropBytes_any l a n w (by omega) (by omega) (by omega)
      rw [hy] at cC
      clear hy
      go_wp2_with fail
      refine (cC _).mono ?_
      rintro e w6 ⟨rfl, hb6⟩
      have R7 := R6.keep hb6
      have g6 := g5.trans (below_toR (hb6.mono (by omega)) r)
      go_wp2
      go_ret
      exact ⟨⟨y, rfl, hyl⟩, R7, g6⟩
    · have hnv2 : 1 + v < n := by omega
      obtain ⟨y, b, hy, hyl⟩ := drO_ob l a (1 + v)
      have cC := fun w => sDropBytes_any l a (1 + v) w (by omega) (by omega) (by omega)
      rw [hy] at cC
      clear hy
      go_wp2_with fail
      refine (cC _).mono ?_
      rintro e w6 ⟨rfl, hb6⟩
      have R7 := R6.keep hb6
      have g6 := g5.trans (below_toR (hb6.mono (by omega)) r)
      go_wp2
      go_ret
      exact ⟨⟨y, rfl, hyl⟩, R7, g6⟩
  have hkb1 : (k == 1) = false := by rw [beq_eq_false_iff_ne]; exact h1
  by_cases h2 : k = 2
  · subst h2
    go_wp2_with fail
    refine (pick_any _ _ 20 _ R4 (by omega) (by omega) (by omega)).mono ?_
    rintro e w5 ⟨⟨v, rfl, hv0, hv1⟩, R5, b5⟩
    have z5 := b5.size
    try simp only [World.size_alloc, World.size_setCell, World.size_drew] at z5
    have g5 := g4.trans (b5.mono (by first | omega | (simp; done) | (simp; omega)))
    clear b5 g4 
    have R6 := R5.mono (show M + 1 + 1 + 1 + 1 ≤ M + 10 by omega)
    by_cases hnv : n ≤ 1 + v
    · obtain ⟨y, b, hy, hyl⟩ := rpO_ob l a n
      have cC := fun w => sRepeatBytes_any l a n w (by omega) (by omega) (by omega)
      rw [hy] at cC
      clear hy
      go_wp2_with fail
      refine (cC _).mono ?_
      rintro e w6 ⟨rfl, hb6⟩
      have R7 := R6.keep hb6
      have g6 := g5.trans (below_toR (hb6.mono (by omega)) r)
      go_wp2
      go_ret
      exact ⟨⟨y, rfl, hyl⟩, R7, g6⟩
    · have hnv2 : 1 + v < n := by omega
      obtain ⟨y, b, hy, hyl⟩ := rpO_ob l a (1 + v)
      have cC := fun w => sRepeatBytes_any l a (1 + v) w (by omega) (by omega) (by omega)
      rw [hy] at cC
      clear hy
      go_wp2_with fail
      refine (cC _).mono ?_
      rintro e w6 ⟨rfl, hb6⟩
      have R7 := R6.keep hb6
      have g6 := g5.trans (below_toR (hb6.mono (by omega)) r)
      go_wp2
      go_ret
      exact ⟨⟨y, rfl, hyl⟩, R7, g6⟩
  have hkb2 : (k == 2) = false := by rw [beq_eq_false_iff_ne]; exact h2
  have R5' := R4.mono (show M + 1 + 1 + 1 ≤ M + 10 by omega)
  by_cases h3 : k = 3
  · subst h3
    by_cases hp : 1 < P.length
    · have hpi : (1 : Int) < P.length := by omega
      go_wp2_with fail
      refine (pick_any _ _ (P.length - 1) _ R4 (by omega) (by omega) (by omega)).mono ?_
      rintro e w5 ⟨⟨v, rfl, hv0, hv1⟩, R5, b5⟩
      have z5 := b5.size
      try simp only [World.size_alloc, World.size_setCell, World.size_drew] at z5
      have O1_5 := ownsR_keep O1_4 b5 (by omega)
      have g5 := g4.trans (b5.mono (by first | omega | (simp; done) | (simp; omega)))
      clear b5 g4 O1_4
      have R6 := R5.mono (show M + 1 + 1 + 1 + 1 ≤ M + 10 by omega)
      obtain ⟨i, rfl⟩ := Int.eq_ofNat_of_zero_le hv0
      have hi : i + 1 < P.length := by omega
      have hi0 : i < P.length := by omega
      obtain ⟨x1, y1, he1, hx10, hx11⟩ := HB.out i hi0
      obtain ⟨x2, y2, he2, hx20, hx21⟩ := HB.out (i + 1) hi
      have hsr := own_Sl O1_5
      obtain ⟨g, off, rfl, hg, hc⟩ := Sl.cellK hsr hi0
      have hcs := plV_at P i hi0
      have hcs2 := plV_at P (i + 1) hi
      rw [he1] at hcs
      rw [he2] at hcs2
      have c0 := hc 0 _ hcs.1
      obtain ⟨g2, off2, hA2, _, hc2⟩ := Sl.cellK hsr hi
      injection hA2 with hA2
      injection hA2 with hA3 hA4
      subst hA3 hA4
      have c1 := hc2 0 _ hcs2.1
      clear hcs hcs2 hc hc2 hsr he1 he2 HB
      simp only [Nat.add_zero] at c0 c1
      obtain ⟨y, b, hy, hyl⟩ := drO_ob l x1 (x2 - x1)
      have cC := fun w => sDropBytes_any l x1 (x2 - x1) w (by omega) (by omega) (by omega)
      rw [hy] at cC
      clear hy
      have hii : (i : Int) < P.length := by omega
      have hii1 : (i : Int) + 1 < P.length := by omega
      go_wp2_with fail
      have hw1 : IntKind.i64.wrap ((i : Int) + 1) = (i : Int) + 1 := wrapI _ (by omega) (by omega)
      have hw2 : IntKind.i64.wrap (x2 - x1) = x2 - x1 := wrapI _ (by omega) (by omega)
      have hw3 : ((i : Int) + 1).toNat = i + 1 := by omega
      have C0 := fun d os => cell_regrown c0 d os
      have C1 := fun d os => cell_regrown c1 d os
      refine wp_region_quiet_below (by kernel_rfl) (by kernel_rfl) ?_
      repeat (go_big_quiet_step ((go_at_call 167; exact Calls.regrown_of (cC _))))
      refine wpQuiet_nil ?_
      intro w6 hw2
      have hb6 : Below _ _ w6 := below_of_class hw2
      clear hw2
      clear hw1 hw2 hw3
      have R7 := R6.keep hb6
      have g7 := g5.trans (below_toR (hb6.mono (by omega)) r)
      go_wp2
      go_ret
      exact ⟨⟨y, rfl, hyl⟩, R7, g7⟩
    · have hpi : ¬ (1 : Int) < P.length := by omega
      go_wp2
      go_ret
      exact ⟨⟨l, rfl, hl⟩, R5', g4⟩
  have hkb3 : (k == 3) = false := by rw [beq_eq_false_iff_ne]; exact h3
  go_wp2
  go_ret
  exact ⟨⟨l, rfl, hl⟩, R5', g4⟩
set_option maxHeartbeats 400000 in
theorem l7Some_any (r M : Nat) (w : World) (hR : Rd w r M) (hM : M ≤ 20000000) :
    Calls Tryz.prog 109 #[.pointer (some ⟨r, 0, none⟩)] w fun e w' => (∃ (o l m : Int) (dict X Y : Bs), e = .returned (.tuple #[.agg #[.int .i64 o, .int .i64 l, .int .i64 m], sv dict, sv X, sv Y]) ∧ stOk o l m ∧ dict.length ≤ 40 ∧ X.length ≤ 22000 ∧ Y.length ≤ 22000) ∧ Rd w' r (M + 500) ∧ BelowR w.heap.size r w w' := by
  have hr := hR.lt
  have K0_0 := Bk.new w #[.int .i64 0, .int .i64 0, .int .i64 0] 38
  have R0 := hR.alloc (.cells #[.int .i64 0, .int .i64 0, .int .i64 0] 38)
  have g0 : BelowR w.heap.size r w (w.alloc (.cells #[.int .i64 0, .int .i64 0, .int .i64 0] 38)) := below_toR (by repeat (first | (with_reducible exact Below.refl _ _) | (with_reducible assumption) | (with_reducible refine Below.drew ?_) | (with_reducible refine Below.alloc ?_ (by first | omega | (simp <;> omega)) _) | (with_reducible refine Below.setCell ?_ (by first | omega | (simp <;> omega)) _) | (with_reducible refine belowN ?_ _))) r
  go_enter Tryz.func109, Tryz.ntmps109
  go_wp2_with fail
  refine (l5Some_any r M _ R0 (by omega)).mono ?_
  rintro e w1 ⟨⟨o, l, m, dict, d, n, rfl, hst, hdl, hd, hn0, hn1⟩, R1, b1⟩
  have z1 := b1.size
  try simp only [World.size_alloc, World.size_setCell, World.size_drew] at z1
  have K0_1 := K0_0.belowR b1 (by first | omega | (simp; done) | (simp; omega)) (by omega)
  have g1 := g0.trans (b1.mono (by first | omega | (simp; done) | (simp; omega)))
  clear b1 g0 K0_0
  have hX : ((mkC o l m dict d n).getD []).length ≤ 22000 := by
    cases h : mkC o l m dict d n
    · simp
    · exact mkC_len h
  generalize (mkC o l m dict d n).getD [] = X at *
  have K1_1 := Bk.new w1 #[.int .i64 o, .int .i64 l, .int .i64 m] 38
  have K0 := K0_1.alloc (.cells #[.int .i64 o, .int .i64 l, .int .i64 m] 38)
  have R2 := R1.alloc (.cells #[.int .i64 o, .int .i64 l, .int .i64 m] 38)
  have g2 := g1.alloc (by omega) (.cells #[.int .i64 o, .int .i64 l, .int .i64 m] 38)
  have hC := K1_1.cell
  have hCF := K1_1.free
  have hz0 : w.heap.size < w1.heap.size := K0_1.lt
  go_wp2_with fail
  obtain ⟨bb, hbb⟩ : ∃ bb, w1.heap.size = bb := ⟨_, rfl⟩
  rw [hbb] at K1_1 hC hCF hz0
  have hl1 := K1_1.lt
  have hl0 := K0.lt
  have hne : bb ≠ w.heap.size := by omega
  clear R1 g1 K0_1
  refine wp_region_held_drew (S := (fun w' => w'.cell? ⟨bb, 0, none⟩ = some (.int .i64 o) ∧ w'.cell? ⟨bb, 1, none⟩ = some (.int .i64 l) ∧ w'.cell? ⟨bb, 2, none⟩ = some (.int .i64 m))) (by kernel_rfl) ?_ (fun hSS => ?_)
  focus ((first | (refine ⟨?_, ?_, ?_⟩; all_goals first | (simp [hC8]; done) | (simp [hC]; done)) | (exact ⟨(((K1_8.far hne _).far hne _).far hne _).cell 0, (((K1_8.far hne _).far hne _).far hne _).cell 1, (((K1_8.far hne _).far hne _).far hne _).cell 2⟩)))
  refine wpAnyH_take (i := 0) (v := ?_) rfl (by kernel_rfl) (by kernel_rfl) (by kernel_rfl) (fun _ _ _ h => h) (Or.inl ⟨by rfl, ?_⟩) (by assumption) ?_
  rotate_left
  focus (intro w hSw; (try dsimp only at hSw); go_simp; try with_reducible rfl)
  try simp only [Act.put, List.setIfInBounds_toArray, List.set_cons_zero, List.set_cons_succ]
  refine wpAnyH_take (i := 1) (v := ?_) rfl (by kernel_rfl) (by kernel_rfl) (by kernel_rfl) (fun _ _ _ h => h) (Or.inl ⟨by rfl, ?_⟩) (by assumption) ?_
  rotate_left
  focus (intro w hSw; (try dsimp only at hSw); go_simp; try with_reducible rfl)
  try simp only [Act.put, List.setIfInBounds_toArray, List.set_cons_zero, List.set_cons_succ]
  refine wpAnyH_take (i := 2) (v := ?_) rfl (by kernel_rfl) (by kernel_rfl) (by kernel_rfl) (fun _ _ _ h => h) (Or.inl ⟨by rfl, ?_⟩) (by assumption) ?_
  rotate_left
  focus (intro w hSw; (try dsimp only at hSw); go_simp; try with_reducible rfl)
  try simp only [Act.put, List.setIfInBounds_toArray, List.set_cons_zero, List.set_cons_succ]
  refine wpAnyH_take (i := 3) (v := ?_) rfl (by kernel_rfl) (by kernel_rfl) (by kernel_rfl) (fun _ _ _ h => h) (Or.inl ⟨by rfl, ?_⟩) (by assumption) ?_
  rotate_left
  focus (intro w hSw; (try dsimp only at hSw); go_simp; try with_reducible rfl)
  try simp only [Act.put, List.setIfInBounds_toArray, List.set_cons_zero, List.set_cons_succ]
  refine wpAnyH_take (i := 4) (v := ?_) rfl (by kernel_rfl) (by kernel_rfl) (by kernel_rfl) (fun _ _ _ h => h) (Or.inl ⟨by rfl, ?_⟩) (by assumption) ?_
  rotate_left
  focus (intro w hSw; (try dsimp only at hSw); go_simp; try with_reducible rfl)
  try simp only [Act.put, List.setIfInBounds_toArray, List.set_cons_zero, List.set_cons_succ]
  refine wpAnyH_ready (rs := [5]) (by kernel_rfl) (by simp) ?_
  refine AllReadyH.cons (o := _) rfl (fun KK hKK => ?_) AllReadyH.nil
  go_simp
  (go_at_call 143; refine (l7Harm_any r _ X _ R2.drew (by omega) (by omega)).mono ?_; rintro e w8 ⟨⟨Y, rfl, hY⟩, R8, b8⟩; have z8 := b8.size; have K1_8 := K1_1.drew.belowR b8 hl1 (by omega); have K0_8 := K0.drew.belowR b8 hl0 (by omega); have g8 := g2.drew.trans (b8.mono (by simp only [World.size_alloc, World.size_drew]; omega)); have hC8 := K1_8.cell; have hF8 := K0_8.free; have hY8 := K0_8.cell)
  refine hKK.out _ _ ?_ (fun hSS => ?_)
  focus ((first | (refine ⟨?_, ?_, ?_⟩; all_goals first | (simp [hC8]; done) | (simp [hC]; done)) | (exact ⟨(((K1_8.far hne _).far hne _).far hne _).cell 0, (((K1_8.far hne _).far hne _).far hne _).cell 1, (((K1_8.far hne _).far hne _).far hne _).cell 2⟩)))
  try simp only [Act.put, List.setIfInBounds_toArray, List.set_cons_zero, List.set_cons_succ]
  refine wpAnyH_ready (rs := [6]) (by kernel_rfl) (by simp) ?_
  refine AllReadyH.cons (o := _) rfl (fun KK hKK => ?_) AllReadyH.nil
  go_simp
  refine hKK.out _ _ ?_ (fun hSS => ?_)
  focus ((first | (refine ⟨?_, ?_, ?_⟩; all_goals first | (simp [hC8]; done) | (simp [hC]; done)) | (exact ⟨(((K1_8.far hne _).far hne _).far hne _).cell 0, (((K1_8.far hne _).far hne _).far hne _).cell 1, (((K1_8.far hne _).far hne _).far hne _).cell 2⟩)))
  try simp only [Act.put, List.setIfInBounds_toArray, List.set_cons_zero, List.set_cons_succ]
  refine wpAnyH_take (i := 7) (v := ?_) rfl (by kernel_rfl) (by kernel_rfl) (by kernel_rfl) (fun _ _ _ h => h) (Or.inl ⟨by rfl, ?_⟩) (by assumption) ?_
  rotate_left
  focus (intro w hSw; (try dsimp only at hSw); go_simp; try with_reducible rfl)
  try simp only [Act.put, List.setIfInBounds_toArray, List.set_cons_zero, List.set_cons_succ]
  simp only [List.getElem_toArray, List.getElem_cons_succ, List.getElem_cons_zero, Act.put, List.setIfInBounds_toArray, List.set_cons_zero, List.set_cons_succ]
  refine wpAnyH_take (i := 8) (v := ?_) rfl (by kernel_rfl) (by kernel_rfl) (by kernel_rfl) (fun _ _ _ h => h) (Or.inl ⟨by rfl, ?_⟩) (by assumption) ?_
  rotate_left
  focus (intro w hSw; (try dsimp only at hSw); go_simp; try with_reducible rfl)
  try simp only [Act.put, List.setIfInBounds_toArray, List.set_cons_zero, List.set_cons_succ]
  simp only [List.getElem_toArray, List.getElem_cons_succ, List.getElem_cons_zero, Act.put, List.setIfInBounds_toArray, List.set_cons_zero, List.set_cons_succ]
  refine wpAnyH_take (i := 9) (v := ?_) rfl (by kernel_rfl) (by kernel_rfl) (by kernel_rfl) (fun _ _ _ h => h) (Or.inl ⟨by rfl, ?_⟩) (by assumption) ?_
  rotate_left
  focus (intro w hSw; (try dsimp only at hSw); go_simp; try with_reducible rfl)
  try simp only [Act.put, List.setIfInBounds_toArray, List.set_cons_zero, List.set_cons_succ]
  simp only [List.getElem_toArray, List.getElem_cons_succ, List.getElem_cons_zero, Act.put, List.setIfInBounds_toArray, List.set_cons_zero, List.set_cons_succ]
  refine wpAnyH_done (by kernel_rfl) ?_ _
  have Q := (((K0_8.set 0 (.int .i64 o)).set 1 (.int .i64 l)).set 2 (.int .i64 m)).cell
  have R8' := R8.mono (show _ ≤ M + 500 by omega)
  have R9 : Rd (((w8.setCell ⟨w.heap.size, 0, none⟩ (.int .i64 o)).setCell ⟨w.heap.size, 1, none⟩ (.int .i64 l)).setCell ⟨w.heap.size, 2, none⟩ (.int .i64 m)) r (M + 500) := Rd.far (Rd.far (Rd.far R8' hr _) hr _) hr _
  have g9 : BelowR w.heap.size r w (((w8.setCell ⟨w.heap.size, 0, none⟩ (.int .i64 o)).setCell ⟨w.heap.size, 1, none⟩ (.int .i64 l)).setCell ⟨w.heap.size, 2, none⟩ (.int .i64 m)) := BelowR.setCell (BelowR.setCell (BelowR.setCell g8 (.inr (Nat.le_refl _)) _) (.inr (Nat.le_refl _)) _) (.inr (Nat.le_refl _)) _
  clear hKK hC hC8 R2 R8
  go_wp2
  exact bodyPost_ret (v := .tuple #[.agg #[.int .i64 o, .int .i64 l, .int .i64 m], sv dict, sv X, sv Y]) (by simp [results, Tryz.results109, go_sem, Q]) rfl ⟨⟨o, l, m, dict, X, Y, rfl, hst, hdl, hX, hY⟩, R9, g9⟩
end Go.Proofs.YtoogaalbnnlloaaGreat
