/- Walks: pieces that a law compares and marks. -/
import Derived.Test.YtoogaalbnnlloaaGreatGU2
namespace Go.Proofs.YtoogaalbnnlloaaGreat
open Go.RowKit
set_option linter.unusedVariables false
set_option linter.unusedSimpArgs false
set_option maxRecDepth 100000
attribute [local go_sem high] run_index_S binOp_eql_S binOp_neq_S append_S toList_S size_S run_slice_S run_slice_from_S run_slice_to_S wrap64_byteAt wrap64_byteAt_mul bits_or_bytes convU conv1_some convU2 conv2_some
theorem eqPiece_same (a : Int) (b : Bs) (w : World) :
    Calls Tryz.prog 70 #[.agg #[.int .i64 a, .string ⟨b.toArray⟩], .agg #[.int .i64 a, .string ⟨b.toArray⟩]] w fun e w' => e = .returned (.bool true) ∧ Below w.heap.size w w' := by
  go_enter Tryz.func70, Tryz.ntmps70
  go_wp2
  go_ret
  exact ⟨rfl, (by repeat (first | (with_reducible exact Below.refl _ _) | (with_reducible assumption) | (with_reducible refine Below.drew ?_) | (with_reducible refine Below.alloc ?_ (by first | omega | (simp <;> omega)) _) | (with_reducible refine Below.setCell ?_ (by first | omega | (simp <;> omega)) _) | (with_reducible refine belowN ?_ _)))⟩
theorem Sl.pcR {w : World} {A : Option Addr} {ps : List Pc} {cap : Nat} (h : Sl w A ps.length cap 2 (pcsV ps)) {k : Nat} (hk : k < ps.length) : ∃ g off, A = some ⟨g, off, none⟩ ∧ g < w.heap.size ∧
    w.cell? ⟨g, off + k * 2, none⟩ = some (.int .i64 ps[k].1) ∧ w.cell? ⟨g, off + k * 2 + 1, none⟩ = some (.string ⟨ps[k].2.toArray⟩) := by
  obtain ⟨g, off, e, hg, hc⟩ := Sl.cellK h hk
  have hcs := pcsV_at ps k hk
  exact ⟨g, off, e, hg, hc 0 _ hcs.1, hc 1 _ hcs.2⟩
set_option maxHeartbeats 1000000 in
theorem eqPieceS_same (ps : List Pc) (A B : Option Addr) (ca cb : Nat) (w : World) (ha : Sl w A ps.length ca 2 (pcsV ps)) (hb : Sl w B ps.length cb 2 (pcsV ps)) (hn : ps.length ≤ 9000000) :
    Calls Tryz.prog 22 #[.slice A ps.length ca, .slice B ps.length cb] w fun e w' => e = .returned (.bool true) ∧ Below w.heap.size w w' := by
  have h1 := ha.1
  have h2 := hb.1
  have HA : Go.RowKit.Hid (∀ wr, Below w.heap.size w wr → Sl wr A ps.length ca 2 (pcsV ps)) := fun wr h => ha.below h
  have HB : Go.RowKit.Hid (∀ wr, Below w.heap.size w wr → Sl wr B ps.length cb 2 (pcsV ps)) := fun wr h => hb.below h
  clear ha hb
  go_enter Tryz.func22, Tryz.ntmps22
  go_wp2
  go_loopw [5] (fun a wr => ∃ k : Nat, k ≤ ps.length ∧ a = .int .i64 (k : Int) ∧ Below w.heap.size w wr) (fun a _ => ps.length - (intOf a).toNat)
  case atStart => exact ⟨0, by omega, rfl, Below.refl _ _⟩
  case round =>
    obtain ⟨k, hk, rfl, hbw⟩ := hrel
    have hz := hbw.size
    by_cases hlt : k < ps.length
    · have h1 : (k : Int) < ps.length := by omega
      obtain ⟨g, off, rfl, hg, c0, c1⟩ := (HA.out wr hbw).pcR hlt
      obtain ⟨g2, off2, rfl, hg2, d0, d1⟩ := (HB.out wr hbw).pcR hlt
      generalize ps[k].1 = a at *
      generalize ps[k].2 = b at *
      have C0 := fun d os => cell_regrown c0 d os
      have C1 := fun d os => cell_regrown c1 d os
      have D0 := fun d os => cell_regrown d0 d os
      have D1 := fun d os => cell_regrown d1 d os
      go_wp2_with fail
      refine wp_region_quiet_below (by kernel_rfl) (by kernel_rfl) ?_
      repeat (go_big_quiet_step ((go_at_call 70; exact Calls.regrown_of (eqPiece_same a b _))))
      refine wpQuiet_nil ?_
      intro w3 hw2
      have hb3 : Below _ _ w3 := below_of_class hw2
      clear hw2
      have g3 := hbw.trans (hb3.mono hz)
      go_wp2
      go_roundw
      case rel => exact ⟨k + 1, by omega, by go_num, g3⟩
      case measure => simp [intOf]; omega
    · have h1 : ¬ (k : Int) < ps.length := by omega
      go_wp2
      go_ret
      exact ⟨rfl, hbw⟩
/-- The digits of a number. -/
def dgs (k : Nat) : Bs := if h : k = 0 then [] else dgs (k / 10) ++ [UInt8.ofNat (48 + k % 10)]
theorem dgs_pos {k : Nat} (h : 0 < k) : dgs k = dgs (k / 10) ++ [UInt8.ofNat (48 + k % 10)] := by rw [dgs, dif_neg (by omega)]
theorem dgs_zero : dgs 0 = [] := by rw [dgs, dif_pos rfl]
def mkT (k : Nat) : Bs := 109 :: dgs k
theorem dgs_len (k : Nat) : (dgs k).length ≤ k := by
  induction k using Nat.strongRecOn with
  | _ k ih =>
    by_cases h : k = 0
    · subst h; rw [dgs_zero]; simp
    · rw [dgs_pos (by omega)]
      have := ih (k / 10) (by omega)
      simp; omega
set_option maxHeartbeats 1000000 in
theorem markText_any (k : Nat) (w : World) (h0 : 0 < k) (h1 : k ≤ 100000) :
    Calls Tryz.prog 71 #[.int .i64 (k : Int)] w fun e w' => e = .returned (sv (mkT k)) ∧ Below w.heap.size w w' := by
  have HG0 : Go.RowKit.Hid (dgs k = dgs k ++ []) := by show _ = _; simp
  have HT : Go.RowKit.Hid (∀ o, dgs k = o → sv (109 :: o) = sv (mkT k)) := fun o h => by unfold mkT; rw [h]
  obtain ⟨G, hG⟩ : ∃ G, dgs k = G := ⟨_, rfl⟩
  obtain ⟨R, hR⟩ : ∃ R, mkT k = R := ⟨_, rfl⟩
  rw [hR]
  rw [hG, hR] at HT
  have HG1 : Go.RowKit.Hid (G = dgs k ++ []) := by show _ = _; rw [← hG]; simp
  clear HG0 hG hR
  have hk0 : ¬ (k : Int) ≤ 0 := by omega
  go_enter Tryz.func71, Tryz.ntmps71
  go_wp2
  go_loopw [0, 3] (fun a b wr => ∃ (j : Nat) (X : Bs), a = .int .i64 (j : Int) ∧ b = sv X ∧ j + X.length ≤ k ∧ Go.RowKit.Hid (G = dgs j ++ X) ∧ Below w.heap.size w wr) (fun a _ _ => (intOf a).toNat)
  case atStart => exact ⟨k, [], rfl, rfl, by simp, HG1, (by repeat (first | (with_reducible exact Below.refl _ _) | (with_reducible assumption) | (with_reducible refine Below.drew ?_) | (with_reducible refine Below.alloc ?_ (by first | omega | (simp <;> omega)) _) | (with_reducible refine Below.setCell ?_ (by first | omega | (simp <;> omega)) _) | (with_reducible refine belowN ?_ _)))⟩
  case round =>
    obtain ⟨j, X, rfl, rfl, hj, HG, hb⟩ := hrel
    have hz := hb.size
    by_cases hlt : 0 < j
    · have hji : (0 : Int) < (j : Int) := by omega
      have HG2 : Go.RowKit.Hid (G = dgs (j / 10) ++ ((48 + UInt8.ofNat (j % 10)) :: X)) := by show _ = _; rw [HG.out, dgs_pos hlt, show UInt8.ofNat (48 + j % 10) = 48 + UInt8.ofNat (j % 10) by simp [UInt8.ofNat_add]]; simp
      have hm : (j : Int).tmod 10 = ((j % 10 : Nat) : Int) := by rw [Int.tmod_eq_emod_of_nonneg (by omega)]; omega
      have hq : (j : Int).tdiv 10 = ((j / 10 : Nat) : Int) := by rw [Int.tdiv_eq_ediv_of_nonneg (by omega)]; omega
      have hw8 : IntKind.u8.wrap ((48 : Int) + ((j % 10 : Nat) : Int)) = (48 : Int) + ((j % 10 : Nat) : Int) := IntWalk.u8_in _ ⟨by omega, by omega⟩
      have hcl : ¬ 9223372036854775807 < 1 + X.length := by omega
      go_wp2
      go_roundw
      case rel => exact ⟨j / 10, (48 + UInt8.ofNat (j % 10)) :: X, by first | simp | (congr 1; omega), by first | rfl | simp, by simp; omega, HG2, (by repeat (first | (with_reducible exact Below.refl _ _) | (with_reducible assumption) | (with_reducible refine Below.drew ?_) | (with_reducible refine Below.alloc ?_ (by first | omega | (simp <;> omega)) _) | (with_reducible refine Below.setCell ?_ (by first | omega | (simp <;> omega)) _) | (with_reducible refine belowN ?_ _)))⟩
      case measure => simp [intOf]; omega
    · have hji : ¬ (0 : Int) < (j : Int) := by omega
      have hj0 : j = 0 := by omega
      subst hj0
      have hR := HT.out X (by rw [HG.out, dgs_zero]; rfl)
      have hcl : ¬ 9223372036854775807 < 1 + X.length := by omega
      go_wp2
      go_ret
      exact ⟨by rw [← hR]; simp, hb⟩
/-- The marks of n pieces, from k on. -/
def mkV (k n : Nat) : List Value := (List.range n).flatMap fun i => [Value.int .i64 ((k + 2 * i : Nat) : Int), sv (mkT (k + 2 * i + 1))]
theorem mkV_length (k n : Nat) : (mkV k n).length = n * 2 := by
  induction n with
  | zero => rfl
  | succ n ih => unfold mkV at *; rw [List.range_succ, List.flatMap_append, List.length_append, ih]; simp; omega
theorem mkV_snoc (k n : Nat) : mkV k (n + 1) = mkV k n ++ [Value.int .i64 ((k + 2 * n : Nat) : Int), sv (mkT (k + 2 * n + 1))] := by
  unfold mkV; rw [List.range_succ, List.flatMap_append]; simp
theorem mkV_at (k n i : Nat) (h : i < n) : (mkV k n)[i * 2 + 0]? = some (.int .i64 ((k + 2 * i : Nat) : Int)) ∧ (mkV k n)[i * 2 + 1]? = some (sv (mkT (k + 2 * i + 1))) := by
  induction n with
  | zero => omega
  | succ n ih =>
    rw [mkV_snoc]
    by_cases hi : i < n
    · rw [List.getElem?_append_left (by rw [mkV_length]; omega), List.getElem?_append_left (by rw [mkV_length]; omega)]
      exact ih hi
    · have e : i = n := by omega
      subst e
      rw [List.getElem?_append_right (by rw [mkV_length]; omega), List.getElem?_append_right (by rw [mkV_length]; omega), mkV_length]
      simp
/-- The first j pieces are marked. -/
def mrkC (ps : List Pc) (k j : Nat) : List Value := mkV k j ++ (pcsV ps).drop (j * 2)
theorem mrkC_zero (ps : List Pc) (k : Nat) : mrkC ps k 0 = pcsV ps := by simp [mrkC, mkV]
theorem mrkC_full (ps : List Pc) (k : Nat) : mrkC ps k ps.length = mkV k ps.length := by
  unfold mrkC; rw [List.drop_of_length_le (by rw [pcsV_length]; omega)]; simp
theorem mrkC_get (ps : List Pc) (k j : Nat) (h : j < ps.length) : ∃ u v, (mrkC ps k j)[j * 2 + 0]? = some u ∧ (mrkC ps k j)[j * 2 + 1]? = some v := by
  unfold mrkC
  rw [List.getElem?_append_right (by rw [mkV_length]; omega), List.getElem?_append_right (by rw [mkV_length]; omega), mkV_length, List.getElem?_drop, List.getElem?_drop]
  have := pcsV_at ps j h
  rw [show j * 2 + (j * 2 + 0 - j * 2) = j * 2 + 0 by omega, show j * 2 + (j * 2 + 1 - j * 2) = j * 2 + 1 by omega]
  exact ⟨_, _, this.1, this.2⟩
theorem mrkC_set (ps : List Pc) (k j : Nat) (h : j < ps.length) : ((mrkC ps k j).set (j * 2) (.int .i64 ((k + 2 * j : Nat) : Int))).set (j * 2 + 1) (sv (mkT (k + 2 * j + 1))) = mrkC ps k (j + 1) := by
  unfold mrkC
  have e : (mkV k j).length = j * 2 := mkV_length k j
  have hl := pcsV_length ps
  rw [List.set_append_right _ _ (by omega), e, Nat.sub_self, List.drop_eq_getElem_cons (show j * 2 < (pcsV ps).length by omega), List.drop_eq_getElem_cons (show j * 2 + 1 < (pcsV ps).length by omega), List.set_cons_zero,
    List.set_append_right _ _ (by omega), e, show j * 2 + 1 - j * 2 = 1 by omega, mkV_snoc, List.append_assoc, show (j + 1) * 2 = j * 2 + 1 + 1 by omega]
  rfl
set_option maxHeartbeats 2000000 in
theorem markPieceS_any (ps : List Pc) (k : Nat) (A : Option Addr) (cap B : Nat) (w : World) (ho : w.ownsRow B 33 2 (.slice A ps.length cap) ps.length (pcsV ps)) (hB : B ≤ w.heap.size) (hl : ps.length ≤ 1000) (hk : k ≤ 1000) :
    Calls Tryz.prog 23 #[.slice A ps.length cap, .int .i64 (k : Int)] w fun e w' => e = .returned (.int .i64 ((k + 2 * ps.length : Nat) : Int)) ∧ w'.ownsRow B 33 2 (.slice A ps.length cap) ps.length (mkV k ps.length) ∧ Below B w w' := by
  go_enter Tryz.func23, Tryz.ntmps23
  go_wp2
  go_loopw [1, 5] (fun a i wr => ∃ j : Nat, a = .int .i64 ((k + 2 * j : Nat) : Int) ∧ i = .int .i64 (j : Int) ∧ j ≤ ps.length ∧ wr.ownsRow B 33 2 (.slice A ps.length cap) ps.length (mrkC ps k j) ∧ Below B w wr) (fun _ i _ => ps.length - (intOf i).toNat)
  case atStart => exact ⟨0, by simp, rfl, by omega, by rw [mrkC_zero]; exact ho, Below.refl _ _⟩
  case round =>
    obtain ⟨j, rfl, rfl, hj, hown, hb⟩ := hrel
    have hz := hb.size
    by_cases hlt : j < ps.length
    · have hji : (j : Int) < ps.length := by omega
      obtain ⟨q, rfl, hq1, hq2⟩ := own_pos hown (by omega)
      obtain ⟨u, v, hu, hv⟩ := mrkC_get ps k j hlt
      have HSE := Go.Lib.hid (mrkC_set ps k j hlt)
      have c0 := (hown.cellAt (j * 2) (by omega)).trans hu
      have f0 := hown.frozenAt (j * 2)
      obtain ⟨kk, hkk⟩ : ∃ kk : Nat, k + 2 * j = kk := ⟨_, rfl⟩
      rw [hkk] at HSE
      have hkb : kk ≤ 3000 := by omega
      have o1 := (hown.stored (j * 2) (.int .i64 (kk : Int))).1
      have b1 : Below B w (wr.setCell ⟨q, j * 2, none⟩ (.int .i64 (kk : Int))) := hb.setCell hq1 _
      have cT := fun w => markText_any (kk + 1) w (by omega) (by omega)
      have hkk1 : ((kk + 1 : Nat) : Int) = (kk : Int) + 1 := by omega
      rw [hkk1] at cT
      rw [hkk]
      have hsz : wr.heap.size = (wr.setCell ⟨q, j * 2, none⟩ (.int .i64 (kk : Int))).heap.size := by simp
      have HEND : Go.RowKit.Hid (((k + 2 * (j + 1) : Nat) : Int) = (kk : Int) + 2) := by show _ = _; omega
      go_upto_region 5 with (fail)
      generalize wr.setCell ⟨q, j * 2, none⟩ (.int .i64 (kk : Int)) = W at *
      clear hown hb c0 f0 hu
      go_wp2_with fail
      refine (cT _).mono ?_
      rintro e w3 ⟨rfl, hb3⟩
      have hz3 := hb3.size
      have o3 := owns_keep o1 hb3
      have b3 := b1.trans (hb3.mono (by omega))
      have hv2 : ((mrkC ps k j).set (j * 2) (.int .i64 (kk : Int)))[j * 2 + 1]? = some v := by rw [List.getElem?_set_ne (by omega)]; exact hv
      have c1 := (o3.cellAt (j * 2 + 1) (by omega)).trans hv2
      have f1 := o3.frozenAt (j * 2 + 1)
      have o4 := (o3.stored (j * 2 + 1) (sv (mkT (kk + 1)))).1
      rw [HSE.out] at o4
      have b4 : Below B w (w3.setCell ⟨q, j * 2 + 1, none⟩ (sv (mkT (kk + 1)))) := b3.setCell hq1 _
      have HH := Go.Lib.hid (And.intro o4 b4)
      clear hb3 o1 o3 o4 b1 b3 b4 hv hv2 cT
      go_wp2
      go_roundw
      case rel => exact ⟨j + 1, (by rw [HEND.out]; go_num), by go_num, by omega, HH.out.1, HH.out.2⟩
      case measure => simp [intOf]; omega
    · have hji : ¬ (j : Int) < ps.length := by omega
      have e : j = ps.length := by omega
      subst e
      rw [mrkC_full] at hown
      go_wp2
      go_ret
      exact ⟨rfl, hown, hb⟩
set_option maxHeartbeats 1000000 in
theorem heldPieceS_any (n k : Nat) (A : Option Addr) (cap : Nat) (w : World) (hs : Sl w A n cap 2 (mkV k n)) (hn : n ≤ 1000) (hk : k ≤ 1000) :
    Calls Tryz.prog 24 #[.slice A n cap, .int .i64 (k : Int)] w fun e w' => e = .returned (.int .i64 ((k + 2 * n : Nat) : Int)) ∧ Below w.heap.size w w' := by
  have hcap := hs.1
  have hcap2 := hs.2.1
  have HS : Go.RowKit.Hid (∀ wr, Below w.heap.size w wr → Sl wr A n cap 2 (mkV k n)) := fun wr h => hs.below h
  clear hs
  go_enter Tryz.func24, Tryz.ntmps24
  go_wp2
  go_loopw [1, 5] (fun a i wr => ∃ j : Nat, a = .int .i64 ((k + 2 * j : Nat) : Int) ∧ i = .int .i64 (j : Int) ∧ j ≤ n ∧ Below w.heap.size w wr) (fun _ i _ => n - (intOf i).toNat)
  case atStart => exact ⟨0, by simp, rfl, by omega, Below.refl _ _⟩
  case round =>
    obtain ⟨j, rfl, rfl, hj, hb⟩ := hrel
    have hz := hb.size
    by_cases hlt : j < n
    · have hji : (j : Int) < n := by omega
      obtain ⟨g, off, rfl, hg, hc⟩ := Sl.cellK (HS.out wr hb) hlt
      have hcs := mkV_at k n j hlt
      have c0 := hc 0 _ hcs.1
      have c1 := hc 1 _ hcs.2
      simp only [Nat.add_zero] at c0 c1
      obtain ⟨kk, hkk⟩ : ∃ kk : Nat, k + 2 * j = kk := ⟨_, rfl⟩
      rw [hkk] at c0 c1
      have hkb : kk ≤ 3000 := by omega
      have cT := fun w => markText_any (kk + 1) w (by omega) (by omega)
      have hkk1 : ((kk + 1 : Nat) : Int) = (kk : Int) + 1 := by omega
      rw [hkk1] at cT
      rw [hkk]
      have HEND : Go.RowKit.Hid (((k + 2 * (j + 1) : Nat) : Int) = (kk : Int) + 2) := by show _ = _; omega
      have C1 := fun d os => cell_regrown c1 d os
      generalize mkT (kk + 1) = T at *
      go_wp2_with fail
      refine wp_region_quiet_below (by kernel_rfl) (by kernel_rfl) ?_
      repeat (go_big_quiet_step ((go_at_call 71; exact Calls.regrown_of (cT _))))
      refine wpQuiet_nil ?_
      intro w3 hw2
      have hb3 : Below _ _ w3 := below_of_class hw2
      clear hw2
      have g3 := hb.trans (hb3.mono hz)
      go_wp2
      go_roundw
      case rel => exact ⟨j + 1, (by rw [HEND.out]; go_num), by go_num, by omega, g3⟩
      case measure => simp [intOf]; omega
    · have hji : ¬ (j : Int) < n := by omega
      have e : j = n := by omega
      subst e
      go_wp2
      go_ret
      exact ⟨rfl, hb⟩
end Go.Proofs.YtoogaalbnnlloaaGreat
