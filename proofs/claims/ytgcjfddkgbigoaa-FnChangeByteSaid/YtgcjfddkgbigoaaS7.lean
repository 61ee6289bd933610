/- Walks: the codes of the longest words. -/
import Derived.Test.YtgcjfddkgbigoaaS6
import Derived.Test.YtgcjfddkgbigoaaKn
namespace Go.Proofs.Ytgcjfddkgbigoaa
open Go.RowKit
set_option linter.unusedVariables false
set_option linter.unusedSimpArgs false
set_option maxRecDepth 100000
attribute [local go_sem high] run_index_S binOp_eql_S binOp_neq_S append_S toList_S size_S run_slice_S run_slice_from_S run_slice_to_S wrap64_byteAt wrap64_byteAt_mul bits_or_bytes convU conv1_some convU2 conv2_some
theorem greedyGo_length : ∀ (n : Nat) (K : Kn) (t : Bs), (greedyGo n K t).length ≤ 2 * t.length
  | 0, _, _ => by simp [greedyGo]
  | n + 1, K, t => by
    unfold greedyGo
    split
    · simp
    · rename_i hne
      have h1 := K.longest_pos hne
      have h2 := (K.longest_prefix t).2
      have hd : (t.drop (K.longest t).length).length = t.length - (K.longest t).length := by simp
      simp only
      split
      · have := greedyGo_length n (K.after (K.find (K.longest t))).cleared (t.drop (K.longest t).length)
        simp only [List.length_cons]; omega
      · have := greedyGo_length n (K.after (K.find (K.longest t))) (t.drop (K.longest t).length)
        simp only [List.length_cons]; omega
theorem greedy_length (K : Kn) (t : Bs) : (K.greedy t).length ≤ 2 * t.length + 2 := by
  have := greedyGo_length t.length K.cleared t
  unfold Kn.greedy; simp; omega
theorem greedyGo_nil (n : Nat) (K : Kn) : greedyGo n K [] = [] := by cases n <;> simp [greedyGo]
theorem greedyGo_clear (n : Nat) (K K1 : Kn) (t r : Bs) (c : Int) (ht : t ≠ []) (hc : K.find (K.longest t) = c) (hK : K.after c = K1) (hr : t.drop (K.longest t).length = r) (h : r ≠ [] ∧ K1.top < K1.nx ∧ K1.base < K1.ps.length) :
    greedyGo (n + 1) K t = c :: K1.cl :: greedyGo n K1.cleared r := by
  subst hc hK hr
  rw [greedyGo, if_neg ht]
  simp only
  rw [if_pos h]
  rfl
theorem greedyGo_go (n : Nat) (K K1 : Kn) (t r : Bs) (c : Int) (ht : t ≠ []) (hc : K.find (K.longest t) = c) (hK : K.after c = K1) (hr : t.drop (K.longest t).length = r) (h : ¬ (r ≠ [] ∧ K1.top < K1.nx ∧ K1.base < K1.ps.length)) :
    greedyGo (n + 1) K t = c :: greedyGo n K1 r := by
  subst hc hK hr
  rw [greedyGo, if_neg ht]
  simp only
  rw [if_neg h]
set_option maxHeartbeats 4000000 in
theorem l2Greedy_any (K : Kn) (A : Option Addr) (cap : Nat) (d : Bs) (w : World) (hk : K.ok) (hs : Sl w A K.ps.length cap 2 (psV K.ps)) (hl : d.length ≤ 100000) (hf : d.all (litB K.l) = true) :
    Calls Try.prog 126 #[knV K A cap, .string ⟨d.toArray⟩] w fun e w' => ∃ v, e = .returned v ∧ w'.ownsRow (w.heap.size + 1) 3 1 v (K.greedy d).length ((K.greedy d).map iv) ∧ Below w.heap.size w w' := by
  obtain ⟨i, hi, hz0, hz1, hz2⟩ := info_parts info_int
  have hp := hk.lm
  obtain ⟨hp1, hp2, hp3, hp4⟩ := hp
  have hpp := pow2_bd K.l hp1 hp2
  obtain ⟨hpp1, hpp2⟩ := hpp
  have hck := K.cleared_ok hk
  have hgl := greedy_length K d
  go_enter Try.func126, Try.ntmps126
  go_wp2_with fail
  refine (l1Clear_any _ _ _ _ hp1 hp2).mono ?_
  rintro e w1 ⟨rfl, hb1⟩
  have hz1' := hb1.size
  simp only [World.size_alloc] at hz1'
  have hK1 : Bk w1 w.heap.size 127 (knC K A cap) := (Bk.new _ _ _).below hb1 (by simp)
  have g1 : Below w.heap.size w w1 := ((by repeat (first | (with_reducible exact Below.refl _ _) | (with_reducible assumption) | (with_reducible refine Below.drew ?_) | (with_reducible refine Below.alloc ?_ (by first | omega | (simp <;> omega)) _) | (with_reducible refine Below.setCell ?_ (by first | omega | (simp <;> omega)) _) | (with_reducible refine belowN ?_ _))) : Below w.heap.size w (w.alloc (.cells (knC K A cap) 127))).trans (hb1.mono (by simp))
  clear hb1
  have hX := (hK1.alloc (.cells #[.int .i64 (pow2 K.l)] 3)).cell
  go_wp2_with fail
  have hs1 := (hs.below g1).alloc (.cells #[.int .i64 (pow2 K.l)] 3)
  have o1 : (w1.alloc (.cells #[.int .i64 (pow2 K.l)] 3)).ownsRow (w.heap.size + 1) 3 1 (.slice (some ⟨w1.heap.size, 0, none⟩) 1 1) 1 [.int .i64 (pow2 K.l)] := lit_row w1 #[.int .i64 (pow2 K.l)] rfl (by omega) (by unfold maxLen; omega)
  refine (l2Cleared_any K A cap _ hk hs1).mono ?_
  rintro e w2 ⟨A2, cap2, rfl, hown, hb2⟩
  have hz2' := hb2.size
  simp only [World.size_alloc] at hz2'
  have hK2 := (hK1.alloc _).below hb2 (by simp; omega)
  have o2 := owns_keep o1 hb2
  have p2 := own_mono (B' := w.heap.size + 1) hown (by simp; omega)
  have g2 : Below w.heap.size w w2 := (g1.alloc (by omega) _).trans (hb2.mono (by simp; omega))
  clear hb2 hown hX hK1 o1 hs1
  have hX := hK2.cell
  have hF := hK2.free
  go_wp2_with fail
  have hK3 := kn_put hK2 K.cleared A2 cap2
  have g3 := kn_below g2 (Nat.le_refl _) K.cleared A2 cap2
  have o3 := kn_own o2 (Nat.lt_succ_self _) K.cleared A2 cap2
  have p3 := kn_own p2 (Nat.lt_succ_self _) K.cleared A2 cap2
  have hz3 := kn_size w2 w.heap.size K.cleared A2 cap2
  clear hX hF hK2 o2 p2 g2
  generalize ((((((w2.setCell ⟨w.heap.size, 0, none⟩ (.int .i64 K.cleared.o)).setCell ⟨w.heap.size, 1, none⟩ (.int .i64 K.cleared.l)).setCell ⟨w.heap.size, 2, none⟩ (.int .i64 K.cleared.m)).setCell ⟨w.heap.size, 3, none⟩ (.slice A2 K.cleared.ps.length cap2)).setCell ⟨w.heap.size, 4, none⟩ (.int .i64 K.cleared.base)).setCell ⟨w.heap.size, 5, none⟩ (.int .i64 K.cleared.last)) = w3 at *
  have hl0 : K.cleared.l = K.l := rfl
  have hm0 : K.cleared.m = K.m := rfl
  have HG0 : Go.RowKit.Hid (K.greedy d = [pow2 K.l] ++ (greedyGo d.length K.cleared d ++ [pow2 K.l + 1])) := rfl
  have HGL : Go.RowKit.Hid ((K.greedy d).length ≤ 2 * d.length + 2) := hgl
  clear hgl hs hk
  have o3 : w3.ownsRow (w.heap.size + 1) 3 1 (.slice (some ⟨w1.heap.size, 0, none⟩) 1 1) [pow2 K.l].length ([pow2 K.l].map iv) := o3
  generalize hGe : K.greedy d = G at *
  have HGe := Go.Lib.hid hGe
  clear hGe
  generalize K.cleared = K0 at *
  go_loopw [1, 5, 6, 7] (fun a b _ _ wr => ∃ (K' : Kn) (A' : Option Addr) (cap' n : Nat) (out : List Int) (d' : Bs), a = .string ⟨d'.toArray⟩ ∧ K'.ok ∧ Go.RowKit.Hid (K'.l = K.l) ∧ d'.all (litB K.l) = true ∧ d'.length ≤ d.length ∧ d'.length ≤ n ∧ Go.RowKit.Hid (G = out ++ (greedyGo n K' d' ++ [pow2 K.l + 1])) ∧
    wr.ownsRow (w.heap.size + 1) 3 1 b out.length (out.map iv) ∧ wr.ownsRow (w.heap.size + 1) 138 2 (.slice A' K'.ps.length cap') K'.ps.length (psV K'.ps) ∧ Bk wr w.heap.size 127 (knC K' A' cap') ∧ Below w.heap.size w wr) (fun a _ _ _ _ => strN a)
  case atStart => exact ⟨K0, A2, cap2, d.length, [pow2 K.l], d, rfl, hck, hl0, hf, Nat.le_refl _, Nat.le_refl _, HG0, o3, p3, hK3, g3⟩
  case round =>
    obtain ⟨K', A', cap', n, out, d', rfl, hk', HL', hf', hdl, hdn, HG, o4, p4, hK4, g4⟩ := hrel
    clear hck hl0 hm0 HG0 o3 p3 hK3 g3 hf
    have hout : out.length ≤ 2 * d.length + 2 := by have h1 := congrArg List.length HG.out; have h2 := HGL.out; simp at h1; omega
    have hm1 : out.length + 1 ≤ maxLen := by unfold maxLen; omega
    have hm2 : (out.length + 1) * 8 ≤ 140737488355328 := by omega
    have hX := hK4.cell
    have hwz4 : w.heap.size + 1 ≤ wr.heap.size := by have := hK4.lt; omega
    by_cases hne : d' = []
    · have hdd : decide (d' = []) = true := by simpa using hne
      have HE : Go.RowKit.Hid (G = out ++ [pow2 K.l + 1]) := by
        have h := HG.out
        rw [hne, greedyGo_nil, List.nil_append] at h
        exact h
      have hq := hk'.lm
      obtain ⟨hq1, hq2, hq3, hq4⟩ := hq
      clear hne
      go_wp2_with fail
      refine (l1End_any _ _ _ _ hq1 hq2).mono ?_
      rintro e w5 ⟨rfl, hb5⟩
      have hz5 := hb5.size
      have o5 := owns_keep o4 hb5
      have g5 := g4.trans (hb5.mono (by have := g4.size; omega))
      go_wp2_with (at_builtin; go_must (refine wpList_append_own _ rfl _ _ 49 rfl (w.heap.size + 1) 3 i _ 1 8 Try.underlying49 hi hz0 hz1 hz2 rfl (by omega) _ _ _ rfl (o5.alloc _) ⟨w5.heap.size, 0, none⟩ 1 1 [.int .i64 (pow2 K'.l + 1)] rfl rfl ?_ ?_ hm1 hm2 ?_ ?_))
      try (case refine_1 => first | exact cell_one_new _ _ _ | omega | (simp <;> omega; done) | (simp [Value.oneCell']; done))
      try (case refine_2 => first | exact cell_one_new _ _ _ | omega | (simp <;> omega; done) | (simp [Value.oneCell']; done))
      try (case refine_3 => first | exact cell_one_new _ _ _ | omega | (simp <;> omega; done) | (simp [Value.oneCell']; done))
      intro v6 w6 o6 hg6 _
      have g6 := app_below g5 hg6 (by have := g4.size; omega) (fun k hk => by have := (o5.lt k hk).1; omega)
      go_wp2
      go_ret
      refine ⟨_, rfl, ?_, g6⟩
      have h1 : G.length = out.length + 1 := by rw [HE.out]; simp
      rw [HGe.out, h1, HE.out, List.map_append]
      rw [HL'.out] at o6
      exact o6
    · obtain ⟨m, hm⟩ : ∃ m, n = m + 1 := ⟨n - 1, by cases d' with
        | nil => exact absurd rfl hne
        | cons x r => simp at hdn; omega⟩
      subst hm
      have hf2 : d'.all (litB K'.l) = true := by rw [HL'.out]; exact hf'
      have hfol := K'.find_fol hk' hne hf2
      obtain ⟨hfol, _, hc0⟩ := hfol
      have hlp := (K'.longest_prefix d').2
      have hlq := K'.longest_pos hne
      have hao := K'.after_ok hk' hfol
      have HL : Go.RowKit.Hid (∀ w, Sl w A' K'.ps.length cap' 2 (psV K'.ps) → Calls Try.prog 128 #[knV K' A' cap', .string ⟨d'.toArray⟩] w fun e w' => e = .returned (.string ⟨(K'.longest d').toArray⟩) ∧ Below w.heap.size w w') := fun w hs => l2Longest_any K' A' cap' d' w hk' hs hne (by omega)
      have hxl : (K'.longest d').length ≤ 100000 := by omega
      have HF : Go.RowKit.Hid (∀ w, Sl w A' K'.ps.length cap' 2 (psV K'.ps) → Calls Try.prog 130 #[knV K' A' cap', .string ⟨(K'.longest d').toArray⟩] w fun e w' => e = .returned (.int .i64 (K'.find (K'.longest d'))) ∧ Below w.heap.size w w') := fun w hs => l2Find_any K' A' cap' _ w hk' hs hxl
      have HA : Go.RowKit.Hid (∀ w, Sl w A' K'.ps.length cap' 2 (psV K'.ps) → Calls Try.prog 129 #[knV K' A' cap', .int .i64 (K'.find (K'.longest d'))] w (KnRes (K'.after (K'.find (K'.longest d'))) w)) := fun w hs => l2After_any K' A' cap' _ w hk' hs hfol
      have HC : Go.RowKit.Hid (d'.drop (K'.longest d').length ≠ [] ∧ (K'.after (K'.find (K'.longest d'))).top < (K'.after (K'.find (K'.longest d'))).nx ∧ (K'.after (K'.find (K'.longest d'))).base < (K'.after (K'.find (K'.longest d'))).ps.length → greedyGo (m + 1) K' d' = K'.find (K'.longest d') :: (K'.after (K'.find (K'.longest d'))).cl :: greedyGo m (K'.after (K'.find (K'.longest d'))).cleared (d'.drop (K'.longest d').length)) := fun h => greedyGo_clear m K' _ d' _ _ hne rfl rfl rfl h
      have HN : Go.RowKit.Hid (¬ (d'.drop (K'.longest d').length ≠ [] ∧ (K'.after (K'.find (K'.longest d'))).top < (K'.after (K'.find (K'.longest d'))).nx ∧ (K'.after (K'.find (K'.longest d'))).base < (K'.after (K'.find (K'.longest d'))).ps.length) → greedyGo (m + 1) K' d' = K'.find (K'.longest d') :: greedyGo m (K'.after (K'.find (K'.longest d'))) (d'.drop (K'.longest d').length)) := fun h => greedyGo_go m K' _ d' _ _ hne rfl rfl rfl h
      have HL1 : Go.RowKit.Hid ((K'.after (K'.find (K'.longest d'))).l = K.l) := HL'.out
      have hdd : decide (d' = []) = false := by simpa using hne
      have hrl : (d'.drop (K'.longest d').length).length = d'.length - (K'.longest d').length := by simp
      have hrf : (d'.drop (K'.longest d').length).all (litB K.l) = true := all_drop _ _ _ hf'
      clear hne hfol hf2
      generalize K'.after (K'.find (K'.longest d')) = K1 at *
      generalize K'.find (K'.longest d') = c at *
      have hrx : ∀ x : Bs, d'.drop x.length = d'.drop x.length := fun _ => rfl
      generalize K'.longest d' = x at *
      have HRL := Go.Lib.hid hrl
      clear hrl hrx
      have hlp' : (x.length : Int) ≤ d'.length := by omega
      go_wp2_with fail
      refine (HL.out _ (Sl.own p4)).mono ?_
      rintro e w5 ⟨rfl, hb5⟩
      have hz5 := hb5.size
      have o5 := owns_keep o4 hb5
      have p5 := owns_keep p4 hb5
      have hK5 := hK4.below hb5 (by omega)
      have g5 := g4.trans (hb5.mono (by omega))
      clear hX hb5 o4 p4 hK4 g4
      have hX := hK5.cell
      go_wp2_with fail
      refine (HF.out _ (Sl.own p5)).mono ?_
      rintro e w6 ⟨rfl, hb6⟩
      have hz6 := hb6.size
      have o6 := owns_keep o5 hb6
      have p6 := owns_keep p5 hb6
      have hK6 := hK5.below hb6 (by omega)
      have g6 := g5.trans (hb6.mono (by omega))
      clear hX hb6 o5 p5 hK5 g5
      go_wp2_with (at_builtin; go_must (refine wpList_append_own _ rfl _ _ 49 rfl (w.heap.size + 1) 3 i _ 1 8 Try.underlying49 hi hz0 hz1 hz2 rfl (by omega) _ _ _ rfl (o6.alloc _) ⟨w6.heap.size, 0, none⟩ 1 1 [.int .i64 c] rfl rfl ?_ ?_ hm1 hm2 ?_ ?_))
      try (case refine_1 => first | exact cell_one_new _ _ _ | omega | (simp <;> omega; done) | (simp [Value.oneCell']; done))
      try (case refine_2 => first | exact cell_one_new _ _ _ | omega | (simp <;> omega; done) | (simp [Value.oneCell']; done))
      try (case refine_3 => first | exact cell_one_new _ _ _ | omega | (simp <;> omega; done) | (simp [Value.oneCell']; done))
      intro v7 w7 o7 hg7 _
      have g7 := app_below g6 hg7 (by omega) (fun k hk => by have := (o6.lt k hk).1; omega)
      have hK7 := (hK6.alloc (.cells #[.int .i64 c] 3)).grown hg7 (own_ne o6 hK6 (by decide))
      have p7 := (p6.alloc (.cells #[.int .i64 c] 3)).kept hg7 (own_own p6 o6 (by decide))
      have hz7 := app_size hg7
      clear hg7 o6 p6 hK6 g6
      have hX := hK7.cell
      go_wp2_with fail
      refine (HA.out _ (Sl.own p7)).mono ?_
      rintro e w8 ⟨A8, cap8, rfl, hown8, hb8⟩
      have hz8 := hb8.size
      have o8 := owns_keep o7 hb8
      have p8 := own_mono (B' := w.heap.size + 1) hown8 (by omega)
      have hK8 := hK7.below hb8 (by omega)
      have g8 := g7.trans (hb8.mono (by omega))
      clear hX hb8 o7 p7 hK7 g7 hown8
      have hX := hK8.cell
      have hF := hK8.free
      go_wp2_with fail
      generalize d'.drop x.length = r at *
      have hK9 := kn_put hK8 K1 A8 cap8
      have g9 := kn_below g8 (Nat.le_refl _) K1 A8 cap8
      have o9 := kn_own o8 (Nat.lt_succ_self _) K1 A8 cap8
      have p9 := kn_own p8 (Nat.lt_succ_self _) K1 A8 cap8
      have hz9 := kn_size w8 w.heap.size K1 A8 cap8
      clear hX hF hK8 o8 p8 g8
      generalize ((((((w8.setCell ⟨w.heap.size, 0, none⟩ (.int .i64 K1.o)).setCell ⟨w.heap.size, 1, none⟩ (.int .i64 K1.l)).setCell ⟨w.heap.size, 2, none⟩ (.int .i64 K1.m)).setCell ⟨w.heap.size, 3, none⟩ (.slice A8 K1.ps.length cap8)).setCell ⟨w.heap.size, 4, none⟩ (.int .i64 K1.base)).setCell ⟨w.heap.size, 5, none⟩ (.int .i64 K1.last)) = w9 at *
      have hG := box_class hK9.cell (by omega)
      have hq := hao.lm
      obtain ⟨hq1, hq2, hq3, hq4⟩ := hq
      have hm3 : out.length + 2 ≤ maxLen := by unfold maxLen; omega
      have HTOP : Go.RowKit.Hid (K1.top = pow2 K1.m - 1) := rfl
      have o9 : w9.ownsRow (w.heap.size + 1) 3 1 v7 (out ++ [c]).length ((out ++ [c]).map iv) := by
        rw [List.map_append, List.length_append]; exact o9
      by_cases hcc : r ≠ [] ∧ K1.top < K1.nx ∧ K1.base < K1.ps.length
      · have HE := Go.Lib.hid (HC.out hcc)
        have HGN : Go.RowKit.Hid (G = (out ++ [c, pow2 K1.l]) ++ (greedyGo m K1.cleared r ++ [pow2 K.l + 1])) := by
          show _ = _
          rw [HG.out, HE.out]; simp [Kn.cl]
        obtain ⟨h1, hr2, hr3⟩ := hcc
        have hr1 : decide (r = []) = false := by simpa using h1
        have hr2 : pow2 K1.m - 1 < K1.nx := hr2
        have hcl1 := K1.cleared_ok hao
        have HLC : Go.RowKit.Hid (K1.cleared.l = K.l) := HL1.out
        clear h1 HC HN
        refine wp_region_quiet_below (by kernel_rfl) (by kernel_rfl) ?_
        repeat (go_big_quiet_step ((first | (go_at_call 135; exact Calls.regrown_of (l2Next_any _ _ _ _ hao)) | (go_at_call 121; exact Calls.regrown_of (l1Last_any _ _ _ _ hq3 hq4)))))
        refine wpQuiet_nil ?_
        intro w10 hw2
        have hb10 : Below _ _ w10 := below_of_class hw2
        clear hw2
        have hz10 := hb10.size
        have o10 := owns_keep o9 hb10
        have p10 := owns_keep p9 hb10
        have hK10 := hK9.below hb10 (by omega)
        have g10 := g9.trans (hb10.mono (by omega))
        clear hb10 o9 p9 hK9 g9 hG
        have hX := hK10.cell
        go_wp2_with fail
        refine (l1Clear_any _ _ _ _ hq1 hq2).mono ?_
        rintro e w11 ⟨rfl, hb11⟩
        have hz11 := hb11.size
        have o11 := owns_keep o10 hb11
        have p11 := owns_keep p10 hb11
        have hK11 := hK10.below hb11 (by omega)
        have g11 := g10.trans (hb11.mono (by omega))
        clear hb11 hX o10 p10 hK10 g10
        have hm5 : (out ++ [c]).length + 1 ≤ maxLen := by rw [List.length_append]; exact hm3
        have hm6 : ((out ++ [c]).length + 1) * 8 ≤ 140737488355328 := by rw [List.length_append]; simp; omega
        go_wp2_with (at_builtin; go_must (refine wpList_append_own _ rfl _ _ 49 rfl (w.heap.size + 1) 3 i _ 1 8 Try.underlying49 hi hz0 hz1 hz2 rfl (by omega) _ _ _ rfl (o11.alloc _) ⟨w11.heap.size, 0, none⟩ 1 1 [.int .i64 (pow2 K1.l)] rfl rfl ?_ ?_ hm5 hm6 ?_ ?_))
        try (case refine_1 => first | exact cell_one_new _ _ _ | omega | (simp <;> omega; done) | (simp [Value.oneCell']; done))
        try (case refine_2 => first | exact cell_one_new _ _ _ | omega | (simp <;> omega; done) | (simp [Value.oneCell']; done))
        try (case refine_3 => first | exact cell_one_new _ _ _ | omega | (simp <;> omega; done) | (simp [Value.oneCell']; done))
        intro v12 w12 o12 hg12 _
        have g12 := app_below g11 hg12 (by omega) (fun k hk => by have := (o11.lt k hk).1; omega)
        have hK12 := (hK11.alloc (.cells #[.int .i64 (pow2 K1.l)] 3)).grown hg12 (own_ne o11 hK11 (by decide))
        have p12 := (p11.alloc (.cells #[.int .i64 (pow2 K1.l)] 3)).kept hg12 (own_own p11 o11 (by decide))
        have hz12 := app_size hg12
        clear hg12 o11 p11 hK11 g11
        have hX := hK12.cell
        go_wp2_with fail
        refine (l2Cleared_any K1 A8 cap8 _ hao (Sl.own p12)).mono ?_
        rintro e w13 ⟨A13, cap13, rfl, hown13, hb13⟩
        have hz13 := hb13.size
        have o13 := owns_keep o12 hb13
        have p13 := own_mono (B' := w.heap.size + 1) hown13 (by omega)
        have hK13 := hK12.below hb13 (by omega)
        have g13 := g12.trans (hb13.mono (by omega))
        clear hX hb13 o12 p12 hK12 g12 hown13
        have hX := hK13.cell
        have hF := hK13.free
        generalize K1.cleared = K2 at *
        go_wp2
        have hK14 := kn_put hK13 K2 A13 cap13
        have g14 := kn_below g13 (Nat.le_refl _) K2 A13 cap13
        have o14 := kn_own o13 (Nat.lt_succ_self _) K2 A13 cap13
        have p14 := kn_own p13 (Nat.lt_succ_self _) K2 A13 cap13
        have o14 : (((((((w13.setCell ⟨w.heap.size, 0, none⟩ (.int .i64 K2.o)).setCell ⟨w.heap.size, 1, none⟩ (.int .i64 K2.l)).setCell ⟨w.heap.size, 2, none⟩ (.int .i64 K2.m)).setCell ⟨w.heap.size, 3, none⟩ (.slice A13 K2.ps.length cap13)).setCell ⟨w.heap.size, 4, none⟩ (.int .i64 K2.base)).setCell ⟨w.heap.size, 5, none⟩ (.int .i64 K2.last))).ownsRow (w.heap.size + 1) 3 1 v12 (out ++ [c, pow2 K1.l]).length ((out ++ [c, pow2 K1.l]).map iv) := by
          rw [List.length_append, List.map_append]; exact o14
        go_roundw
        case rel => exact ⟨K2, A13, cap13, m, out ++ [c, pow2 K1.l], r, rfl, hcl1, HLC, hrf, by have := HRL.out; omega, by have := HRL.out; omega, HGN, o14, p14, hK14, g14⟩
        case measure => have := HRL.out; simp [strN]; omega
      · have HE := Go.Lib.hid (HN.out hcc)
        have HGN : Go.RowKit.Hid (G = (out ++ [c]) ++ (greedyGo m K1 r ++ [pow2 K.l + 1])) := by
          show _ = _
          rw [HG.out, HE.out]; simp
        have hcase : decide (r = []) = true ∨ (decide (r = []) = false ∧ ¬ pow2 K1.m - 1 < K1.nx) ∨ (decide (r = []) = false ∧ pow2 K1.m - 1 < K1.nx ∧ ¬ K1.base < K1.ps.length) := by
          by_cases h1 : r = []
          · left; simpa using h1
          · right
            have h1' : decide (r = []) = false := by simpa using h1
            by_cases h2 : K1.top < K1.nx
            · right; exact ⟨h1', h2, fun h3 => hcc ⟨h1, h2, h3⟩⟩
            · left; exact ⟨h1', h2⟩
        clear hcc HC HN
        rcases hcase with hr1 | ⟨hr1, hr2⟩ | ⟨hr1, hr2, hr3⟩
        all_goals
          refine wp_region_quiet_below (by kernel_rfl) (by kernel_rfl) ?_
          repeat (go_big_quiet_step ((first | (go_at_call 135; exact Calls.regrown_of (l2Next_any _ _ _ _ hao)) | (go_at_call 121; exact Calls.regrown_of (l1Last_any _ _ _ _ hq3 hq4)))))
          refine wpQuiet_nil ?_
          intro w10 hw2
          have hb10 : Below _ _ w10 := below_of_class hw2
          clear hw2
          have hz10 := hb10.size
          have o10 := owns_keep o9 hb10
          have p10 := owns_keep p9 hb10
          have hK10 := hK9.below hb10 (by omega)
          have g10 := g9.trans (hb10.mono (by omega))
          clear hb10 o9 p9 hK9 g9 hG
          go_wp2
          go_roundw
          case rel => exact ⟨K1, A8, cap8, m, out ++ [c], r, rfl, hao, HL1, hrf, by have := HRL.out; omega, by have := HRL.out; omega, HGN, o10, p10, hK10, g10⟩
          case measure => have := HRL.out; simp [strN]; omega
end Go.Proofs.Ytgcjfddkgbigoaa
