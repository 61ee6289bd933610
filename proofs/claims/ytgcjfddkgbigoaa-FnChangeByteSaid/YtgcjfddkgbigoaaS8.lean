/- Walks: what is known behind the words of a text. -/
import Derived.Test.YtgcjfddkgbigoaaS6
import Derived.Test.YtgcjfddkgbigoaaKn
import Derived.Test.YtgcjfddkgbigoaaLast
namespace Go.Proofs.Ytgcjfddkgbigoaa
open Go.RowKit
set_option linter.unusedVariables false
set_option linter.unusedSimpArgs false
set_option maxRecDepth 100000
attribute [local go_sem high] run_index_S binOp_eql_S binOp_neq_S append_S toList_S size_S run_slice_S run_slice_from_S run_slice_to_S wrap64_byteAt wrap64_byteAt_mul bits_or_bytes convU conv1_some convU2 conv2_some
theorem learnGo_nil (n : Nat) (K : Kn) : learnGo n K [] = K := by cases n <;> simp [learnGo]
theorem learnGo_go (n : Nat) (K : Kn) (t : Bs) (ht : t ≠ []) : learnGo (n + 1) K t = learnGo n (K.after (K.find (K.longest t))) (t.drop (K.longest t).length) := by rw [learnGo, if_neg ht]
def Kn.rest (K : Kn) : Kn := { K with base := K.ps.length, last := -1 }
set_option maxHeartbeats 4000000 in
theorem l4Learn_any (K : Kn) (A : Option Addr) (cap : Nat) (d : Bs) (w : World) (hk : K.ok) (hs : Sl w A K.ps.length cap 2 (psV K.ps)) (hl : d.length ≤ 100000) (hf : d.all (litB K.l) = true) :
    Calls Try.prog 120 #[knV K A cap, .string ⟨d.toArray⟩] w (KnRes (K.learn d) w) := by
  have hck := K.cleared_ok hk
  go_enter Try.func120, Try.ntmps120
  go_wp2_with fail
  have hs1 : Sl ((w.alloc (.cells (knC K A cap) 127)).alloc (.cells knZ 127)) A K.ps.length cap 2 (psV K.ps) := (hs.alloc _).alloc _
  refine (l2Cleared_any K A cap _ hk hs1).mono ?_
  rintro e w2 ⟨A2, cap2, rfl, hown, hb2⟩
  have hz2' := hb2.size
  simp only [World.size_alloc] at hz2'
  have hK2 : Bk w2 w.heap.size 127 (knC K A cap) := (Bk.alloc (Bk.new _ _ _) _).below hb2 (by simp; omega)
  have hR2 : Bk w2 (w.heap.size + 1) 127 knZ := (Bk.newAt _ _ _ (by simp)).below hb2 (by simp)
  have p2 := own_mono (B' := w.heap.size + 2) hown (by simp)
  have g2 : Below w.heap.size w w2 := ((by repeat (first | (with_reducible exact Below.refl _ _) | (with_reducible assumption) | (with_reducible refine Below.drew ?_) | (with_reducible refine Below.alloc ?_ (by first | omega | (simp <;> omega)) _) | (with_reducible refine Below.setCell ?_ (by first | omega | (simp <;> omega)) _) | (with_reducible refine belowN ?_ _))) : Below w.heap.size w ((w.alloc (.cells (knC K A cap) 127)).alloc (.cells knZ 127))).trans (hb2.mono (by simp; omega))
  clear hb2 hown hs1
  have hX := hK2.cell
  have hF := hK2.free
  go_wp2_with fail
  have hK3 := kn_put hK2 K.cleared A2 cap2
  have hR3 := kn_far hR2 (by omega) K.cleared A2 cap2 (b := w.heap.size)
  have g3 := kn_below g2 (Nat.le_refl _) K.cleared A2 cap2
  have p3 := kn_own p2 (b := w.heap.size) (by omega) K.cleared A2 cap2
  have hz3 := kn_size w2 w.heap.size K.cleared A2 cap2
  clear hX hF hK2 hR2 p2 g2
  generalize ((((((w2.setCell ⟨w.heap.size, 0, none⟩ (.int .i64 K.cleared.o)).setCell ⟨w.heap.size, 1, none⟩ (.int .i64 K.cleared.l)).setCell ⟨w.heap.size, 2, none⟩ (.int .i64 K.cleared.m)).setCell ⟨w.heap.size, 3, none⟩ (.slice A2 K.cleared.ps.length cap2)).setCell ⟨w.heap.size, 4, none⟩ (.int .i64 K.cleared.base)).setCell ⟨w.heap.size, 5, none⟩ (.int .i64 K.cleared.last)) = w3 at *
  have hl0 : K.cleared.l = K.l := rfl
  have HG0 : Go.RowKit.Hid (K.learn d = (learnGo d.length K.cleared d).rest) := rfl
  clear hs hk
  generalize hGe : K.learn d = G at *
  have HGe := Go.Lib.hid hGe
  clear hGe
  generalize K.cleared = K0 at *
  go_loopw [1, 5] (fun a _ wr => ∃ (K' : Kn) (A' : Option Addr) (cap' n : Nat) (d' : Bs), a = .string ⟨d'.toArray⟩ ∧ K'.ok ∧ Go.RowKit.Hid (K'.l = K.l) ∧ d'.all (litB K.l) = true ∧ d'.length ≤ d.length ∧ d'.length ≤ n ∧ Go.RowKit.Hid (G = (learnGo n K' d').rest) ∧
    wr.ownsRow (w.heap.size + 2) 138 2 (.slice A' K'.ps.length cap') K'.ps.length (psV K'.ps) ∧ Bk wr w.heap.size 127 (knC K' A' cap') ∧ Bk wr (w.heap.size + 1) 127 knZ ∧ Below w.heap.size w wr) (fun a _ _ => strN a)
  case atStart => exact ⟨K0, A2, cap2, d.length, d, rfl, hck, hl0, hf, Nat.le_refl _, Nat.le_refl _, HG0, p3, hK3, hR3, g3⟩
  case round =>
    obtain ⟨K', A', cap', n, d', rfl, hk', HL', hf', hdl, hdn, HG, p4, hK4, hR4, g4⟩ := hrel
    clear hck hl0 HG0 p3 hK3 hR3 g3 hf
    have hX := hK4.cell
    have hwz4 : w.heap.size + 2 ≤ wr.heap.size := by have := hR4.lt; omega
    by_cases hne : d' = []
    · have hdd : decide (d' = []) = true := by simpa using hne
      have HE : Go.RowKit.Hid (G = K'.rest) := by
        have h := HG.out
        rw [hne, learnGo_nil] at h
        exact h
      clear hne
      have hF := hR4.free
      have hQ := hR4.cell
      go_wp2_with fail
      have hG := HE.out
      clear HG HE
      subst hG
      refine bodyPost_ret (v := knV K'.rest A' cap') (by simp [results, Try.results120, go_sem, hQ, Kn.rest]) rfl ⟨A', cap', rfl, ?_, (by repeat (first | (with_reducible exact Below.refl _ _) | (with_reducible assumption) | (with_reducible refine Below.drew ?_) | (with_reducible refine Below.alloc ?_ (by first | omega | (simp <;> omega)) _) | (with_reducible refine Below.setCell ?_ (by first | omega | (simp <;> omega)) _) | (with_reducible refine belowN ?_ _)))⟩
      refine own_mono (B := w.heap.size + 2) ?_ (by omega)
      iterate 6 refine ownsRow_setCell_below ?_ (by simp) _
      exact p4
    · obtain ⟨m, hm⟩ : ∃ m, n = m + 1 := ⟨n - 1, by cases d' with
        | nil => exact absurd rfl hne
        | cons x r => simp at hdn; omega⟩
      subst hm
      have hf2 : d'.all (litB K'.l) = true := by rw [HL'.out]; exact hf'
      have hfol := K'.find_fol hk' hne hf2
      obtain ⟨hfol, _, hc0⟩ := hfol
      have hlp := (K'.longest_prefix d').2
      have hlq := K'.longest_pos hne
      have hao := K'.after_ok hk' hfol
      have HL : Go.RowKit.Hid (∀ w, Sl w A' K'.ps.length cap' 2 (psV K'.ps) → Calls Try.prog 128 #[knV K' A' cap', .string ⟨d'.toArray⟩] w fun e w' => e = .returned (.string ⟨(K'.longest d').toArray⟩) ∧ Below w.heap.size w w') := fun w hs => l2Longest_any K' A' cap' d' w hk' hs hne (by omega)
      have hxl : (K'.longest d').length ≤ 100000 := by omega
      have HF : Go.RowKit.Hid (∀ w, Sl w A' K'.ps.length cap' 2 (psV K'.ps) → Calls Try.prog 130 #[knV K' A' cap', .string ⟨(K'.longest d').toArray⟩] w fun e w' => e = .returned (.int .i64 (K'.find (K'.longest d'))) ∧ Below w.heap.size w w') := fun w hs => l2Find_any K' A' cap' _ w hk' hs hxl
      have HA : Go.RowKit.Hid (∀ w, Sl w A' K'.ps.length cap' 2 (psV K'.ps) → Calls Try.prog 129 #[knV K' A' cap', .int .i64 (K'.find (K'.longest d'))] w (KnRes (K'.after (K'.find (K'.longest d'))) w)) := fun w hs => l2After_any K' A' cap' _ w hk' hs hfol
      have HN : Go.RowKit.Hid (G = (learnGo m (K'.after (K'.find (K'.longest d'))) (d'.drop (K'.longest d').length)).rest) := by show _ = _; rw [HG.out, learnGo_go m K' d' hne]
      have HL1 : Go.RowKit.Hid ((K'.after (K'.find (K'.longest d'))).l = K.l) := HL'.out
      have hdd : decide (d' = []) = false := by simpa using hne
      have hrl : (d'.drop (K'.longest d').length).length = d'.length - (K'.longest d').length := by simp
      have hrf : (d'.drop (K'.longest d').length).all (litB K.l) = true := all_drop _ _ _ hf'
      clear hne hfol hf2
      generalize K'.after (K'.find (K'.longest d')) = K1 at *
      generalize K'.find (K'.longest d') = c at *
      generalize K'.longest d' = x at *
      have HRL := Go.Lib.hid hrl
      clear hrl
      have hlp' : (x.length : Int) ≤ d'.length := by omega
      go_wp2_with fail
      refine (HL.out _ (Sl.own p4)).mono ?_
      rintro e w5 ⟨rfl, hb5⟩
      have hz5 := hb5.size
      have p5 := owns_keep p4 hb5
      have hK5 := hK4.below hb5 (by omega)
      have hR5 := hR4.below hb5 (by omega)
      have g5 := g4.trans (hb5.mono (by omega))
      clear hX hb5 p4 hK4 g4 hR4
      have hX0 := hK5.cell
      have HM : Go.RowKit.Hid (∀ w', Below w5.heap.size w5 w' → (w'.cell? ⟨w.heap.size, 0, none⟩ = some (.int .i64 K'.o) ∧ w'.cell? ⟨w.heap.size, 1, none⟩ = some (.int .i64 K'.l) ∧ w'.cell? ⟨w.heap.size, 2, none⟩ = some (.int .i64 K'.m) ∧ w'.cell? ⟨w.heap.size, 3, none⟩ = some (.slice A' K'.ps.length cap') ∧ w'.cell? ⟨w.heap.size, 4, none⟩ = some (.int .i64 K'.base) ∧ w'.cell? ⟨w.heap.size, 5, none⟩ = some (.int .i64 K'.last))) := fun w' h => ⟨(h.cell (p := ⟨_, _, _⟩) (by first | assumption | (simp only; omega) | omega)).trans (hX0 0), (h.cell (p := ⟨_, _, _⟩) (by first | assumption | (simp only; omega) | omega)).trans (hX0 1), (h.cell (p := ⟨_, _, _⟩) (by first | assumption | (simp only; omega) | omega)).trans (hX0 2), (h.cell (p := ⟨_, _, _⟩) (by first | assumption | (simp only; omega) | omega)).trans (hX0 3), (h.cell (p := ⟨_, _, _⟩) (by first | assumption | (simp only; omega) | omega)).trans (hX0 4), (h.cell (p := ⟨_, _, _⟩) (by first | assumption | (simp only; omega) | omega)).trans (hX0 5)⟩
      have hs5 := Sl.own p5
      clear hX0
      go_wp2_with fail
      refine wp_region_last 5 (fun w' => w'.cell? ⟨w.heap.size, 0, none⟩ = some (.int .i64 K'.o) ∧ w'.cell? ⟨w.heap.size, 1, none⟩ = some (.int .i64 K'.l) ∧ w'.cell? ⟨w.heap.size, 2, none⟩ = some (.int .i64 K'.m) ∧ w'.cell? ⟨w.heap.size, 3, none⟩ = some (.slice A' K'.ps.length cap') ∧ w'.cell? ⟨w.heap.size, 4, none⟩ = some (.int .i64 K'.base) ∧ w'.cell? ⟨w.heap.size, 5, none⟩ = some (.int .i64 K'.last)) (by kernel_rfl) (by kernel_rfl) (by first | (refine HM.out _ ?_; (repeat (first | (with_reducible exact Below.refl _ _) | (with_reducible assumption) | (with_reducible refine Below.drew ?_) | ((with_reducible refine Below.alloc ?_ ?_ _); rotate_left; focus (first | omega | (simp <;> omega))) | ((with_reducible refine Below.setCell ?_ ?_ _); rotate_left; focus (first | omega | (simp <;> omega))) | (with_reducible refine belowN ?_ _))); done) | go_keep) (fun hSS => ?_)
      simp only [List.take_succ_cons, List.take_zero]
      refine wpAnyH_take (i := 0) (v := ?_) rfl (by kernel_rfl) (by kernel_rfl) (by kernel_rfl) (fun _ _ _ h => h) (Or.inl ⟨by rfl, ?_⟩) (by assumption) ?_
      rotate_left
      focus (intro w hSw; (try dsimp only at hSw); go_simp; try with_reducible rfl)
      try simp only [Act.put, List.setIfInBounds_toArray, List.set_cons_zero, List.set_cons_succ]
      refine wpAnyH_take (i := 1) (v := ?_) rfl (by kernel_rfl) (by kernel_rfl) (by kernel_rfl) (fun _ _ _ h => h) (Or.inl ⟨by rfl, ?_⟩) (by assumption) ?_
      rotate_left
      focus (intro w hSw; (try dsimp only at hSw); go_simp; try with_reducible rfl)
      try simp only [Act.put, List.setIfInBounds_toArray, List.set_cons_zero, List.set_cons_succ]
      refine wpAnyH_take (i := 2) (v := ?_) rfl (by kernel_rfl) (by kernel_rfl) (by kernel_rfl) (fun _ _ _ h => h) (Or.inl ⟨by rfl, ?_⟩) (by assumption) ?_
      rotate_left
      focus (intro w hSw; (try dsimp only at hSw); go_simp; try with_reducible rfl)
      try simp only [Act.put, List.setIfInBounds_toArray, List.set_cons_zero, List.set_cons_succ]
      refine wpAnyH_ready (rs := [3]) (by kernel_rfl) (by simp) ?_
      refine AllReadyH.cons (o := _) rfl (fun KK hKK => ?_) AllReadyH.nil
      go_simp
      (go_at_call 130; refine (HF.out _ (hs5.below (by repeat (first | (with_reducible exact Below.refl _ _) | (with_reducible assumption) | (with_reducible refine Below.drew ?_) | (with_reducible refine Below.alloc ?_ (by first | omega | (simp <;> omega)) _) | (with_reducible refine Below.setCell ?_ (by first | omega | (simp <;> omega)) _) | (with_reducible refine belowN ?_ _) | (with_reducible refine Below.trans ?_ (Below.mono (by with_reducible assumption) (by first | omega | (simp <;> omega)))))))).mono ?_; rintro e w6 ⟨rfl, hb6⟩; have hb6 : Below w5.heap.size w5 w6 := below_undrew hb6; have hz6 := hb6.size; have g6 := g5.trans (hb6.mono (by omega)))
      refine hKK.out _ _ ?_ (fun hSS => ?_)
      focus (first | (refine HM.out _ ?_; (repeat (first | (with_reducible exact Below.refl _ _) | (with_reducible assumption) | (with_reducible refine Below.drew ?_) | ((with_reducible refine Below.alloc ?_ ?_ _); rotate_left; focus (first | omega | (simp <;> omega))) | ((with_reducible refine Below.setCell ?_ ?_ _); rotate_left; focus (first | omega | (simp <;> omega))) | (with_reducible refine belowN ?_ _))); done) | go_keep)
      try simp only [Act.put, List.setIfInBounds_toArray, List.set_cons_zero, List.set_cons_succ]
      refine wpAnyH_ready (rs := [4]) (by kernel_rfl) (by simp) ?_
      refine AllReadyH.cons (o := _) rfl (fun KK hKK => ?_) AllReadyH.nil
      go_simp
      (go_at_call 129; refine (HA.out _ (hs5.below (by repeat (first | (with_reducible exact Below.refl _ _) | (with_reducible assumption) | (with_reducible refine Below.drew ?_) | (with_reducible refine Below.alloc ?_ (by first | omega | (simp <;> omega)) _) | (with_reducible refine Below.setCell ?_ (by first | omega | (simp <;> omega)) _) | (with_reducible refine belowN ?_ _) | (with_reducible refine Below.trans ?_ (Below.mono (by with_reducible assumption) (by first | omega | (simp <;> omega)))))))).mono ?_; rintro e w7 ⟨A7, cap7, rfl, hown7, hb7⟩; have hz7 := hb7.size; have p7 := own_mono (B' := w.heap.size + 2) hown7 (by omega); have hK7 := (hK5.below hb6 (by omega)).below hb7 (by omega); have hR7 := (hR5.below hb6 (by omega)).below hb7 (by omega); have g7 := g6.trans (hb7.mono (by omega)); have hX7 := hK7.cell; have hF7 := hK7.free)
      refine hKK.out _ _ ?_ (fun hSS => ?_)
      focus (first | (refine HM.out _ ?_; (repeat (first | (with_reducible exact Below.refl _ _) | (with_reducible assumption) | (with_reducible refine Below.drew ?_) | ((with_reducible refine Below.alloc ?_ ?_ _); rotate_left; focus (first | omega | (simp <;> omega))) | ((with_reducible refine Below.setCell ?_ ?_ _); rotate_left; focus (first | omega | (simp <;> omega))) | (with_reducible refine belowN ?_ _))); done) | go_keep)
      try simp only [Act.put, List.setIfInBounds_toArray, List.set_cons_zero, List.set_cons_succ]
      refine wpAnyH_done (by kernel_rfl) ?_ _
      refine LastQ_normal ?_
      refine wpOp_step (o := _) rfl (fun KK hKK => ?_)
      go_simp
      refine hKK _ _ (NoPanic.normal ?_)
      try simp only [Act.put, List.setIfInBounds_toArray, List.set_cons_zero, List.set_cons_succ]
      all_goals
        clear hKK
        have hK8 := kn_put hK7 K1 A7 cap7
        have hR8 := kn_far hR7 (by omega) K1 A7 cap7 (b := w.heap.size)
        have g8 := kn_below g7 (Nat.le_refl _) K1 A7 cap7
        have p8 := kn_own p7 (b := w.heap.size) (by omega) K1 A7 cap7
        have hz8 := kn_size w7 w.heap.size K1 A7 cap7
        clear hX7 hF7 hK7 hR7 p7 g7 hown7
        generalize ((((((w7.setCell ⟨w.heap.size, 0, none⟩ (.int .i64 K1.o)).setCell ⟨w.heap.size, 1, none⟩ (.int .i64 K1.l)).setCell ⟨w.heap.size, 2, none⟩ (.int .i64 K1.m)).setCell ⟨w.heap.size, 3, none⟩ (.slice A7 K1.ps.length cap7)).setCell ⟨w.heap.size, 4, none⟩ (.int .i64 K1.base)).setCell ⟨w.heap.size, 5, none⟩ (.int .i64 K1.last)) = w8 at *
        go_wp2
        generalize d'.drop x.length = r at *
        go_roundw
        case rel => exact ⟨K1, A7, cap7, m, r, rfl, hao, HL1, hrf, by have := HRL.out; omega, by have := HRL.out; omega, HN, p8, hK8, hR8, g8⟩
        case measure => have := HRL.out; simp [strN]; omega
end Go.Proofs.Ytgcjfddkgbigoaa
