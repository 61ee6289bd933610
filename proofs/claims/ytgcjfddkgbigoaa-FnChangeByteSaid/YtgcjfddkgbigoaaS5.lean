/- Walks: what is known after a code. -/
import Derived.Test.YtgcjfddkgbigoaaS4
import Derived.Test.YtgcjfddkgbigoaaAp
import Derived.Test.YtgcjfddkgbigoaaLast
namespace Go.Proofs.Ytgcjfddkgbigoaa
open Go.RowKit
set_option linter.unusedVariables false
attribute [local go_sem high] run_index_S binOp_eql_S binOp_neq_S append_S toList_S size_S run_slice_S run_slice_from_S run_slice_to_S wrap64_byteAt wrap64_byteAt_mul bits_or_bytes convU conv1_some convU2 conv2_some
theorem info_pair : (Try.prog.info? 138).map (fun i => (i.zero, i.size, i.bytes)) = some (some (.agg #[.int .i64 0, .int .i64 0]), 2, 16) := by kernel_rfl
/-- It returns what is known, its pairs in a row of its own. -/
def KnRes (K : Kn) (w : World) (e : Ending) (w' : World) : Prop := ∃ A cap, e = .returned (knV K A cap) ∧ w'.ownsRow w.heap.size 138 2 (.slice A K.ps.length cap) K.ps.length (psV K.ps) ∧ Below w.heap.size w w'
abbrev knZ : Array Value := #[.int .i64 0, .int .i64 0, .int .i64 0, .slice none 0 0, .int .i64 0, .int .i64 0]
theorem Sl.cut {w : World} {A : Option Addr} {n cap size k : Nat} {cs : List Value} (h : Sl w A n cap size cs) (hk : k ≤ n) : Sl w A k cap size (cs.take (k * size)) := by
  obtain ⟨h1, h2, h3, h4⟩ := h
  refine ⟨by omega, h2, ?_, fun h0 => ?_⟩
  · rw [List.length_take, h3]
    have : k * size ≤ n * size := Nat.mul_le_mul_right _ hk
    omega
  · obtain ⟨g, off, hA, hg, hc⟩ := h4 (by omega)
    refine ⟨g, off, hA, hg, fun j u hu => hc j u ?_⟩
    rw [List.getElem?_take] at hu
    split at hu
    · exact hu
    · cases hu
set_option maxRecDepth 100000 in
set_option maxHeartbeats 2000000 in
theorem l2Cleared_any (K : Kn) (A : Option Addr) (cap : Nat) (w : World) (hk : K.ok) (hs : Sl w A K.ps.length cap 2 (psV K.ps)) :
    Calls Try.prog 127 #[knV K A cap] w (KnRes K.cleared w) := by
  obtain ⟨i, hi, hz0, hz1, hz2⟩ := info_parts info_pair
  have hb0 := hk.base0
  have hb1 := hk.base1
  have hbd := hk.bd
  have hcap := hs.1
  have hb2 : K.base ≤ cap := by omega
  have hn := (Int.toNat_of_nonneg hb0)
  have hcb : ((K.base.toNat : Nat) : Int) = K.base := hn
  have HB := Go.Lib.hid hcb
  clear hn hcb
  go_enter Try.func127, Try.ntmps127
  go_wp2_with fail
  have hX0 : ∀ i, ((w.alloc (.cells (knC K A cap) 127)).alloc (.cells knZ 127)).cell? ⟨w.heap.size, i, none⟩ = (knC K A cap)[i]? := box_past (box_new _ _ _) (by simp) _
  have hX1 : ∀ i, ((w.alloc (.cells (knC K A cap) 127)).alloc (.cells knZ 127)).cell? ⟨w.heap.size + 1, i, none⟩ = knZ[i]? := by simp
  have hF1 : ∀ i, ((w.alloc (.cells (knC K A cap) 127)).alloc (.cells knZ 127)).frozen? ⟨w.heap.size + 1, i, none⟩ = false := by simp
  have hWs : w.heap.size + 1 < ((w.alloc (.cells (knC K A cap) 127)).alloc (.cells knZ 127)).heap.size := by simp
  have hWb : Below w.heap.size w ((w.alloc (.cells (knC K A cap) 127)).alloc (.cells knZ 127)) := (by repeat (first | (with_reducible exact Below.refl _ _) | (with_reducible assumption) | (with_reducible refine Below.drew ?_) | (with_reducible refine Below.alloc ?_ (by first | omega | (simp <;> omega)) _) | (with_reducible refine Below.setCell ?_ (by first | omega | (simp <;> omega)) _) | (with_reducible refine belowN ?_ _)))
  generalize (w.alloc (.cells (knC K A cap) 127)).alloc (.cells knZ 127) = W at *
  have hB0 : w.heap.size < W.heap.size := by omega
  have hsW := (hs.below hWb).cut (k := K.base.toNat) (by omega)
  rw [← psV_take] at hsW
  have hown0 : (W.alloc (.cells #[] 138)).drew.ownsRow (w.heap.size + 2) 138 2 (.slice (some ⟨W.heap.size, 0, none⟩) 0 0) 0 [] := World.ownsRow_made (base := w.heap.size + 2) (size := 2) W #[] 0 (by omega) (by unfold maxLen; omega) rfl
  have hm1 : 0 + K.base.toNat ≤ maxLen := by unfold maxLen; omega
  have hm2 : (0 + K.base.toNat) * 16 ≤ 140737488355328 := by omega
  have HK : Go.RowKit.Hid (∀ w', Below W.heap.size W w' → (w'.cell? ⟨w.heap.size, 0, none⟩ = some (.int .i64 K.o) ∧ w'.cell? ⟨w.heap.size, 1, none⟩ = some (.int .i64 K.l) ∧ w'.cell? ⟨w.heap.size, 2, none⟩ = some (.int .i64 K.m) ∧ w'.cell? ⟨w.heap.size, 3, none⟩ = some (.slice A K.ps.length cap) ∧ w'.cell? ⟨w.heap.size, 4, none⟩ = some (.int .i64 K.base))) := fun w' h => ⟨(h.cell (p := ⟨_, _, _⟩) (by first | assumption | (simp only; omega) | omega)).trans (hX0 0), (h.cell (p := ⟨_, _, _⟩) (by first | assumption | (simp only; omega) | omega)).trans (hX0 1), (h.cell (p := ⟨_, _, _⟩) (by first | assumption | (simp only; omega) | omega)).trans (hX0 2), (h.cell (p := ⟨_, _, _⟩) (by first | assumption | (simp only; omega) | omega)).trans (hX0 3), (h.cell (p := ⟨_, _, _⟩) (by first | assumption | (simp only; omega) | omega)).trans (hX0 4)⟩
  go_region_held3 (fun w' => w'.cell? ⟨w.heap.size, 0, none⟩ = some (.int .i64 K.o) ∧ w'.cell? ⟨w.heap.size, 1, none⟩ = some (.int .i64 K.l) ∧ w'.cell? ⟨w.heap.size, 2, none⟩ = some (.int .i64 K.m) ∧ w'.cell? ⟨w.heap.size, 3, none⟩ = some (.slice A K.ps.length cap) ∧ w'.cell? ⟨w.heap.size, 4, none⟩ = some (.int .i64 K.base)) ((first | (refine HK.out _ ?_; (repeat (first | (with_reducible exact Below.refl _ _) | (with_reducible assumption) | (with_reducible refine Below.drew ?_) | ((with_reducible refine Below.alloc ?_ ?_ _); rotate_left; focus (first | omega | (simp <;> omega))) | ((with_reducible refine Below.setCell ?_ ?_ _); rotate_left; focus (first | omega | (simp <;> omega))) | (with_reducible refine belowN ?_ _))); done) | go_keep)) (((refine step_ap _ rfl _ _ 125 rfl (w.heap.size + 2) 138 i _ 2 16 Try.underlying125 hi hz0 hz1 hz2 rfl (by omega) (.slice (some ⟨W.heap.size, 0, none⟩) 0 0) 0 [] rfl hown0 A K.base.toNat cap (psV (K.ps.take K.base.toNat)) rfl ((hsW.alloc _)) (psV_one _) hm1 hm2 (by simp; omega) ?_; intro A2 cap2 w2 hown2 hg2 hat2; have hg3 := grown_undrew hg2; have hbW := app_below (Below.refl W.heap.size W) hg3 (Nat.le_refl _) (by rintro k ⟨⟩; exact Nat.le_refl _); have hX2 := box_keep hX1 hbW hWs; have hF2 := box_free hF1 hbW hWs; clear hg2 hg3 hat2)))
  all_goals
    have HE : Go.RowKit.Hid (K.cleared.ps.length = 0 + K.base.toNat) := by show _ = _; simp [Kn.cleared]; omega
    go_wp2
    refine bodyPost_ret (v := knV K.cleared A2 cap2) (by simp [results, Try.results127, go_sem, HE.out, hX2]; exact ⟨rfl, rfl, rfl, rfl, rfl⟩) rfl ⟨A2, cap2, rfl, ?_, ?_⟩
    · rw [HE.out]
      refine own_mono (B := w.heap.size + 2) ?_ (by omega)
      iterate 6 refine ownsRow_setCell_below ?_ (by simp) _
      have h := hown2
      rw [List.nil_append] at h
      exact h
    · have hb3 := hWb.trans (hbW.mono (by omega))
      exact (by repeat (first | (with_reducible exact Below.refl _ _) | (with_reducible assumption) | (with_reducible refine Below.drew ?_) | (with_reducible refine Below.alloc ?_ (by first | omega | (simp <;> omega)) _) | (with_reducible refine Below.setCell ?_ (by first | omega | (simp <;> omega)) _) | (with_reducible refine belowN ?_ _)))
set_option linter.unusedSimpArgs false in
set_option maxRecDepth 100000 in
set_option maxHeartbeats 4000000 in
theorem l2After_any (K : Kn) (A : Option Addr) (cap : Nat) (c : Int) (w : World) (hk : K.ok) (hs : Sl w A K.ps.length cap 2 (psV K.ps)) (hc : K.fol c = true) :
    Calls Try.prog 129 #[knV K A cap, .int .i64 c] w (KnRes (K.after c) w) := by
  obtain ⟨i, hi, hz0, hz1, hz2⟩ := info_parts info_pair
  have hbd := hk.bd
  have hcap := hs.1
  have hal := K.any_len hk hc
  obtain ⟨hal1, hal2⟩ := hal
  go_enter Try.func129, Try.ntmps129
  go_wp2_with fail
  have hK0 : Bk ((w.alloc (.cells (knC K A cap) 127)).alloc (.cells knZ 127)) w.heap.size 127 (knC K A cap) := (by (repeat (first | (with_reducible assumption) | (with_reducible exact Bk.new _ _ _) | (with_reducible refine Bk.newAt _ _ _ (by simp; done)) | (with_reducible refine Bk.drew ?_) | (with_reducible refine Bk.drewN ?_ _) | (with_reducible refine Bk.alloc ?_ _))); done)
  have hR0 : Bk ((w.alloc (.cells (knC K A cap) 127)).alloc (.cells knZ 127)) (w.heap.size + 1) 127 knZ := (by (repeat (first | (with_reducible assumption) | (with_reducible exact Bk.new _ _ _) | (with_reducible refine Bk.newAt _ _ _ (by simp; done)) | (with_reducible refine Bk.drew ?_) | (with_reducible refine Bk.drewN ?_ _) | (with_reducible refine Bk.alloc ?_ _))); done)
  have hWs : w.heap.size + 1 < ((w.alloc (.cells (knC K A cap) 127)).alloc (.cells knZ 127)).heap.size := by simp
  have hWb : Below w.heap.size w ((w.alloc (.cells (knC K A cap) 127)).alloc (.cells knZ 127)) := (by repeat (first | (with_reducible exact Below.refl _ _) | (with_reducible assumption) | (with_reducible refine Below.drew ?_) | (with_reducible refine Below.alloc ?_ (by first | omega | (simp <;> omega)) _) | (with_reducible refine Below.setCell ?_ (by first | omega | (simp <;> omega)) _) | (with_reducible refine belowN ?_ _)))
  generalize (w.alloc (.cells (knC K A cap) 127)).alloc (.cells knZ 127) = W at *
  have hB0 : w.heap.size < W.heap.size := by omega
  have hsW := hs.below hWb
  have hX0 := hK0.cell
  have hm1 : 0 + K.ps.length ≤ maxLen := by unfold maxLen; omega
  have hm2 : (0 + K.ps.length) * 16 ≤ 140737488355328 := by omega
  go_cut [5] (fun p wx => ∃ (gp : Nat) (A2 : Option Addr) (cap2 : Nat), p = .pointer (some ⟨gp, 0, none⟩) ∧ W.heap.size ≤ gp ∧ Bk wx gp 127 #[.int .i64 K.o, .int .i64 K.l, .int .i64 K.m, .slice A2 K.ps.length cap2, .int .i64 K.base, .int .i64 c] ∧ wx.ownsRow W.heap.size 138 2 (.slice A2 K.ps.length cap2) K.ps.length (psV K.ps) ∧ Below W.heap.size W wx)
  case first =>
    have HK : Go.RowKit.Hid (∀ w', Below W.heap.size W w' → (w'.cell? ⟨w.heap.size, 0, none⟩ = some (.int .i64 K.o) ∧ w'.cell? ⟨w.heap.size, 1, none⟩ = some (.int .i64 K.l) ∧ w'.cell? ⟨w.heap.size, 2, none⟩ = some (.int .i64 K.m) ∧ w'.cell? ⟨w.heap.size, 3, none⟩ = some (.slice A K.ps.length cap) ∧ w'.cell? ⟨w.heap.size, 4, none⟩ = some (.int .i64 K.base))) := fun w' h => ⟨(h.cell (p := ⟨_, _, _⟩) (by first | assumption | (simp only; omega) | omega)).trans (hX0 0), (h.cell (p := ⟨_, _, _⟩) (by first | assumption | (simp only; omega) | omega)).trans (hX0 1), (h.cell (p := ⟨_, _, _⟩) (by first | assumption | (simp only; omega) | omega)).trans (hX0 2), (h.cell (p := ⟨_, _, _⟩) (by first | assumption | (simp only; omega) | omega)).trans (hX0 3), (h.cell (p := ⟨_, _, _⟩) (by first | assumption | (simp only; omega) | omega)).trans (hX0 4)⟩
    go_region_held3 (fun w' => w'.cell? ⟨w.heap.size, 0, none⟩ = some (.int .i64 K.o) ∧ w'.cell? ⟨w.heap.size, 1, none⟩ = some (.int .i64 K.l) ∧ w'.cell? ⟨w.heap.size, 2, none⟩ = some (.int .i64 K.m) ∧ w'.cell? ⟨w.heap.size, 3, none⟩ = some (.slice A K.ps.length cap) ∧ w'.cell? ⟨w.heap.size, 4, none⟩ = some (.int .i64 K.base)) ((first | (refine HK.out _ ?_; (repeat (first | (with_reducible exact Below.refl _ _) | (with_reducible assumption) | (with_reducible refine Below.drew ?_) | ((with_reducible refine Below.alloc ?_ ?_ _); rotate_left; focus (first | omega | (simp <;> omega))) | ((with_reducible refine Below.setCell ?_ ?_ _); rotate_left; focus (first | omega | (simp <;> omega))) | (with_reducible refine belowN ?_ _))); done) | go_keep)) (((refine step_ap _ rfl _ _ 125 rfl W.heap.size 138 i _ 2 16 Try.underlying125 hi hz0 hz1 hz2 rfl (by omega) (.slice (some ⟨_, 0, none⟩) 0 0) 0 [] rfl (lit_own (by (repeat (first | (with_reducible assumption) | (with_reducible exact Bk.new _ _ _) | (with_reducible refine Bk.newAt _ _ _ (by simp; done)) | (with_reducible refine Bk.drew ?_) | (with_reducible refine Bk.drewN ?_ _) | (with_reducible refine Bk.alloc ?_ _))); done) (by first | omega | (simp <;> omega))) A K.ps.length cap (psV K.ps) rfl (hsW.below (by repeat (first | (with_reducible exact Below.refl _ _) | (with_reducible assumption) | (with_reducible refine Below.drew ?_) | (with_reducible refine Below.alloc ?_ (by first | omega | (simp <;> omega)) _) | (with_reducible refine Below.setCell ?_ (by first | omega | (simp <;> omega)) _) | (with_reducible refine belowN ?_ _) | (with_reducible refine Below.trans ?_ (Below.mono (by with_reducible assumption) (by first | omega | (simp <;> omega))))))) (psV_one _) hm1 hm2 (by first | omega | (simp <;> omega)) ?_; intro A2 cap2 w2 hown2 hg2 hat2; have hbW : Below W.heap.size W w2 := Below.grown (by repeat (first | (with_reducible exact Below.refl _ _) | (with_reducible assumption) | (with_reducible refine Below.drew ?_) | (with_reducible refine Below.alloc ?_ (by first | omega | (simp <;> omega)) _) | (with_reducible refine Below.setCell ?_ (by first | omega | (simp <;> omega)) _) | (with_reducible refine belowN ?_ _) | (with_reducible refine Below.trans ?_ (Below.mono (by with_reducible assumption) (by first | omega | (simp <;> omega)))))) hg2 (by first | omega | (simp <;> omega)) (by rintro k ⟨⟩; first | omega | (simp <;> omega)); have hz2 := hbW.size; (first | (have hbk := Bk.grown (Bk.drew (Bk.alloc (Bk.new W knZ 127) (.cells #[] 138))) hg2 (by rintro k ⟨⟩; simp)) | (have hbk := Bk.grown (Bk.drew (Bk.newAt (W.alloc (.cells #[] 138)) knZ 127 (n := W.heap.size + 1) (by simp))) hg2 (by rintro k ⟨⟩; simp)) | skip); try (have hbc := hbk.cell; have hbf := hbk.free))))
    all_goals
      have hown3 : w2.ownsRow W.heap.size 138 2 (.slice A2 K.ps.length cap2) K.ps.length (psV K.ps) := by
        have h := hown2
        rw [Nat.zero_add, List.nil_append] at h
        exact h
      clear hg2 hat2 hown2
      go_wp2_with fail
      go_meet
      refine ⟨_, A2, cap2, rfl, by first | omega | (simp <;> omega), ?_, ?_, (by repeat (first | (with_reducible exact Below.refl _ _) | (with_reducible assumption) | (with_reducible refine Below.drew ?_) | (with_reducible refine Below.alloc ?_ (by first | omega | (simp <;> omega)) _) | (with_reducible refine Below.setCell ?_ (by first | omega | (simp <;> omega)) _) | (with_reducible refine belowN ?_ _) | (with_reducible refine Below.trans ?_ (Below.mono (by with_reducible assumption) (by first | omega | (simp <;> omega))))))⟩
      · first
          | with_reducible exact Bk.new _ _ _
          | exact (((((hbk.set 0 _).set 1 _).set 2 _).set 3 _).set 4 _).set 5 _
      · first
          | with_reducible exact World.ownsRow.alloc hown3 _
          | (have hne := own_ne hown3 hbk (by decide)
             exact own_far (own_far (own_far (own_far (own_far (own_far hown3 hne _) hne _) hne _) hne _) hne _) hne _)
  case rest =>
    obtain ⟨gp, A2, cap2, rfl, hgp, hbk, hown, hbW⟩ := hcut
    have hK1 := hK0.below hbW hB0
    have hR1 := hR0.below hbW hWs
    have hgb := hWb.trans (hbW.mono (by omega))
    have hy := hbW.size
    have hyg := hbk.lt
    have hsw := hs.below hgb
    clear hX0 hsW hK0 hR0
    have hX0 := hK1.cell
    have hn1 : K.ps.length + 1 ≤ maxLen := by unfold maxLen; omega
    have hn2 : (K.ps.length + 1) * 16 ≤ 140737488355328 := by omega
    have hN : Go.RowKit.Hid ((K.after c).ps = if K.gr = true then K.ps ++ [(K.last, byteAt (K.any c) 0)] else K.ps) := by
      show _ = _
      unfold Kn.after; rw [headI_eq]
    go_wp2_with fail
    refine (l2Grows_any _ _ _ _ hk).mono ?_
    rintro e w3 ⟨rfl, hb3⟩
    have hy3 := hb3.size
    have hK3 := hK1.below hb3 (by omega)
    have hR3 := hR1.below hb3 (by omega)
    have hG3 := hbk.below hb3 hyg
    have hown3 := owns_keep hown hb3
    have hs3 := hsw.below hb3
    have hg3 := hgb.trans (hb3.mono (by omega))
    clear hb3 hown hbk hK1 hR1 hgb hsw hX0
    by_cases hg : K.gr = true
    · have HN : Go.RowKit.Hid ((K.after c).ps = K.ps ++ [(K.last, byteAt (K.any c) 0)]) := by
        show _ = _
        rw [hN.out, if_pos hg]
      clear hN
      have cA := fun w hs => l2Any_any K A cap c w hk hs hc
      generalize K.any c = X at *
      have CA := Go.Lib.hid cA
      clear cA
      have hx1 := byteAt_nonneg X 0
      have hx2 := byteAt_le X 0
      have hX0 := hK3.cell
      have hX1 := hG3.cell
      have HL : Go.RowKit.Hid (∀ w', Below w3.heap.size w3 w' → (w'.cell? ⟨w.heap.size, 0, none⟩ = some (.int .i64 K.o) ∧ w'.cell? ⟨w.heap.size, 1, none⟩ = some (.int .i64 K.l) ∧ w'.cell? ⟨w.heap.size, 2, none⟩ = some (.int .i64 K.m) ∧ w'.cell? ⟨w.heap.size, 3, none⟩ = some (.slice A K.ps.length cap) ∧ w'.cell? ⟨w.heap.size, 4, none⟩ = some (.int .i64 K.base) ∧ w'.cell? ⟨w.heap.size, 5, none⟩ = some (.int .i64 K.last) ∧ w'.cell? ⟨gp, 3, none⟩ = some (.slice A2 K.ps.length cap2))) := fun w' h => ⟨(h.cell (p := ⟨_, _, _⟩) (by first | assumption | (simp only; omega) | omega)).trans (hX0 0), (h.cell (p := ⟨_, _, _⟩) (by first | assumption | (simp only; omega) | omega)).trans (hX0 1), (h.cell (p := ⟨_, _, _⟩) (by first | assumption | (simp only; omega) | omega)).trans (hX0 2), (h.cell (p := ⟨_, _, _⟩) (by first | assumption | (simp only; omega) | omega)).trans (hX0 3), (h.cell (p := ⟨_, _, _⟩) (by first | assumption | (simp only; omega) | omega)).trans (hX0 4), (h.cell (p := ⟨_, _, _⟩) (by first | assumption | (simp only; omega) | omega)).trans (hX0 5), (h.cell (p := ⟨_, _, _⟩) (by first | assumption | (simp only; omega) | omega)).trans (hX1 3)⟩
      clear hX0 hX1
      go_wp2_with fail
      have h0X : 0 < X.length := by omega
      have hwx : IntKind.i64.wrap (byteAt X 0) = byteAt X 0 := IntWalk.i64_in _ (by omega)
      refine wp_region_last 13 (fun w' => w'.cell? ⟨w.heap.size, 0, none⟩ = some (.int .i64 K.o) ∧ w'.cell? ⟨w.heap.size, 1, none⟩ = some (.int .i64 K.l) ∧ w'.cell? ⟨w.heap.size, 2, none⟩ = some (.int .i64 K.m) ∧ w'.cell? ⟨w.heap.size, 3, none⟩ = some (.slice A K.ps.length cap) ∧ w'.cell? ⟨w.heap.size, 4, none⟩ = some (.int .i64 K.base) ∧ w'.cell? ⟨w.heap.size, 5, none⟩ = some (.int .i64 K.last) ∧ w'.cell? ⟨gp, 3, none⟩ = some (.slice A2 K.ps.length cap2)) (by kernel_rfl) (by kernel_rfl) (by first | (refine HL.out _ ?_; (repeat (first | (with_reducible exact Below.refl _ _) | (with_reducible assumption) | (with_reducible refine Below.drew ?_) | ((with_reducible refine Below.alloc ?_ ?_ _); rotate_left; focus (first | omega | (simp <;> omega))) | ((with_reducible refine Below.setCell ?_ ?_ _); rotate_left; focus (first | omega | (simp <;> omega))) | (with_reducible refine belowN ?_ _))); done) | go_keep) (fun hSS => ?_)
      simp only [List.take_succ_cons, List.take_zero]
      refine wpAnyH_take (i := 0) (v := ?_) rfl (by kernel_rfl) (by kernel_rfl) (by kernel_rfl) (fun _ _ _ h => h) (Or.inl ⟨by rfl, ?_⟩) (by assumption) ?_
      rotate_left
      focus (intro w hSw; (try dsimp only at hSw); go_simp; try with_reducible rfl)
      try simp only [Act.put, List.setIfInBounds_toArray, List.set_cons_zero, List.set_cons_succ]
      refine wpAnyH_take (i := 1) (v := ?_) rfl (by kernel_rfl) (by kernel_rfl) (by kernel_rfl) (fun _ _ _ h => h) (Or.inl ⟨by rfl, ?_⟩) (by assumption) ?_
      rotate_left
      focus (intro w hSw; (try dsimp only at hSw); go_simp; try with_reducible rfl)
      try simp only [Act.put, List.setIfInBounds_toArray, List.set_cons_zero, List.set_cons_succ]
      refine wpAnyH_take (i := 2) (v := ?_) rfl (by kernel_rfl) (by kernel_rfl) (by kernel_rfl) (fun _ _ _ h => h) (Or.inl ⟨by rfl, ?_⟩) (by assumption) ?_
      rotate_left
      focus (intro w hSw; (try dsimp only at hSw); go_simp; try with_reducible rfl)
      try simp only [Act.put, List.setIfInBounds_toArray, List.set_cons_zero, List.set_cons_succ]
      refine wpAnyH_take (i := 3) (v := ?_) rfl (by kernel_rfl) (by kernel_rfl) (by kernel_rfl) (fun _ _ _ h => h) (Or.inl ⟨by rfl, ?_⟩) (by assumption) ?_
      rotate_left
      focus (intro w hSw; (try dsimp only at hSw); go_simp; try with_reducible rfl)
      try simp only [Act.put, List.setIfInBounds_toArray, List.set_cons_zero, List.set_cons_succ]
      refine wpAnyH_take (i := 4) (v := ?_) rfl (by kernel_rfl) (by kernel_rfl) (by kernel_rfl) (fun _ _ _ h => h) (Or.inl ⟨by rfl, ?_⟩) (by assumption) ?_
      rotate_left
      focus (intro w hSw; (try dsimp only at hSw); go_simp; try with_reducible rfl)
      try simp only [Act.put, List.setIfInBounds_toArray, List.set_cons_zero, List.set_cons_succ]
      refine wpAnyH_take (i := 5) (v := ?_) rfl (by kernel_rfl) (by kernel_rfl) (by kernel_rfl) (fun _ _ _ h => h) (Or.inl ⟨by rfl, ?_⟩) (by assumption) ?_
      rotate_left
      focus (intro w hSw; (try dsimp only at hSw); go_simp; try with_reducible rfl)
      try simp only [Act.put, List.setIfInBounds_toArray, List.set_cons_zero, List.set_cons_succ]
      refine wpAnyH_ready (rs := [6]) (by kernel_rfl) (by simp) ?_
      refine AllReadyH.cons (o := _) rfl (fun KK hKK => ?_) AllReadyH.nil
      go_simp
      (go_at_call 137; refine (CA.out _ (hs3.below (by repeat (first | (with_reducible exact Below.refl _ _) | (with_reducible assumption) | (with_reducible refine Below.drew ?_) | (with_reducible refine Below.alloc ?_ (by first | omega | (simp <;> omega)) _) | (with_reducible refine Below.setCell ?_ (by first | omega | (simp <;> omega)) _) | (with_reducible refine belowN ?_ _) | (with_reducible refine Below.trans ?_ (Below.mono (by with_reducible assumption) (by first | omega | (simp <;> omega)))))))).mono ?_; rintro e w4 ⟨rfl, hb4⟩; have hb4 : Below w3.heap.size w3 w4 := below_undrew hb4; have hy4 := hb4.size; have hG4 := hG3.below hb4 (by omega); have hR4 := hR3.below hb4 (by omega); have hK4 := hK3.below hb4 (by omega); have hown4 := owns_keep hown3 hb4; have hg4 := hg3.trans (hb4.mono (by omega)))
      refine hKK.out _ _ ?_ (fun hSS => ?_)
      focus (first | (refine HL.out _ ?_; (repeat (first | (with_reducible exact Below.refl _ _) | (with_reducible assumption) | (with_reducible refine Below.drew ?_) | ((with_reducible refine Below.alloc ?_ ?_ _); rotate_left; focus (first | omega | (simp <;> omega))) | ((with_reducible refine Below.setCell ?_ ?_ _); rotate_left; focus (first | omega | (simp <;> omega))) | (with_reducible refine belowN ?_ _))); done) | go_keep)
      try simp only [Act.put, List.setIfInBounds_toArray, List.set_cons_zero, List.set_cons_succ]
      refine wpAnyH_ready (rs := [7]) (by kernel_rfl) (by simp) ?_
      refine AllReadyH.cons (o := _) rfl (fun KK hKK => ?_) AllReadyH.nil
      go_simp
      refine hKK.out _ _ ?_ (fun hSS => ?_)
      focus (first | (refine HL.out _ ?_; (repeat (first | (with_reducible exact Below.refl _ _) | (with_reducible assumption) | (with_reducible refine Below.drew ?_) | ((with_reducible refine Below.alloc ?_ ?_ _); rotate_left; focus (first | omega | (simp <;> omega))) | ((with_reducible refine Below.setCell ?_ ?_ _); rotate_left; focus (first | omega | (simp <;> omega))) | (with_reducible refine belowN ?_ _))); done) | go_keep)
      try simp only [Act.put, List.setIfInBounds_toArray, List.set_cons_zero, List.set_cons_succ]
      refine wpAnyH_take (i := 8) (v := ?_) rfl (by kernel_rfl) (by kernel_rfl) (by kernel_rfl) (fun _ _ _ h => h) (Or.inl ⟨by rfl, ?_⟩) (by assumption) ?_
      rotate_left
      focus (intro w hSw; (try dsimp only at hSw); go_simp; try with_reducible rfl)
      try simp only [Act.put, List.setIfInBounds_toArray, List.set_cons_zero, List.set_cons_succ]
      refine wpAnyH_take (i := 9) (v := ?_) rfl (by kernel_rfl) (by kernel_rfl) (by kernel_rfl) (fun _ _ _ h => h) (Or.inl ⟨by rfl, ?_⟩) (by assumption) ?_
      rotate_left
      focus (intro w hSw; (try dsimp only at hSw); go_simp; try with_reducible rfl)
      try simp only [Act.put, List.setIfInBounds_toArray, List.set_cons_zero, List.set_cons_succ]
      refine wpAnyH_ready (rs := [10]) (by kernel_rfl) (by simp) ?_
      refine AllReadyH.cons (o := _) rfl (fun KK hKK => ?_) AllReadyH.nil
      go_simp
      refine hKK.out _ _ ?_ (fun hSS => ?_)
      focus (first | (refine HL.out _ ?_; (repeat (first | (with_reducible exact Below.refl _ _) | (with_reducible assumption) | (with_reducible refine Below.drew ?_) | ((with_reducible refine Below.alloc ?_ ?_ _); rotate_left; focus (first | omega | (simp <;> omega))) | ((with_reducible refine Below.setCell ?_ ?_ _); rotate_left; focus (first | omega | (simp <;> omega))) | (with_reducible refine belowN ?_ _))); done) | go_keep)
      try simp only [Act.put, List.setIfInBounds_toArray, List.set_cons_zero, List.set_cons_succ]
      refine wpAnyH_ready (rs := [11]) (by kernel_rfl) (by simp) ?_
      refine AllReadyH.cons (o := _) rfl (fun KK hKK => ?_) AllReadyH.nil
      ((refine step_ap _ rfl _ _ 125 rfl W.heap.size 138 i _ 2 16 Try.underlying125 hi hz0 hz1 hz2 rfl (by omega) (.slice A2 K.ps.length cap2) K.ps.length (psV K.ps) rfl (hown4.alloc _) (some ⟨_, 0, none⟩) 1 1 [.int .i64 K.last, .int .i64 (byteAt X 0)] rfl (Sl.new w4 #[.int .i64 K.last, .int .i64 (byteAt X 0)] _ 1 2 (by simp) (by omega)) (by simp [Value.oneCell']) hn1 hn2 (by first | omega | (simp <;> omega)) ?_); intro A5 cap5 w5 hown5 hg5 hat5; have hK5 := Bk.grown (hK4.alloc _) hg5 (own_ne hown4 hK4 (by decide)); have hR5 := Bk.grown (hR4.alloc _) hg5 (own_ne hown4 hR4 (by decide)); have hG5 := Bk.grown (hG4.alloc _) hg5 (own_ne hown4 hG4 (by decide)); have hX5 := hK5.cell; have hX6 := hG5.cell; have hF6 := hG5.free; have hg5b := app_below hg4 hg5 (by omega) (fun k hk => by have := (hown4.lt k hk).1; omega); have hs5 := app_size hg5)
      refine hKK.out _ _ ?_ (fun hSS => ?_)
      focus (first | (refine HL.out _ ?_; (repeat (first | (with_reducible exact Below.refl _ _) | (with_reducible assumption) | (with_reducible refine Below.drew ?_) | ((with_reducible refine Below.alloc ?_ ?_ _); rotate_left; focus (first | omega | (simp <;> omega))) | ((with_reducible refine Below.setCell ?_ ?_ _); rotate_left; focus (first | omega | (simp <;> omega))) | (with_reducible refine belowN ?_ _))); done) | go_keep)
      try simp only [Act.put, List.setIfInBounds_toArray, List.set_cons_zero, List.set_cons_succ]
      refine wpAnyH_take (i := 12) (v := ?_) rfl (by kernel_rfl) (by kernel_rfl) (by kernel_rfl) (fun _ _ _ h => h) (Or.inl ⟨by rfl, ?_⟩) (by assumption) ?_
      rotate_left
      focus (intro w hSw; (try dsimp only at hSw); go_simp; try with_reducible rfl)
      try simp only [Act.put, List.setIfInBounds_toArray, List.set_cons_zero, List.set_cons_succ]
      refine wpAnyH_done (by kernel_rfl) ?_ _
      refine LastQ_normal ?_
      refine wpOp_step (o := _) rfl (fun KK hKK => ?_)
      go_simp
      refine hKK _ _ (NoPanic.normal ?_)
      try simp only [Act.put, List.setIfInBounds_toArray, List.set_cons_zero, List.set_cons_succ]
      all_goals
        clear hKK
        have hQ6 := (hG5.set 3 (.slice A5 (K.ps.length + 1) cap5)).cell
        have hF7 := hR5.free
        have hQ7 := hR5.cell
        have hr5 := hR5.lt
        have hne : ¬ w.heap.size + 1 = gp := by omega
        clear hX5 hX6 hF6
        go_wp2_with fail
        have HE : Go.RowKit.Hid ((K.after c).ps.length = K.ps.length + 1) := by show _ = _; rw [HN.out]; simp
        refine bodyPost_ret (v := knV (K.after c) A5 cap5) (by simp [results, Try.results129, go_sem, HE.out, hQ7]; exact ⟨rfl, rfl, rfl, rfl, rfl⟩) rfl ⟨A5, cap5, rfl, ?_, (by repeat (first | (with_reducible exact Below.refl _ _) | (with_reducible assumption) | (with_reducible refine Below.drew ?_) | (with_reducible refine Below.alloc ?_ (by first | omega | (simp <;> omega)) _) | (with_reducible refine Below.setCell ?_ (by first | omega | (simp <;> omega)) _) | (with_reducible refine belowN ?_ _)))⟩
        rw [HE.out, HN.out, psV_snoc]
        have hne5 := own_ne hown5 hG5 (by decide)
        have hne6 := own_ne hown5 hR5 (by decide)
        exact own_mono (own_far (own_far (own_far (own_far (own_far (own_far (own_far hown5 hne5 _) hne6 _) hne6 _) hne6 _) hne6 _) hne6 _) hne6 _) (by omega)
    · have HN : Go.RowKit.Hid ((K.after c).ps = K.ps) := by
        show _ = _
        rw [hN.out, if_neg hg]
      clear hN
      have hQ6 := hG3.cell
      have hF7 := hR3.free
      have hQ7 := hR3.cell
      have hg' : K.gr = false := by simpa using hg
      have hX0 := hK3.cell
      clear hg
      go_wp2_with fail
      have HE : Go.RowKit.Hid ((K.after c).ps.length = K.ps.length) := by show _ = _; rw [HN.out]
      refine bodyPost_ret (v := knV (K.after c) A2 cap2) (by simp [results, Try.results129, go_sem, HE.out, hQ7]; exact ⟨rfl, rfl, rfl, rfl, rfl⟩) rfl ⟨A2, cap2, rfl, ?_, (by repeat (first | (with_reducible exact Below.refl _ _) | (with_reducible assumption) | (with_reducible refine Below.drew ?_) | (with_reducible refine Below.alloc ?_ (by first | omega | (simp <;> omega)) _) | (with_reducible refine Below.setCell ?_ (by first | omega | (simp <;> omega)) _) | (with_reducible refine belowN ?_ _)))⟩
      rw [HE.out, HN.out]
      have hne6 := own_ne hown3 hR3 (by decide)
      exact own_mono (own_far (own_far (own_far (own_far (own_far (own_far hown3 hne6 _) hne6 _) hne6 _) hne6 _) hne6 _) hne6 _) (by omega)
end Go.Proofs.Ytgcjfddkgbigoaa
