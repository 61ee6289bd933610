/- Walks: the words of codes. -/
import Derived.Test.YtgcjfddkgbigoaaS2
import Derived.Deep.DeepCutAuto
namespace Go.Proofs.Ytgcjfddkgbigoaa
open Go.RowKit
set_option linter.unusedSimpArgs false
set_option linter.unusedVariables false
attribute [local go_sem high] run_index_S binOp_eql_S binOp_neq_S append_S toList_S size_S run_slice_S run_slice_from_S run_slice_to_S wrap64_byteAt wrap64_byteAt_mul bits_or_bytes convU conv1_some convU2 conv2_some
theorem sl_pair {w : World} {A : Option Addr} {cap : Nat} {ps : List Pr} (h : Sl w A ps.length cap 2 (psV ps)) (i : Nat) (hi : i < ps.length) :
    ∃ g off, A = some ⟨g, off, none⟩ ∧ g < w.heap.size ∧ w.cell? ⟨g, off + i * 2, none⟩ = some (.int .i64 ps[i].1) ∧ w.cell? ⟨g, off + i * 2 + 1, none⟩ = some (.int .i64 ps[i].2) := by
  obtain ⟨h1, h2, h3, h4⟩ := h
  obtain ⟨g, off, hA, hg, hc⟩ := h4 (by omega)
  have := psV_at ps i hi
  exact ⟨g, off, hA, hg, hc _ _ this.1, by rw [Nat.add_assoc]; exact hc _ _ this.2⟩
/-- L with its first i and its last i bytes exchanged. -/
def revTo (L : Bs) (i : Nat) : Bs := (List.range L.length).map fun j => if j < i ∨ L.length - i ≤ j then L.getD (L.length - 1 - j) 0 else L.getD j 0
theorem revTo_length (L : Bs) (i : Nat) : (revTo L i).length = L.length := by simp [revTo]
theorem revTo_zero (L : Bs) : revTo L 0 = L := by
  apply List.ext_getElem?
  intro j
  unfold revTo
  by_cases h : j < L.length
  · rw [List.getElem?_map, List.getElem?_range h, List.getElem?_eq_getElem h]
    simp [h]; omega
  · rw [List.getElem?_eq_none (by simp; omega), List.getElem?_eq_none (by omega)]
theorem revTo_at (L : Bs) (i j : Nat) (h : j < L.length) : (revTo L i)[j]? = some (if j < i ∨ L.length - i ≤ j then L.getD (L.length - 1 - j) 0 else L.getD j 0) := by
  unfold revTo; rw [List.getElem?_map, List.getElem?_range h]; rfl
theorem revTo_full (L : Bs) (i : Nat) (h : i = L.length / 2) : revTo L i = L.reverse := by
  apply List.ext_getElem?
  intro j
  by_cases hj : j < L.length
  · rw [revTo_at L i j hj, List.getElem?_reverse hj, List.getElem?_eq_getElem (by omega)]
    congr 1
    split
    · rw [List.getD_eq_getElem?_getD, List.getElem?_eq_getElem (by omega)]; rfl
    · have e : j = L.length - 1 - j := by omega
      conv => lhs; rw [e]
      rw [List.getD_eq_getElem?_getD, List.getElem?_eq_getElem (by omega)]; rfl
  · rw [List.getElem?_eq_none (by rw [revTo_length]; omega), List.getElem?_eq_none (by simp; omega)]
theorem revTo_succ (L : Bs) (i : Nat) (h : i < L.length / 2) : ((revTo L i).set i (L.getD (L.length - 1 - i) 0)).set (L.length - 1 - i) (L.getD i 0) = revTo L (i + 1) := by
  apply List.ext_getElem?
  intro j
  rw [List.getElem?_set, List.getElem?_set, List.length_set, revTo_length]
  by_cases hj : j < L.length
  · rw [revTo_at L (i + 1) j hj]
    by_cases h1 : L.length - 1 - i = j
    · rw [if_pos h1, if_pos (by omega), if_pos (by omega)]
      congr 2; omega
    · rw [if_neg h1]
      by_cases h2 : i = j
      · rw [if_pos h2, if_pos (by omega), if_pos (by omega), h2]
      · rw [if_neg h2, revTo_at L i j hj]
        congr 1
        by_cases h3 : j < i ∨ L.length - i ≤ j
        · rw [if_pos h3, if_pos (by omega)]
        · rw [if_neg h3, if_neg (by omega)]
  · rw [if_neg (by omega), if_neg (by omega), List.getElem?_eq_none (by rw [revTo_length]; omega), List.getElem?_eq_none (by rw [revTo_length]; omega)]
theorem map_getD (L : Bs) (i : Nat) (h : i < L.length) : (L.map u8v)[i]? = some (u8v (L.getD i 0)) := by
  rw [List.getElem?_map, List.getElem?_eq_getElem h, List.getD_eq_getElem?_getD, List.getElem?_eq_getElem h]; rfl
set_option maxRecDepth 100000 in
set_option maxHeartbeats 2000000 in
theorem l2Word_any (K : Kn) (A : Option Addr) (cap : Nat) (c : Int) (w : World) (hk : K.ok) (hs : Sl w A K.ps.length cap 2 (psV K.ps)) (hc : codeOk K.cl K.ps.length c) :
    Calls Try.prog 142 #[knV K A cap, .int .i64 c] w fun e w' => e = .returned (.string ⟨(K.word c).toArray⟩) ∧ Below w.heap.size w w' := by
  obtain ⟨i, hi, hz0, hz1, hz2⟩ := info_parts info_u8
  have hbd := hk.bd
  have hp := hk.lm
  obtain ⟨hp1, hp2, hp3, hp4⟩ := hp
  have hcb : c ≤ 100000 := by unfold codeOk at hc; omega
  go_enter Try.func142, Try.ntmps142
  go_wp2
  go_loopw [1, 5] (fun x v wr => ∃ (c' : Int) (out : Bs), x = .int .i64 c' ∧ codeOk K.cl K.ps.length c' ∧ K.word c = K.word c' ++ out.reverse ∧ out.length + c'.toNat ≤ c.toNat ∧ wr.ownsRow (w.heap.size + 1) 5 1 v out.length (out.map u8v) ∧ Below w.heap.size w wr ∧ w.heap.size + 1 < wr.heap.size ∧ ∀ i, wr.cell? ⟨w.heap.size, i, none⟩ = (knC K A cap)[i]?) (fun x _ _ => (intOf x).toNat)
  case atStart =>
    exact ⟨c, [], rfl, hc, by simp, by simp, by simpa using World.ownsRow_made (base := w.heap.size + 1) (e := 5) (size := 1) (w.alloc (.cells (knC K A cap) 127)) #[] 0 (by simp) (by unfold maxLen; omega) rfl, (by repeat (first | (with_reducible exact Below.refl _ _) | (with_reducible assumption) | (with_reducible refine Below.drew ?_) | (with_reducible refine Below.alloc ?_ (by first | omega | (simp <;> omega)) _) | (with_reducible refine Below.setCell ?_ (by first | omega | (simp <;> omega)) _) | (with_reducible refine belowN ?_ _))), by simp, box_past (box_new _ _ _) (by simp) _⟩
  case round =>
    obtain ⟨c', out, rfl, hc', hw, hl, hown, hb, hz, hX⟩ := hrel
    have HW := Go.Lib.hid hw
    clear hw
    have hnl : K.ps.length ≤ 100000 := by omega
    go_wp2_with fail
    refine (l1End_any _ _ _ _ hp1 hp2).mono ?_
    rintro e w1 ⟨rfl, hb1⟩
    have hy1 := hb1.size
    have hX1 := box_keep hX hb1 (by omega)
    have hown1 := owns_keep hown hb1
    have g1 : Below w.heap.size w w1 := hb.trans (hb1.mono (by omega))
    clear hb1 hX hown hb
    by_cases hgt : pow2 K.l + 1 < c'
    · have hii : (c' - K.cl - 2).toNat < K.ps.length := by unfold Kn.cl at *; rcases hc' with h | h <;> omega
      obtain ⟨hi2, hwp⟩ := wAt_pair hk.pairs c' hgt (by rcases hc' with h | h <;> unfold Kn.cl at * <;> omega)
      obtain ⟨g, off, hA, hg, hc0, hc1⟩ := sl_pair (hs.below g1) _ hii
      have hpr := hk.pairs _ hii
      obtain ⟨hpr1, hpr2, hpr3⟩ := hpr
      have HWP := Go.Lib.hid hwp
      have HA := Go.Lib.hid hA
      clear hwp hA
      generalize hPi : K.ps[(c' - K.cl - 2).toNat] = pr at *
      clear hPi
      have hpp := pow2_bd K.l hp1 hp2
      obtain ⟨hpp1, hpp2⟩ := hpp
      have hcu : c' ≤ 100000 := by rcases hc' with h | h <;> unfold Kn.cl at * <;> omega
      have hpr5 : 0 ≤ pr.fst ∧ pr.fst < c' := by
        have hcl : K.cl = pow2 K.l := rfl
        unfold codeOk at hpr1; omega
      obtain ⟨hpr5, hpr6⟩ := hpr5
      have hidx : ((c' - (pow2 K.l + 1)).toNat - 1) = (c' - K.cl - 2).toNat := by unfold Kn.cl; omega
      have hy2 : w.heap.size < w1.heap.size := by omega
      rw [← hidx] at hc0 hc1
      have hi0 : 0 ≤ c' - (pow2 K.l + 1) - 1 := by omega
      have hi00 : 1 ≤ c' - (pow2 K.l + 1) := by omega
      have hi1 : c' - (pow2 K.l + 1) - 1 < K.ps.length := by omega
      have hA := HA.out
      subst hA
      clear hidx HA
      have HK : Go.RowKit.Hid (∀ w', Below w1.heap.size w1 w' → (w'.cell? ⟨w.heap.size, 0, none⟩ = some (.int .i64 K.o) ∧ w'.cell? ⟨w.heap.size, 1, none⟩ = some (.int .i64 K.l) ∧ w'.cell? ⟨w.heap.size, 2, none⟩ = some (.int .i64 K.m) ∧ w'.cell? ⟨w.heap.size, 3, none⟩ = some (.slice (some ⟨g, off, none⟩) K.ps.length cap) ∧ w'.cell? ⟨g, off + ((c' - (pow2 K.l + 1)).toNat - 1) * 2, none⟩ = some (.int .i64 pr.fst) ∧ w'.cell? ⟨g, off + ((c' - (pow2 K.l + 1)).toNat - 1) * 2 + 1, none⟩ = some (.int .i64 pr.snd) ∧ Below w1.heap.size w1 w')) := fun w' h => ⟨(h.cell (p := ⟨_, _, _⟩) (by first | assumption | (simp only; omega) | omega)).trans (hX1 0), (h.cell (p := ⟨_, _, _⟩) (by first | assumption | (simp only; omega) | omega)).trans (hX1 1), (h.cell (p := ⟨_, _, _⟩) (by first | assumption | (simp only; omega) | omega)).trans (hX1 2), (h.cell (p := ⟨_, _, _⟩) (by first | assumption | (simp only; omega) | omega)).trans (hX1 3), (h.cell (p := ⟨_, _, _⟩) (by first | assumption | (simp only; omega) | omega)).trans (hc0), (h.cell (p := ⟨_, _, _⟩) (by first | assumption | (simp only; omega) | omega)).trans (hc1), h⟩
      clear hc0 hc1
      go_wp2_with fail
      have hwr1 : IntKind.i64.wrap (c' - (pow2 K.l + 1)) = c' - (pow2 K.l + 1) := IntWalk.i64_in _ (by omega)
      have hwr2 : IntKind.i64.wrap (c' - (pow2 K.l + 1) - 1) = c' - (pow2 K.l + 1) - 1 := IntWalk.i64_in _ (by omega)
      go_cut [6] (fun p wx => ∃ gp : Nat, p = .pointer (some ⟨gp, 0, none⟩) ∧ w1.heap.size ≤ gp ∧ gp < wx.heap.size ∧ wx.cell? ⟨gp, 0, none⟩ = some (.int .i64 pr.1) ∧ wx.cell? ⟨gp, 1, none⟩ = some (.int .i64 pr.2) ∧ Below w1.heap.size w1 wx)
      case first =>
        go_region_held3 (fun w' => w'.cell? ⟨w.heap.size, 0, none⟩ = some (.int .i64 K.o) ∧ w'.cell? ⟨w.heap.size, 1, none⟩ = some (.int .i64 K.l) ∧ w'.cell? ⟨w.heap.size, 2, none⟩ = some (.int .i64 K.m) ∧ w'.cell? ⟨w.heap.size, 3, none⟩ = some (.slice (some ⟨g, off, none⟩) K.ps.length cap) ∧ w'.cell? ⟨g, off + ((c' - (pow2 K.l + 1)).toNat - 1) * 2, none⟩ = some (.int .i64 pr.fst) ∧ w'.cell? ⟨g, off + ((c' - (pow2 K.l + 1)).toNat - 1) * 2 + 1, none⟩ = some (.int .i64 pr.snd) ∧ Below w1.heap.size w1 w') ((exact HK.out _ (by repeat (first | (with_reducible exact Below.refl _ _) | (with_reducible assumption) | (with_reducible refine Below.drew ?_) | (with_reducible refine Below.alloc ?_ (by first | omega | (simp <;> omega)) _) | (with_reducible refine Below.setCell ?_ (by first | omega | (simp <;> omega)) _) | (with_reducible refine belowN ?_ _) | (with_reducible refine Below.trans ?_ (Below.mono (by with_reducible assumption) (by first | omega | (simp <;> omega)))))))) (first | (go_at_call 122; refine (l1End_any _ _ _ _ hp1 hp2).mono ?_; rintro e w2 ⟨rfl, hb2⟩; have hz2 := hb2.size; (try simp at hz2); try (have hb3 := below_undrew hb2; have hxx := box_keep (box_new _ _ _) hb3 (by simp); have hff := box_free (box_new_free _ _ _) hb3 (by simp))))
        all_goals
          go_wp2_with fail
          go_meet
          refine ⟨_, rfl, by first | omega | (simp <;> omega), by first | omega | (simp <;> omega), by first | (simp; done) | go_simp, by first | (simp; done) | go_simp, (by repeat (first | (with_reducible exact Below.refl _ _) | (with_reducible assumption) | (with_reducible refine Below.drew ?_) | (with_reducible refine Below.alloc ?_ (by first | omega | (simp <;> omega)) _) | (with_reducible refine Below.setCell ?_ (by first | omega | (simp <;> omega)) _) | (with_reducible refine belowN ?_ _) | (with_reducible refine Below.trans ?_ (Below.mono (by with_reducible assumption) (by first | omega | (simp <;> omega))))))⟩
      case rest =>
        obtain ⟨gp, rfl, hgp1, hgp2, hgc0, hgc1, hgb⟩ := hcut
        have hown2 := owns_keep hown1 hgb
        have hX2 := box_keep hX1 hgb hy2
        have hlo : out.length ≤ 100000 := by omega
        have hm1 : out.length + 1 ≤ maxLen := by unfold maxLen; omega
        have hm2 : (out.length + 1) * 1 ≤ 140737488355328 := by omega
        have hpr4 : pr.snd ≤ 255 := by omega
        go_wp2_with (at_builtin; go_must (refine wpList_append_own _ rfl _ _ 22 rfl (w.heap.size + 1) 5 i _ 1 1 Try.underlying22 hi hz0 hz1 hz2 rfl (by omega) _ _ _ rfl (hown2.alloc _) ⟨wc.heap.size, 0, none⟩ 1 1 [.int .u8 pr.snd] rfl rfl ?_ ?_ hm1 hm2 ?_ ?_))
        try (case refine_1 => first | exact cell_one_new _ _ _ | omega | (simp <;> omega; done) | (simp [Value.oneCell']; done))
        try (case refine_2 => first | exact cell_one_new _ _ _ | omega | (simp <;> omega; done) | (simp [Value.oneCell']; done))
        try (case refine_3 => first | exact cell_one_new _ _ _ | omega | (simp <;> omega; done) | (simp [Value.oneCell']; done))
        intro v3 w3 hown3 hg3 _
        have hlt := hown1.lt
        have hf1 := app_far hg3 hgp2 (fun k hk => by have := hlt k hk; omega) 0
        rw [hgc0] at hf1
        have hX3 := app_far hg3 (b := w.heap.size) (by omega) (fun k hk => by have := hlt k hk; omega)
        have hX3 := fun i => (hX3 i).trans (hX2 i)
        have hb3 := app_below (g1.trans (hgb.mono (by omega))) hg3 (by omega) (fun k hk => by have := hlt k hk; omega)
        have hs3 := app_size hg3
        clear hg3 hX2 hown2
        go_wp2
        go_roundw
        case rel =>
          refine ⟨pr.fst, out ++ [UInt8.ofNat pr.snd.toNat], rfl, codeOk_mono hpr1 (by omega), ?_, ?_, ?_, hb3, by omega, hX3⟩
          · rw [HW.out]
            show K.word c' ++ _ = K.word pr.fst ++ _
            unfold Kn.word
            rw [HWP.out]; simp
          · simp; omega
          · have e : u8v (UInt8.ofNat pr.snd.toNat) = .int .u8 pr.snd := by
              show Value.int .u8 _ = _
              rw [UInt8.toNat_ofNat']
              congr 1; omega
            rw [List.map_append, List.length_append]
            simp only [List.map_cons, List.map_nil, e]
            exact hown3
        case measure => simp [intOf]; omega
    · have hlt' : c' < K.cl := by unfold Kn.cl at *; rcases hc' with h | h <;> omega
      have hc0 : 0 ≤ c' := by rcases hc' with h | h <;> omega
      have hc255 : c' ≤ 255 := by omega
      have HL : Go.RowKit.Hid (K.word c = (out ++ [UInt8.ofNat c'.toNat]).reverse) := by
        show K.word c = _
        rw [HW.out]
        unfold Kn.word
        rw [wAt_lit _ _ _ hlt']; simp
      have hlo : out.length ≤ 100000 := by omega
      have hm1 : out.length + 1 ≤ maxLen := by unfold maxLen; omega
      have hm2 : (out.length + 1) * 1 ≤ 140737488355328 := by omega
      go_wp2_with (at_builtin; go_must (refine wpList_append_own _ rfl _ _ 22 rfl (w.heap.size + 1) 5 i _ 1 1 Try.underlying22 hi hz0 hz1 hz2 rfl (by omega) _ _ _ rfl (hown1.alloc _) ⟨w1.heap.size, 0, none⟩ 1 1 [.int .u8 c'] rfl rfl ?_ ?_ hm1 hm2 ?_ ?_))
      try (case refine_1 => first | exact cell_one_new _ _ _ | omega | (simp <;> omega; done) | (simp [Value.oneCell']; done))
      try (case refine_2 => first | exact cell_one_new _ _ _ | omega | (simp <;> omega; done) | (simp [Value.oneCell']; done))
      try (case refine_3 => first | exact cell_one_new _ _ _ | omega | (simp <;> omega; done) | (simp [Value.oneCell']; done))
      intro v3 w3 hown3 hg3 _
      have hlt := hown1.lt
      have hb3 := app_below g1 hg3 (by omega) (fun k hk => by have := hlt k hk; omega)
      have hs3 := app_size hg3
      have e : u8v (UInt8.ofNat c'.toNat) = .int .u8 c' := by
        show Value.int .u8 _ = _
        rw [UInt8.toNat_ofNat']
        congr 1; omega
      have hown4 : w3.ownsRow (w.heap.size + 1) 5 1 v3 (out ++ [UInt8.ofNat c'.toNat]).length ((out ++ [UInt8.ofNat c'.toNat]).map u8v) := by
        rw [List.map_append, List.length_append]
        simp only [List.map_cons, List.map_nil, e]
        exact hown3
      clear hg3 hown3 e hown1 hX1
      have hL1 : (out ++ [UInt8.ofNat c'.toNat]).length ≤ 100001 := by simp; omega
      have hL2 : 0 < (out ++ [UInt8.ofNat c'.toNat]).length := by simp
      generalize out ++ [UInt8.ofNat c'.toNat] = L at *
      obtain ⟨g, cap3, rfl, hg1, hg2⟩ := hown4.form hL2
      rw [← revTo_zero L] at hown4
      go_wp2
      go_loopw [7, 8] (fun x _ wr => ∃ i : Nat, i ≤ L.length / 2 ∧ x = .int .i64 i ∧ wr.ownsRow (w.heap.size + 1) 5 1 (.slice (some ⟨g, 0, none⟩) L.length cap3) L.length ((revTo L i).map u8v) ∧ Below w.heap.size w wr) (fun x _ _ => L.length - (intOf x).toNat)
      case atStart => exact ⟨0, by omega, rfl, by rw [revTo_length] at hown4; exact hown4, hb3⟩
      case round =>
        obtain ⟨i, hile, rfl, hown, hb⟩ := hrel
        by_cases hlt2 : i < L.length / 2
        · have hq0 : (i : Int) < (L.length : Int) / 2 := by omega
          have hq1 : (i : Int) < L.length := by omega
          have hq2 : 0 ≤ (L.length : Int) - 1 - i := by omega
          have hq3 : (L.length : Int) - 1 - i < L.length := by omega
          have hci := (hown.cellAt i (by omega)).trans (map_getD (revTo L i) i (by rw [revTo_length]; omega))
          have hfi := hown.frozenAt i
          have hcj := (hown.cellAt (L.length - 1 - i) (by omega)).trans (map_getD (revTo L i) (L.length - 1 - i) (by rw [revTo_length]; omega))
          have hfj := hown.frozenAt (L.length - 1 - i)
          go_wp2
          go_roundw
          case rel =>
            refine ⟨i + 1, by omega, by go_num, ?_, (hb.setCell (by show _ ≤ g; omega) _).setCell (by show _ ≤ g; omega) _⟩
            have h2 := ((hown.stored i (u8v ((revTo L i)[L.length - 1 - i]?.getD 0))).1.stored (L.length - 1 - i) (u8v ((revTo L i)[i]?.getD 0))).1
            rw [← List.map_set, ← List.map_set] at h2
            have e1 : (revTo L i)[L.length - 1 - i]?.getD 0 = L.getD (L.length - 1 - i) 0 := by
              rw [revTo_at L i _ (by omega), if_neg (by omega)]; rfl
            have e2 : (revTo L i)[i]?.getD 0 = L.getD i 0 := by
              rw [revTo_at L i _ (by omega), if_neg (by omega)]; rfl
            rw [e1, e2, revTo_succ L i hlt2] at h2
            rw [e1, e2]
            exact h2
          case measure => simp [intOf]; omega
        · have hcv := conv_own (l := L.reverse) (by
            have e : i = L.length / 2 := by omega
            rw [revTo_full L i e] at hown
            rw [List.length_reverse]
            exact hown)
          go_wp2
          go_ret
          exact ⟨ret_S HL.out.symm, hb⟩
end Go.Proofs.Ytgcjfddkgbigoaa
