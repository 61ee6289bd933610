/- Walks: codes packed as bits; data compressed. -/
import Derived.Test.YtgcjfddkgbigoaaS9
import Derived.Test.YtgcjfddkgbigoaaPos
namespace Go.Proofs.Ytgcjfddkgbigoaa
open Go.RowKit
set_option linter.unusedVariables false
set_option linter.unusedSimpArgs false
set_option maxRecDepth 100000
attribute [local go_sem high] run_index_S binOp_eql_S binOp_neq_S append_S toList_S size_S run_slice_S run_slice_from_S run_slice_to_S wrap64_byteAt wrap64_byteAt_mul bits_or_bytes convU conv1_some convU2 conv2_some
/-- The bits of the first k codes. -/
def pkB (K : Kn) (cs : List Int) (k : Nat) : Bs := ((cs.zip (K.walk cs).ws).take k).flatMap fun p => codeBits K.o p.1.toNat p.2
theorem pkB_zero (K : Kn) (cs : List Int) : pkB K cs 0 = [] := rfl
theorem pkB_end (K : Kn) (cs : List Int) : pkB K cs cs.length = K.bits cs := by
  unfold pkB Kn.bits
  rw [List.take_of_length_le (by rw [List.length_zip]; omega)]
theorem pkB_succ (K : Kn) (cs : List Int) (k : Nat) (hk : k < cs.length) (hw : k < (K.walk cs).ws.length) : pkB K cs (k + 1) = pkB K cs k ++ codeBits K.o (cs[k]).toNat (K.walk cs).ws[k] := by
  unfold pkB
  have hl : k < (cs.zip (K.walk cs).ws).length := by rw [List.length_zip]; omega
  rw [List.take_succ_eq_append_getElem hl, List.flatMap_append]
  simp
theorem pkB_len (K : Kn) (cs : List Int) (hk : K.ok) {n : Nat} (hg : goesR K cs n) (k : Nat) : (pkB K cs k).length ≤ 10 * cs.length := by
  have h := bits_length hk hg
  have e : (pkB K cs k).length ≤ (K.bits cs).length := by
    unfold pkB Kn.bits
    generalize cs.zip (K.walk cs).ws = z
    conv => rhs; rw [← List.take_append_drop k z]
    rw [List.flatMap_append, List.length_append]; omega
  omega
set_option maxHeartbeats 1000000 in
theorem l2Pack_any (K : Kn) (A : Option Addr) (cap : Nat) (C : Option Addr) (cc : Nat) (cs : List Int) (w : World) (hk : K.ok) (hs : Sl w A K.ps.length cap 2 (psV K.ps)) (hc : Sl w C cs.length cc 1 (cs.map iv)) (hl : cs.length ≤ 100000) (hg : goesR K cs 0) :
    Calls Try.prog 125 #[knV K A cap, .slice C cs.length cc] w fun e w' => e = .returned (.string ⟨(K.bits cs).toArray⟩) ∧ Below w.heap.size w w' := by
  obtain ⟨j, hj, jz0, jz1, jz2⟩ := info_parts info_u8
  have hc0 : 0 < cs.length := by
    cases cs with
    | nil => exact absurd hg (by simp [goesR])
    | cons c r => simp
  have hcc := hc.1
  have hcc2 := hc.2.1
  have HCS : Go.RowKit.Hid (∀ wr, Below w.heap.size w wr → Sl wr C cs.length cc 1 (cs.map iv)) := fun wr h => hc.below h
  have HF := Go.Lib.hid (goes_facts cs K 0 hk hg)
  have HL := Go.Lib.hid (pkB_len K cs hk hg)
  have HWL := Go.Lib.hid (walk_ws K cs)
  have HSU := Go.Lib.hid (pkB_succ K cs)
  have HEN := Go.Lib.hid (pkB_end K cs)
  have cW : Go.RowKit.Hid (∀ wr, Below w.heap.size w wr → Calls Try.prog 133 #[knV K A cap, .slice C cs.length cc] wr (WkRes K cs wr)) := fun wr h => l2Walk_any K A cap C cc cs wr hk (hs.below h) (hc.below h) hl hg
  clear hs hc hg hk
  go_enter Try.func125, Try.ntmps125
  go_wp2_with fail
  have hK0 : Bk ((w.alloc (.cells (knC K A cap) 127)).alloc (.cells #[] 5)) w.heap.size 127 (knC K A cap) := (by (repeat (first | (with_reducible assumption) | (with_reducible exact Bk.new _ _ _) | (with_reducible refine Bk.newAt _ _ _ (by simp; done)) | (with_reducible refine Bk.drew ?_) | (with_reducible refine Bk.drewN ?_ _) | (with_reducible refine Bk.alloc ?_ _))); done)
  have hI0 : Bk ((w.alloc (.cells (knC K A cap) 127)).alloc (.cells #[] 5)) (w.heap.size + 1) 5 #[] := (by (repeat (first | (with_reducible assumption) | (with_reducible exact Bk.new _ _ _) | (with_reducible refine Bk.newAt _ _ _ (by simp; done)) | (with_reducible refine Bk.drew ?_) | (with_reducible refine Bk.drewN ?_ _) | (with_reducible refine Bk.alloc ?_ _))); done)
  have g0 : Below w.heap.size w ((w.alloc (.cells (knC K A cap) 127)).alloc (.cells #[] 5)) := (by repeat (first | (with_reducible exact Below.refl _ _) | (with_reducible assumption) | (with_reducible refine Below.drew ?_) | (with_reducible refine Below.alloc ?_ (by first | omega | (simp <;> omega)) _) | (with_reducible refine Below.setCell ?_ (by first | omega | (simp <;> omega)) _) | (with_reducible refine belowN ?_ _)))
  refine (cW.out _ g0).mono ?_
  generalize (w.alloc (.cells (knC K A cap) 127)).alloc (.cells #[] 5) = w0 at *
  have z0 : w.heap.size + 1 < w0.heap.size := hI0.lt
  have o0 := lit_own (base := w.heap.size + 1) (size := 1) hI0 (Nat.le_refl _)
  rintro e w1 ⟨K1, A1, c1, v, d, rfl, o1, b1⟩
  have z1 := b1.size
  have K1' := hK0.below b1 (by omega)
  have q1 := owns_keep o0 b1
  have g1 := g0.trans (b1.mono (by omega))
  obtain ⟨Aw, cw, rfl, _⟩ := Sl.of_own o1
  obtain ⟨gw, rfl, _, _⟩ := own_pos o1 hc0
  clear cW b1 hK0 o0 g0 hI0
  have X1 := K1'.alloc (.cells (knC K1 A1 c1) 127)
  have q2 := q1.alloc (.cells (knC K1 A1 c1) 127)
  have o2 := o1.alloc (.cells (knC K1 A1 c1) 127)
  have g2 : Below w.heap.size w (w1.alloc (.cells (knC K1 A1 c1) 127)) := (by repeat (first | (with_reducible exact Below.refl _ _) | (with_reducible assumption) | (with_reducible refine Below.drew ?_) | (with_reducible refine Below.alloc ?_ (by first | omega | (simp <;> omega)) _) | (with_reducible refine Below.setCell ?_ (by first | omega | (simp <;> omega)) _) | (with_reducible refine belowN ?_ _)))
  have hQ := (Bk.new w1 (knC K1 A1 c1) 127).cell
  have hF := (Bk.new w1 (knC K1 A1 c1) 127).free
  generalize (K.walk cs).ws = ws at *
  clear K1' q1 o1 g1
  go_wp2
  go_loopw [5, 10] (fun a i wr => ∃ (Ao : Option Addr) (co k : Nat), a = .slice Ao (pkB K cs k).length co ∧ i = .int .i64 (k : Int) ∧ k ≤ cs.length ∧ wr.ownsRow (w.heap.size + 1) 5 1 a (pkB K cs k).length ((pkB K cs k).map u8v) ∧ wr.ownsRow w0.heap.size 3 1 (.slice (some ⟨gw, 0, none⟩) cs.length cw) cs.length (ws.map ivn) ∧ Bk wr w.heap.size 127 (knC K A cap) ∧ Below w.heap.size w wr) (fun _ i _ => cs.length - (intOf i).toNat)
  case atStart => exact ⟨_, 0, 0, rfl, rfl, by omega, q2, o2, X1, g2⟩
  case round =>
    obtain ⟨Ao, co, k, rfl, rfl, hk, q, o, hK, g⟩ := hrel
    have hz := g.size
    clear X1 q2 o2 g2
    by_cases hlt : k < cs.length
    · have hki : (k : Int) < cs.length := by omega
      have hlw : k < ws.length := by rw [HWL.out]; exact hlt
      have hlt1 := hK.lt
      obtain ⟨gc, oc, u, rfl, hgc, hu, hc⟩ := Sl.at1 (HCS.out w (Below.refl _ _)) hlt
      rw [List.getElem?_map, List.getElem?_eq_getElem hlt] at hu
      simp at hu
      subst hu
      have hwl := (o.cellAt k (by omega)).trans (show (ws.map ivn)[k]? = some (ivn ws[k]) by rw [List.getElem?_map, List.getElem?_eq_getElem hlw]; rfl)
      have hfa := HF.out (cs[k], ws[k]) (by
        have : k < (cs.zip ws).length := by rw [List.length_zip]; omega
        have e : (cs.zip ws)[k] = (cs[k], ws[k]) := by simp
        rw [← e]; exact List.getElem_mem this)
      simp only at hfa
      have hsu := Go.Lib.hid (HSU.out k hlt hlw)
      have hln := HL.out k
      have hln2 := HL.out (k + 1)
      obtain ⟨c, hcc⟩ := Int.eq_ofNat_of_zero_le hfa.1
      rw [hcc] at hc hfa hsu
      generalize ws[k] = wd at *
      have cC : Go.RowKit.Hid (∀ w, Calls Try.prog 134 #[.int .i64 K.o, .int .i64 (c : Int), .int .i64 (wd : Int)] w fun e w' => e = .returned (.string ⟨(codeBits K.o c wd).toArray⟩) ∧ Below w.heap.size w w') := fun w => l1Code_any K.o c wd w (by omega) (by omega)
      have hbl : (codeBits K.o c wd).length = wd := codeBits_length _ _ _
      rw [Int.toNat_natCast] at hsu
      clear hcc
      generalize codeBits K.o c wd = x at *
      generalize hP : pkB K cs k = P at *
      have HP := Go.Lib.hid hP
      clear hP
      have hmd1 : P.length + x.length ≤ maxLen := by unfold maxLen; omega
      have hmd2 : P.length + x.length ≤ 140737488355328 := by omega
      clear hbl
      have hX6 := hK.cell
      have hcl6 := (g.cell (p := ⟨gc, oc + k, none⟩) hgc).trans hc
      have hlw2 : gw < wr.heap.size := (o.lt _ rfl).2
      have hgw : w0.heap.size ≤ gw := (o.lt _ rfl).1
      clear hF hQ
      go_wp2_with fail
      refine wp_region_held_drew (S := (fun w' => w'.cell? ⟨w.heap.size, 0, none⟩ = some (.int .i64 K.o) ∧ w'.cell? ⟨gc, oc + k, none⟩ = some (.int .i64 (c : Int)) ∧ w'.cell? ⟨gw, k, none⟩ = some (.int .i64 (wd : Int)))) (by kernel_rfl) ?_ (fun hSS => ?_)
      focus ((refine ⟨?_, ?_, ?_⟩; all_goals first | with_reducible exact hcl9 | with_reducible exact hcl8 | with_reducible exact hwl9 | with_reducible exact hwl8 | (simp [hX9]; done) | (simp [hX8]; done) | (simp only [World.cell?_drew]; exact hcl6) | (simp only [World.cell?_drew]; exact hwl) | (simp [hX6]; done)))
      refine wpAnyH_take (i := 0) (v := ?_) rfl (by kernel_rfl) (by kernel_rfl) (by kernel_rfl) (fun _ _ _ h => h) (Or.inl ⟨by rfl, ?_⟩) (by assumption) ?_
      rotate_left
      focus (intro w hSw; (try dsimp only at hSw); go_simp; try with_reducible rfl)
      try simp only [Act.put, List.setIfInBounds_toArray, List.set_cons_zero, List.set_cons_succ]
      refine wpAnyH_take (i := 1) (v := ?_) rfl (by kernel_rfl) (by kernel_rfl) (by kernel_rfl) (fun _ _ _ h => h) (Or.inl ⟨by rfl, ?_⟩) (by assumption) ?_
      rotate_left
      focus (intro w hSw; (try dsimp only at hSw); go_simp; try with_reducible rfl)
      try simp only [Act.put, List.setIfInBounds_toArray, List.set_cons_zero, List.set_cons_succ]
      refine wpAnyH_take (i := 2) (v := ?_) rfl (by kernel_rfl) (by kernel_rfl) (by kernel_rfl) (fun _ _ _ h => h) (Or.inl ⟨by rfl, ?_⟩) (by assumption) ?_
      rotate_left
      focus (intro w hSw; (try dsimp only at hSw); go_simp; try with_reducible rfl)
      try simp only [Act.put, List.setIfInBounds_toArray, List.set_cons_zero, List.set_cons_succ]
      refine wpAnyH_take (i := 3) (v := ?_) rfl (by kernel_rfl) (by kernel_rfl) (by kernel_rfl) (fun _ _ _ h => h) (Or.inl ⟨by rfl, ?_⟩) (by assumption) ?_
      rotate_left
      focus (intro w hSw; (try dsimp only at hSw); go_simp; try with_reducible rfl)
      try simp only [Act.put, List.setIfInBounds_toArray, List.set_cons_zero, List.set_cons_succ]
      refine wpAnyH_take (i := 4) (v := ?_) rfl (by kernel_rfl) (by kernel_rfl) (by kernel_rfl) (fun _ _ _ h => h) (Or.inl ⟨by rfl, ?_⟩) (by assumption) ?_
      rotate_left
      focus (intro w hSw; (try dsimp only at hSw); go_simp; try with_reducible rfl)
      try simp only [Act.put, List.setIfInBounds_toArray, List.set_cons_zero, List.set_cons_succ]
      refine wpAnyH_take (i := 5) (v := ?_) rfl (by kernel_rfl) (by kernel_rfl) (by kernel_rfl) (fun _ _ _ h => h) (Or.inl ⟨by rfl, ?_⟩) (by assumption) ?_
      rotate_left
      focus (intro w hSw; (try dsimp only at hSw); go_simp; try with_reducible rfl)
      try simp only [Act.put, List.setIfInBounds_toArray, List.set_cons_zero, List.set_cons_succ]
      refine wpAnyH_take (i := 6) (v := ?_) rfl (by kernel_rfl) (by kernel_rfl) (by kernel_rfl) (fun _ _ _ h => h) (Or.inl ⟨by rfl, ?_⟩) (by assumption) ?_
      rotate_left
      focus (intro w hSw; (try dsimp only at hSw); go_simp; try with_reducible rfl)
      try simp only [Act.put, List.setIfInBounds_toArray, List.set_cons_zero, List.set_cons_succ]
      refine wpAnyH_take (i := 7) (v := ?_) rfl (by kernel_rfl) (by kernel_rfl) (by kernel_rfl) (fun _ _ _ h => h) (Or.inl ⟨by rfl, ?_⟩) (by assumption) ?_
      rotate_left
      focus (intro w hSw; (try dsimp only at hSw); go_simp; try with_reducible rfl)
      try simp only [Act.put, List.setIfInBounds_toArray, List.set_cons_zero, List.set_cons_succ]
      refine wpAnyH_take (i := 8) (v := ?_) rfl (by kernel_rfl) (by kernel_rfl) (by kernel_rfl) (fun _ _ _ h => h) (Or.inl ⟨by rfl, ?_⟩) (by assumption) ?_
      rotate_left
      focus (intro w hSw; (try dsimp only at hSw); go_simp; try with_reducible rfl)
      try simp only [Act.put, List.setIfInBounds_toArray, List.set_cons_zero, List.set_cons_succ]
      refine wpAnyH_take (i := 9) (v := ?_) rfl (by kernel_rfl) (by kernel_rfl) (by kernel_rfl) (fun _ _ _ h => h) (Or.inl ⟨by rfl, ?_⟩) (by assumption) ?_
      rotate_left
      focus (intro w hSw; (try dsimp only at hSw); go_simp; try with_reducible rfl)
      try simp only [Act.put, List.setIfInBounds_toArray, List.set_cons_zero, List.set_cons_succ]
      refine wpAnyH_take (i := 10) (v := ?_) rfl (by kernel_rfl) (by kernel_rfl) (by kernel_rfl) (fun _ _ _ h => h) (Or.inl ⟨by rfl, ?_⟩) (by assumption) ?_
      rotate_left
      focus (intro w hSw; (try dsimp only at hSw); go_simp; try with_reducible rfl)
      try simp only [Act.put, List.setIfInBounds_toArray, List.set_cons_zero, List.set_cons_succ]
      refine wpAnyH_take (i := 11) (v := ?_) rfl (by kernel_rfl) (by kernel_rfl) (by kernel_rfl) (fun _ _ _ h => h) (Or.inl ⟨by rfl, ?_⟩) (by assumption) ?_
      rotate_left
      focus (intro w hSw; (try dsimp only at hSw); go_simp; try with_reducible rfl)
      try simp only [Act.put, List.setIfInBounds_toArray, List.set_cons_zero, List.set_cons_succ]
      refine wpAnyH_ready (rs := [12]) (by kernel_rfl) (by simp) ?_
      refine AllReadyH.cons (o := _) rfl (fun KK hKK => ?_) AllReadyH.nil
      go_simp
      (go_at_call 134; refine (cC.out _).mono ?_; rintro e w8 ⟨rfl, hb8⟩; have hb8 : Below wr.heap.size wr w8 := below_undrew hb8; have hz8 := hb8.size; have o8 := owns_keep o hb8; have q8 := owns_keep q hb8; have hK8 := hK.below hb8 (by omega); have g8 := g.trans (hb8.mono (by omega)); have hX8 := hK8.cell; have hcl8 := (g8.cell (p := ⟨gc, oc + k, none⟩) hgc).trans hc; have hwl8 := (hb8.cell (p := ⟨gw, k, none⟩) hlw2).trans hwl)
      refine hKK.out _ _ ?_ (fun hSS => ?_)
      focus ((refine ⟨?_, ?_, ?_⟩; all_goals first | with_reducible exact hcl9 | with_reducible exact hcl8 | with_reducible exact hwl9 | with_reducible exact hwl8 | (simp [hX9]; done) | (simp [hX8]; done) | (simp only [World.cell?_drew]; exact hcl6) | (simp only [World.cell?_drew]; exact hwl) | (simp [hX6]; done)))
      try simp only [Act.put, List.setIfInBounds_toArray, List.set_cons_zero, List.set_cons_succ]
      refine wpAnyH_ready (rs := [13]) (by kernel_rfl) (by simp) ?_
      refine AllReadyH.cons (o := _) rfl (fun KK hKK => ?_) AllReadyH.nil
      (refine step_aps rfl (.tmp 26) (.tmp 38) 22 9 rfl (w.heap.size + 1) 5 j Try.underlying22 Try.underlying9 hj jz0 jz1 jz2 (.slice Ao P.length co) P.length (P.map u8v) rfl q8 x rfl hmd1 hmd2 (by omega) ?_; intro A9 cap9 w9 q9 hg9; have o9 := o8.kept hg9 (own_own o8 q8 (by decide)); have hK9 := hK8.grown hg9 (own_ne q8 hK8 (by decide)); have g9 := g8.grown hg9 (by omega) (fun k hk => by have := (q8.lt k hk).1; omega); have hX9 := hK9.cell; have hcl9 := (g9.cell (p := ⟨gc, oc + k, none⟩) hgc).trans hc; have hwl9 := (o9.cellAt k (by omega)).trans ((o.cellAt k (by omega)).symm.trans hwl))
      refine hKK.out _ _ ?_ (fun hSS => ?_)
      focus ((refine ⟨?_, ?_, ?_⟩; all_goals first | with_reducible exact hcl9 | with_reducible exact hcl8 | with_reducible exact hwl9 | with_reducible exact hwl8 | (simp [hX9]; done) | (simp [hX8]; done) | (simp only [World.cell?_drew]; exact hcl6) | (simp only [World.cell?_drew]; exact hwl) | (simp [hX6]; done)))
      try simp only [Act.put, List.setIfInBounds_toArray, List.set_cons_zero, List.set_cons_succ]
      refine wpAnyH_take (i := 14) (v := ?_) rfl (by kernel_rfl) (by kernel_rfl) (by kernel_rfl) (fun _ _ _ h => h) (Or.inl ⟨by rfl, ?_⟩) (by assumption) ?_
      rotate_left
      focus (intro w hSw; (try dsimp only at hSw); go_simp; try with_reducible rfl)
      try simp only [Act.put, List.setIfInBounds_toArray, List.set_cons_zero, List.set_cons_succ]
      refine wpAnyH_done (by kernel_rfl) ?_ _
      simp only [List.getElem_toArray, List.getElem_cons_succ, List.getElem_cons_zero, Act.put, List.setIfInBounds_toArray, List.set_cons_zero, List.set_cons_succ]
      have hpl : (pkB K cs (k + 1)).length = P.length + x.length := by rw [hsu.out, List.length_append]
      have q10 : w9.ownsRow (w.heap.size + 1) 5 1 (.slice A9 (pkB K cs (k + 1)).length cap9) (pkB K cs (k + 1)).length ((pkB K cs (k + 1)).map u8v) := by rw [hpl, hsu.out, List.map_append]; exact q9
      have HPL := Go.Lib.hid hpl
      clear hpl hKK q9 hg9
      go_wp2
      go_roundw
      case rel => exact ⟨A9, cap9, k + 1, by rw [HPL.out], by go_num, by omega, by rw [← HPL.out]; exact q10, o9, hK9, g9⟩
      case measure => simp [intOf]; omega
    · have hki : ¬ (k : Int) < cs.length := by omega
      have hkk : k = cs.length := by omega
      subst hkk
      rw [HEN.out] at q
      have hcv := conv_own q
      rw [HEN.out]
      go_wp2
      go_ret
      exact ⟨rfl, g⟩
end Go.Proofs.Ytgcjfddkgbigoaa
