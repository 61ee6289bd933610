/- Walks: codes packed, data compressed, by the program. -/
import Derived.Test.YtfonokhafdflcaaGreatJ22
import Derived.Test.YtfonokhafdflcaaGreatJ23
import Derived.Test.YtfonokhafdflcaaGreatGS3
import Derived.Test.YtfonokhafdflcaaGreatGS4
import Derived.Deep.Cut
namespace Go.Proofs.YtfonokhafdflcaaGreat
open Go.RowKit
set_option linter.unusedVariables false
set_option linter.unusedSimpArgs false
set_option maxRecDepth 100000
attribute [local go_sem high] run_index_S binOp_eql_S binOp_neq_S append_S toList_S size_S run_slice_S run_slice_from_S run_slice_to_S wrap64_byteAt wrap64_byteAt_mul bits_or_bytes convU conv1_some convU2 conv2_some
set_option maxHeartbeats 1000000 in
theorem packCodes_any (K : Kn) (A : Option Addr) (cap : Nat) (C : Option Addr) (cc : Nat) (cs : List Int) (w : World) (hk : K.ok) (hs : Sl w A K.ps.length cap 2 (psV K.ps)) (hc : Sl w C cs.length cc 1 (cs.map iv)) (hl : cs.length ≤ 3100) (hg : goesD K cs 0) :
    Calls Tryz.prog 98 #[knV K A cap, .slice C cs.length cc] w fun e w' => e = .returned (.tuple #[sv (packB K.o (K.bits cs)), .bool true]) ∧ Below w.heap.size w w' := by
  have hgR := goesD_R cs K 0 (by omega) hg
  have hc0 : 0 < cs.length := by
    cases cs with
    | nil => exact absurd hg (by simp [goesD])
    | cons c r => simp
  have hcc := hc.1
  have hcc2 := hc.2.1
  have ho : K.o = 0 ∨ K.o = 1 := hk.st.1
  have HCS : Go.RowKit.Hid (∀ wr, Below w.heap.size w wr → Sl wr C cs.length cc 1 (cs.map iv)) := fun wr h => hc.below h
  have HF := Go.Lib.hid (goes_facts cs K 0 hk hgR)
  have HL := Go.Lib.hid (pkB_len K cs hk hgR)
  have HWL := Go.Lib.hid (walk_ws K cs)
  have HSU := Go.Lib.hid (pkB_succ K cs)
  have HEN := Go.Lib.hid (pkB_end K cs)
  have cW : Go.RowKit.Hid (∀ wr, Below w.heap.size w wr → Calls Tryz.prog 112 #[knV K A cap, .slice C cs.length cc] wr (IwRes K cs wr)) := fun wr h => walkCodes_any K A cap C cc cs wr hk (hs.below h) (hc.below h) hl hg
  have hbl := bits_length hk hgR
  have cP : Go.RowKit.Hid (∀ wr, Calls Tryz.prog 114 #[.int .i64 K.o, sv (K.bits cs)] wr fun e w' => e = .returned (.tuple #[sv (packB K.o (K.bits cs)), .bool true]) ∧ Below wr.heap.size wr w') := fun wr => packBits_any K.o _ wr ho (by omega) (bits_bitsB _ _)
  unfold IwRes at cW
  clear hs hc hg hgR hk hbl
  generalize packB K.o (K.bits cs) = R at *
  go_enter Tryz.func98, Tryz.ntmps98
  have hK0 : Bk (w.alloc (.cells (knC K A cap) 67)) w.heap.size 67 (knC K A cap) := (by (repeat (first | (with_reducible assumption) | (with_reducible exact Bk.new _ _ _) | (with_reducible refine Bk.newAt _ _ _ (by simp; done)) | (with_reducible refine Bk.drew ?_) | (with_reducible refine Bk.drewN ?_ _) | (with_reducible refine Bk.alloc ?_ _))); done)
  have g0 : Below w.heap.size w (w.alloc (.cells (knC K A cap) 67)) := (by repeat (first | (with_reducible exact Below.refl _ _) | (with_reducible assumption) | (with_reducible refine Below.drew ?_) | (with_reducible refine Below.alloc ?_ (by first | omega | (simp <;> omega)) _) | (with_reducible refine Below.setCell ?_ (by first | omega | (simp <;> omega)) _) | (with_reducible refine belowN ?_ _)))
  go_upto_region 1 with (fail)
  generalize w.alloc (.cells (knC K A cap) 67) = w0 at *
  have hX0 := hK0.cell
  have hz0' := hK0.lt
  go_wp2_with fail
  refine (cW.out _ g0).mono ?_
  rintro e w1 ⟨Aw, cw, d, rfl, o1, b1⟩
  have z1 := b1.size
  have K1 := hK0.below b1 (by omega)
  have o2 := own_mono (B' := w.heap.size + 1) o1 (by omega)
  have g1 := g0.trans (b1.mono (by omega))
  have q1 : w1.ownsRow (w.heap.size + 1) 5 1 (.slice none ([] : Bs).length 0) ([] : Bs).length (([] : Bs).map u8v) := ⟨by simp, .inl ⟨rfl, rfl⟩⟩
  obtain ⟨gw, hgw', _, _⟩ := own_pos o1 hc0
  have hAw : Aw = some ⟨gw, 0, none⟩ := hgw'
  subst hAw
  have hcw := (Sl.own o1).1
  have hcw2 := (Sl.own o1).2.1
  clear cW b1 hK0 g0 hX0 o1
  generalize (K.walk cs).ws = ws at *
  go_wp2
  go_loopw [9, 23] (fun a i wr => ∃ (Ao : Option Addr) (co k : Nat) (P : Bs), a = .slice Ao P.length co ∧ i = .int .i64 (k : Int) ∧ k ≤ cs.length ∧ Go.RowKit.Hid (P = pkB K cs k) ∧ P.length ≤ 31000 ∧ wr.ownsRow (w.heap.size + 1) 5 1 (.slice Ao P.length co) P.length (P.map u8v) ∧ wr.ownsRow (w.heap.size + 1) 3 1 (.slice (some ⟨gw, 0, none⟩) cs.length cw) cs.length (ws.map ivn) ∧ Bk wr w.heap.size 67 (knC K A cap) ∧ Below w.heap.size w wr) (fun _ i _ => cs.length - (intOf i).toNat)
  case atStart => exact ⟨none, 0, 0, [], rfl, rfl, by omega, rfl, by simp, q1, o2, K1, g1⟩
  case round =>
    obtain ⟨Ao, co, k, P, rfl, rfl, hk, HP, hPl, q, o, hK, g⟩ := hrel
    have hz := g.size
    clear K1 q1 o2 g1
    by_cases hlt : k < cs.length
    · have hki : (k : Int) < cs.length := by omega
      have hlw : k < ws.length := by rw [HWL.out]; exact hlt
      have hlt1 := hK.lt
      obtain ⟨gc, oc, u, rfl, hgc, hu, hc⟩ := Sl.at1 (HCS.out w (Below.refl _ _)) hlt
      rw [List.getElem?_map, List.getElem?_eq_getElem hlt] at hu
      simp at hu
      subst hu
      have hwl := (o.cellAt k (by omega)).trans (show (ws.map ivn)[k]? = some (ivn ws[k]) by rw [List.getElem?_map, List.getElem?_eq_getElem hlw]; rfl)
      have hfa := HF.out (cs[k], ws[k]) (by
        have : k < (cs.zip ws).length := by rw [List.length_zip]; omega
        have e : (cs.zip ws)[k] = (cs[k], ws[k]) := by simp
        rw [← e]; exact List.getElem_mem this)
      simp only at hfa
      have hsu := HSU.out k hlt hlw
      have hln2 := HL.out (k + 1)
      obtain ⟨c, hcc⟩ := Int.eq_ofNat_of_zero_le hfa.1
      rw [hcc] at hc hfa hsu
      rw [Int.toNat_natCast, ← HP.out] at hsu
      have HSX := Go.Lib.hid hsu
      rw [hsu] at hln2
      generalize ws[k] = wd at *
      have cC : Go.RowKit.Hid (∀ w8 : World, w8.ownsRow (w.heap.size + 1) 5 1 (.slice Ao P.length co) P.length (P.map u8v) → w.heap.size + 1 ≤ w8.heap.size → Calls Tryz.prog 113 #[.slice Ao P.length co, .int .i64 K.o, .int .i64 (c : Int), .int .i64 (wd : Int)] w8 (AbRes (w.heap.size + 1) (.slice Ao P.length co) (P ++ codeBits K.o c wd) w8)) := fun w8 hr hB => appendBits_any (w.heap.size + 1) Ao co P K.o c wd w8 ho (by omega) (by omega) hr (by omega) hB
      unfold AbRes at cC
      have hP2l : (P ++ codeBits K.o c wd).length ≤ 31000 := by omega
      clear hcc hsu hln2
      generalize P ++ codeBits K.o c wd = P2 at *
      have hX6 := hK.cell
      have hcl6 := (g.cell (p := ⟨gc, oc + k, none⟩) hgc).trans hc
      have hlw2 : gw < wr.heap.size := (o.lt _ rfl).2
      have hgw2 : w.heap.size + 1 ≤ gw := (o.lt _ rfl).1
      go_wp2_with fail
      refine wp_region_held_drew (S := (fun w' => w'.cell? ⟨w.heap.size, 0, none⟩ = some (.int .i64 K.o) ∧ w'.cell? ⟨gw, k, none⟩ = some (.int .i64 (wd : Int)))) (by kernel_rfl) ?_ (fun hSS => ?_)
      focus ((refine ⟨?_, ?_⟩; all_goals first | with_reducible exact hwl8 | (simp [hX8]; done) | (simp only [World.cell?_drew]; exact hwl) | (simp [hX6]; done)))
      refine wpAnyH_take (i := 0) (v := ?_) rfl (by kernel_rfl) (by kernel_rfl) (by kernel_rfl) (fun _ _ _ h => h) (Or.inl ⟨by rfl, ?_⟩) (by assumption) ?_
      rotate_left
      focus (intro w hSw; (try dsimp only at hSw); go_simp; try with_reducible rfl)
      try simp only [Act.put, List.setIfInBounds_toArray, List.set_cons_zero, List.set_cons_succ]
      refine wpAnyH_take (i := 1) (v := ?_) rfl (by kernel_rfl) (by kernel_rfl) (by kernel_rfl) (fun _ _ _ h => h) (Or.inl ⟨by rfl, ?_⟩) (by assumption) ?_
      rotate_left
      focus (intro w hSw; (try dsimp only at hSw); go_simp; try with_reducible rfl)
      try simp only [Act.put, List.setIfInBounds_toArray, List.set_cons_zero, List.set_cons_succ]
      refine wpAnyH_take (i := 2) (v := ?_) rfl (by kernel_rfl) (by kernel_rfl) (by kernel_rfl) (fun _ _ _ h => h) (Or.inl ⟨by rfl, ?_⟩) (by assumption) ?_
      rotate_left
      focus (intro w hSw; (try dsimp only at hSw); go_simp; try with_reducible rfl)
      try simp only [Act.put, List.setIfInBounds_toArray, List.set_cons_zero, List.set_cons_succ]
      refine wpAnyH_take (i := 3) (v := ?_) rfl (by kernel_rfl) (by kernel_rfl) (by kernel_rfl) (fun _ _ _ h => h) (Or.inl ⟨by rfl, ?_⟩) (by assumption) ?_
      rotate_left
      focus (intro w hSw; (try dsimp only at hSw); go_simp; try with_reducible rfl)
      try simp only [Act.put, List.setIfInBounds_toArray, List.set_cons_zero, List.set_cons_succ]
      refine wpAnyH_take (i := 4) (v := ?_) rfl (by kernel_rfl) (by kernel_rfl) (by kernel_rfl) (fun _ _ _ h => h) (Or.inl ⟨by rfl, ?_⟩) (by assumption) ?_
      rotate_left
      focus (intro w hSw; (try dsimp only at hSw); go_simp; try with_reducible rfl)
      try simp only [Act.put, List.setIfInBounds_toArray, List.set_cons_zero, List.set_cons_succ]
      refine wpAnyH_take (i := 5) (v := ?_) rfl (by kernel_rfl) (by kernel_rfl) (by kernel_rfl) (fun _ _ _ h => h) (Or.inl ⟨by rfl, ?_⟩) (by assumption) ?_
      rotate_left
      focus (intro w hSw; (try dsimp only at hSw); go_simp; try with_reducible rfl)
      try simp only [Act.put, List.setIfInBounds_toArray, List.set_cons_zero, List.set_cons_succ]
      refine wpAnyH_take (i := 6) (v := ?_) rfl (by kernel_rfl) (by kernel_rfl) (by kernel_rfl) (fun _ _ _ h => h) (Or.inl ⟨by rfl, ?_⟩) (by assumption) ?_
      rotate_left
      focus (intro w hSw; (try dsimp only at hSw); go_simp; try with_reducible rfl)
      try simp only [Act.put, List.setIfInBounds_toArray, List.set_cons_zero, List.set_cons_succ]
      refine wpAnyH_take (i := 7) (v := ?_) rfl (by kernel_rfl) (by kernel_rfl) (by kernel_rfl) (fun _ _ _ h => h) (Or.inl ⟨by rfl, ?_⟩) (by assumption) ?_
      rotate_left
      focus (intro w hSw; (try dsimp only at hSw); go_simp; try with_reducible rfl)
      try simp only [Act.put, List.setIfInBounds_toArray, List.set_cons_zero, List.set_cons_succ]
      refine wpAnyH_take (i := 8) (v := ?_) rfl (by kernel_rfl) (by kernel_rfl) (by kernel_rfl) (fun _ _ _ h => h) (Or.inl ⟨by rfl, ?_⟩) (by assumption) ?_
      rotate_left
      focus (intro w hSw; (try dsimp only at hSw); go_simp; try with_reducible rfl)
      try simp only [Act.put, List.setIfInBounds_toArray, List.set_cons_zero, List.set_cons_succ]
      refine wpAnyH_ready (rs := [9]) (by kernel_rfl) (by simp) ?_
      refine AllReadyH.cons (o := _) rfl (fun KK hKK => ?_) AllReadyH.nil
      go_simp
      (go_at_call 113; refine (cC.out _ (own_drew q) (by first | omega | (simp; omega))).mono ?_; rintro e w8 ⟨A8, c8, rfl, q8, kp8, hq8⟩; have kp8 := Kept.undrew kp8; have hz8 := kp8.size; have o8 := kp8.own o (fresh_apart o q (by decide)); have hK8 := hK.below (kp8.below (by omega)) (by omega); have g8 := g.trans ((kp8.below (by omega)).mono (by omega)); have hX8 := hK8.cell; have hwl8 := (o8.cellAt k (by omega)).trans ((o.cellAt k (by omega)).symm.trans hwl))
      refine hKK.out _ _ ?_ (fun hSS => ?_)
      focus ((refine ⟨?_, ?_⟩; all_goals first | with_reducible exact hwl8 | (simp [hX8]; done) | (simp only [World.cell?_drew]; exact hwl) | (simp [hX6]; done)))
      try simp only [Act.put, List.setIfInBounds_toArray, List.set_cons_zero, List.set_cons_succ]
      refine wpAnyH_take (i := 10) (v := ?_) rfl (by kernel_rfl) (by kernel_rfl) (by kernel_rfl) (fun _ _ _ h => h) (Or.inl ⟨by rfl, ?_⟩) (by assumption) ?_
      rotate_left
      focus (intro w hSw; (try dsimp only at hSw); go_simp; try with_reducible rfl)
      try simp only [Act.put, List.setIfInBounds_toArray, List.set_cons_zero, List.set_cons_succ]
      refine wpAnyH_done (by kernel_rfl) ?_ _
      simp only [List.getElem_toArray, List.getElem_cons_succ, List.getElem_cons_zero, Act.put, List.setIfInBounds_toArray, List.set_cons_zero, List.set_cons_succ]
      clear hKK cC
      go_wp2
      go_roundw
      case rel => exact ⟨A8, c8, k + 1, P2, rfl, by go_num, by omega, HSX.out.symm, hP2l, q8, o8, hK8, g8⟩
      case measure => simp [intOf]; omega
    · have hki : ¬ (k : Int) < cs.length := by omega
      have hkk : k = cs.length := by omega
      have hPe : P = K.bits cs := by rw [HP.out, hkk, HEN.out]
      rw [← hPe] at cP
      have hcv := conv_own q
      have hX := hK.cell
      clear hPe hkk
      go_wp2_with fail
      refine (cP.out _).mono ?_
      rintro e w9 ⟨rfl, b9⟩
      have g9 := g.trans (b9.mono (by omega))
      go_wp2
      go_ret2
      exact ⟨rfl, g9⟩
set_option maxHeartbeats 1000000 in
theorem iCompress_any (K : Kn) (A : Option Addr) (cap : Nat) (d : Bs) (w : World) (hk : K.ok) (hs : Sl w A K.ps.length cap 2 (psV K.ps)) (hdl : d.length ≤ 9223372036854775807) :
    Calls Tryz.prog 73 #[knV K A cap, sv d] w fun e w' => e = cmRes (compO K d) ∧ Below w.heap.size w w' := by
  by_cases hf : fits K.o K.l K.m d
  · have hE : cmRes (compO K d) = .returned (.tuple #[sv (packB K.o (K.bits (K.greedy d))), .bool true]) := by unfold compO; rw [if_pos hf]; rfl
    rw [hE]
    have cG : Go.RowKit.Hid (∀ wr, Below w.heap.size w wr → Calls Tryz.prog 97 #[knV K A cap, sv d] wr (GcRes (K.greedy d) wr)) := fun wr h => greedyCodes_yes K A cap d wr hk (hs.below h) hf
    have cP : Go.RowKit.Hid (∀ wr C cc, Below w.heap.size w wr → Sl wr C (K.greedy d).length cc 1 ((K.greedy d).map iv) → Calls Tryz.prog 98 #[knV K A cap, .slice C (K.greedy d).length cc] wr fun e w' => e = .returned (.tuple #[sv (packB K.o (K.bits (K.greedy d))), .bool true]) ∧ Below wr.heap.size wr w') := fun wr C cc h hc => packCodes_any K A cap C cc (K.greedy d) wr hk (hs.below h) hc (by have := greedy_len K d hk.base0 hf.2.1; omega) (goesD_greedy hk hf.2.2 hf.2.1)
    unfold GcRes at cG
    clear hs hf hE
    generalize packB K.o (K.bits (K.greedy d)) = R at *
    generalize (K.greedy d).map iv = gv at *
    generalize (K.greedy d).length = gl at *
    go_enter Tryz.func73, Tryz.ntmps73
    have hK0 : Bk (w.alloc (.cells (knC K A cap) 67)) w.heap.size 67 (knC K A cap) := (by (repeat (first | (with_reducible assumption) | (with_reducible exact Bk.new _ _ _) | (with_reducible refine Bk.newAt _ _ _ (by simp; done)) | (with_reducible refine Bk.drew ?_) | (with_reducible refine Bk.drewN ?_ _) | (with_reducible refine Bk.alloc ?_ _))); done)
    have g0 : Below w.heap.size w (w.alloc (.cells (knC K A cap) 67)) := (by repeat (first | (with_reducible exact Below.refl _ _) | (with_reducible assumption) | (with_reducible refine Below.drew ?_) | (with_reducible refine Below.alloc ?_ (by first | omega | (simp <;> omega)) _) | (with_reducible refine Below.setCell ?_ (by first | omega | (simp <;> omega)) _) | (with_reducible refine belowN ?_ _)))
    go_upto_region 1 with (fail)
    generalize w.alloc (.cells (knC K A cap) 67) = w0 at *
    have hX0 := hK0.cell
    have hz0' := hK0.lt
    go_wp2_with fail
    refine (cG.out _ g0).mono ?_
    rintro e w1 ⟨C, rfl, s1, b1⟩
    have z1 := b1.size
    have K1 := hK0.below b1 (by omega)
    have g1 := g0.trans (b1.mono (by omega))
    have hX1 := K1.cell
    clear hX0 hK0 g0 b1 cG
    go_wp2_with fail
    refine (cP.out _ _ _ g1 s1).mono ?_
    rintro e w2 ⟨rfl, b2⟩
    have g2 := g1.trans (b2.mono (by omega))
    go_wp2
    go_ret2
    exact ⟨rfl, g2⟩
  · have hE : cmRes (compO K d) = .returned (.tuple #[sv [], .bool false]) := by unfold compO; rw [if_neg hf]; rfl
    rw [hE]
    have cG : Go.RowKit.Hid (∀ wr, Below w.heap.size w wr → Calls Tryz.prog 97 #[knV K A cap, sv d] wr fun e w' => e = .returned (.tuple #[.slice none 0 0, .bool false]) ∧ Below wr.heap.size wr w') := fun wr h => greedyCodes_no K A cap d wr hk (hs.below h) hf hdl
    clear hs hf hE
    go_enter Tryz.func73, Tryz.ntmps73
    have hK0 : Bk (w.alloc (.cells (knC K A cap) 67)) w.heap.size 67 (knC K A cap) := (by (repeat (first | (with_reducible assumption) | (with_reducible exact Bk.new _ _ _) | (with_reducible refine Bk.newAt _ _ _ (by simp; done)) | (with_reducible refine Bk.drew ?_) | (with_reducible refine Bk.drewN ?_ _) | (with_reducible refine Bk.alloc ?_ _))); done)
    have g0 : Below w.heap.size w (w.alloc (.cells (knC K A cap) 67)) := (by repeat (first | (with_reducible exact Below.refl _ _) | (with_reducible assumption) | (with_reducible refine Below.drew ?_) | (with_reducible refine Below.alloc ?_ (by first | omega | (simp <;> omega)) _) | (with_reducible refine Below.setCell ?_ (by first | omega | (simp <;> omega)) _) | (with_reducible refine belowN ?_ _)))
    go_upto_region 1 with (fail)
    generalize w.alloc (.cells (knC K A cap) 67) = w0 at *
    have hX0 := hK0.cell
    have hz0' := hK0.lt
    go_wp2_with fail
    refine (cG.out _ g0).mono ?_
    rintro e w1 ⟨rfl, b1⟩
    have g1 := g0.trans (b1.mono (by omega))
    go_wp2
    go_ret2
    exact ⟨rfl, g1⟩
end Go.Proofs.YtfonokhafdflcaaGreat
