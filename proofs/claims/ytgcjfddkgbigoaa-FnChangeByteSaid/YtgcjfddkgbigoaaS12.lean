/- Walks: what is known is valid; what is known at the start, and learned from a dictionary; data compressed with it. -/
import Derived.Test.YtgcjfddkgbigoaaS11
namespace Go.Proofs.Ytgcjfddkgbigoaa
open Go.RowKit
set_option linter.unusedVariables false
set_option linter.unusedSimpArgs false
set_option maxRecDepth 100000
attribute [local go_sem high] run_index_S binOp_eql_S binOp_neq_S append_S toList_S size_S run_slice_S run_slice_from_S run_slice_to_S wrap64_byteAt wrap64_byteAt_mul bits_or_bytes convU conv1_some convU2 conv2_some
set_option maxHeartbeats 2000000 in
theorem knownValid_any (K : Kn) (A : Option Addr) (cap : Nat) (w : World) (hk : K.ok) (hs : Sl w A K.ps.length cap 2 (psV K.ps)) :
    Calls Try.prog 118 #[knV K A cap] w fun e w' => e = .returned (.bool true) ∧ Below w.heap.size w w' := by
  have hb := hk.bd
  have hp := hk.lm
  have hlen := hk.len
  have hb0 := hk.base0
  have hb1 := hk.base1
  unfold Kn.cl Kn.top at hlen
  obtain ⟨hp1, hp2, hp3, hp4⟩ := hp
  have hps : K.ps.length ≤ 100000 := by omega
  have hpw := pow2_bd K.l hp1 hp2
  have hpm := pow2_bd K.m hp3 hp4
  have cSV : Go.RowKit.Hid (∀ w, Calls Try.prog 110 #[.agg #[.int .i64 K.o, .int .i64 K.l, .int .i64 K.m]] w fun e w' => e = .returned (.bool true) ∧ Below w.heap.size w w') := fun w => (sSettingValid_any _ _ _ w).mono fun e w' ⟨h1, h2⟩ => ⟨by rw [h1, decide_eq_true hk.st], h2⟩
  have cPC : Go.RowKit.Hid (∀ (i : Nat) (hi : i < K.ps.length) w, Calls Try.prog 123 #[.agg #[.int .i64 K.o, .int .i64 K.l, .int .i64 K.m], .int .i64 K.ps[i].1, .int .i64 (i : Int)] w fun e w' => e = .returned (.bool true) ∧ Below w.heap.size w w') := fun i hi w => (l2Code_any _ _ _ _ i w hp1 hp2 (by omega)).mono fun e w' ⟨h1, h2⟩ => ⟨by rw [h1, decide_eq_true (show codeOk (pow2 K.l) i K.ps[i].1 from (hk.pairs i hi).1)], h2⟩
  have hPB : Go.RowKit.Hid (∀ (i : Nat) (hi : i < K.ps.length), 0 ≤ K.ps[i].2 ∧ K.ps[i].2 < K.cl) := fun i hi => (hk.pairs i hi).2
  have hLast := hk.last
  have hcap := hs.1
  have hcap2 := hs.2.1
  have HS : Go.RowKit.Hid (∀ wr, Below w.heap.size w wr → Sl wr A K.ps.length cap 2 (psV K.ps)) := fun wr h => hs.below h
  clear hs
  go_enter Try.func118, Try.ntmps118
  go_wp2_with fail
  have hK0 : Bk ((w.alloc (.cells (knC K A cap) 127)).alloc (.cells #[.int .i64 K.o, .int .i64 K.l, .int .i64 K.m] 69)) w.heap.size 127 (knC K A cap) := (by (repeat (first | (with_reducible assumption) | (with_reducible exact Bk.new _ _ _) | (with_reducible refine Bk.newAt _ _ _ (by simp; done)) | (with_reducible refine Bk.drew ?_) | (with_reducible refine Bk.drewN ?_ _) | (with_reducible refine Bk.alloc ?_ _))); done)
  have hI0 : Bk ((w.alloc (.cells (knC K A cap) 127)).alloc (.cells #[.int .i64 K.o, .int .i64 K.l, .int .i64 K.m] 69)) (w.heap.size + 1) 69 #[.int .i64 K.o, .int .i64 K.l, .int .i64 K.m] := (by (repeat (first | (with_reducible assumption) | (with_reducible exact Bk.new _ _ _) | (with_reducible refine Bk.newAt _ _ _ (by simp; done)) | (with_reducible refine Bk.drew ?_) | (with_reducible refine Bk.drewN ?_ _) | (with_reducible refine Bk.alloc ?_ _))); done)
  have g0 : Below w.heap.size w ((w.alloc (.cells (knC K A cap) 127)).alloc (.cells #[.int .i64 K.o, .int .i64 K.l, .int .i64 K.m] 69)) := (by repeat (first | (with_reducible exact Below.refl _ _) | (with_reducible assumption) | (with_reducible refine Below.drew ?_) | (with_reducible refine Below.alloc ?_ (by first | omega | (simp <;> omega)) _) | (with_reducible refine Below.setCell ?_ (by first | omega | (simp <;> omega)) _) | (with_reducible refine belowN ?_ _)))
  generalize (w.alloc (.cells (knC K A cap) 127)).alloc (.cells #[.int .i64 K.o, .int .i64 K.l, .int .i64 K.m] 69) = w0 at *
  have hG := box_class hK0.cell hK0.lt
  have hG2 := box_class hI0.cell hI0.lt
  have hz0 := hI0.lt
  have hdl : decide (pow2 K.m - 1 - (pow2 K.l + 1) < (K.ps.length : Int)) = false := by simp; omega
  refine wp_region_quiet_below (by kernel_rfl) (by kernel_rfl) ?_
  repeat (go_big_quiet_step ((first | (go_at_call 110; exact Calls.regrown_of (cSV.out _)) | (go_at_call 121; exact Calls.regrown_of (l1Last_any _ _ _ _ hp3 hp4)) | (go_at_call 122; exact Calls.regrown_of (l1End_any _ _ _ _ hp1 hp2)) | (go_at_call 51; exact Calls.regrown_of (l1In_true _ _ _ _ (by omega))))))
  refine wpQuiet_nil ?_
  intro w2 hw2
  have hb2 : Below _ _ w2 := below_of_class hw2
  clear hw2
  have hz2 := hb2.size
  have hK2 := hK0.below hb2 (by omega)
  have hI2 := hI0.below hb2 (by omega)
  have g2 := g0.trans (hb2.mono (by omega))
  clear hG hG2 hK0 hI0 g0 hb2 cSV
  go_wp2
  go_loopw [4] (fun i wr => ∃ k : Nat, i = .int .i64 (k : Int) ∧ k ≤ K.ps.length ∧ Bk wr w.heap.size 127 (knC K A cap) ∧ Bk wr (w.heap.size + 1) 69 #[.int .i64 K.o, .int .i64 K.l, .int .i64 K.m] ∧ Below w.heap.size w wr) (fun i _ => K.ps.length - (intOf i).toNat)
  case atStart => exact ⟨0, rfl, by omega, hK2, hI2, g2⟩
  case round =>
    obtain ⟨k, rfl, hk', hK3, hI3, g3⟩ := hrel
    clear hK2 hI2 g2
    have hz3 := hI3.lt
    have hX := hK3.cell
    have hY := hI3.cell
    by_cases hlt : k < K.ps.length
    · have hki : (k : Int) < K.ps.length := by omega
      obtain ⟨g, off, rfl, hg, h1, h2⟩ := sl_pair (HS.out wr g3) k hlt
      have cP := cPC.out k hlt
      have hpb := hPB.out k hlt
      unfold Kn.cl at hpb
      generalize K.ps[k] = pr at *
      obtain ⟨p1, p2⟩ := pr
      simp only at h1 h2 cP hpb
      have hG := box_class hK3.cell hK3.lt
      have hG2 := box_class hI3.cell hI3.lt
      have hG3 := cell_class h1 hg
      have hG4 := cell_class h2 hg
      go_wp2_with fail
      refine wp_region_quiet_below (by kernel_rfl) (by kernel_rfl) ?_
      repeat (go_big_quiet_step ((first | (go_at_call 123; exact Calls.regrown_of (cP _)) | (go_at_call 104; exact Calls.regrown_of (l1Clear_any _ _ _ _ hp1 hp2)) | (go_at_call 51; exact Calls.regrown_of (l1In_true _ _ _ _ (by omega))))))
      refine wpQuiet_nil ?_
      intro w4 hw2
      have hb4 : Below _ _ w4 := below_of_class hw2
      clear hw2
      have hz4 := hb4.size
      have hK4 := hK3.below hb4 (by omega)
      have hI4 := hI3.below hb4 (by omega)
      have g4 := g3.trans (hb4.mono (by omega))
      clear hG hG2 hG3 hG4 hK3 hI3 g3 hb4 hX hY cP h1 h2
      go_wp2
      go_roundw
      case rel => exact ⟨k + 1, by go_num, by omega, hK4, hI4, g4⟩
      case measure => simp [intOf]; omega
    · have hki : ¬ (k : Int) < K.ps.length := by omega
      by_cases hc : codeOk K.cl K.ps.length K.last
      · have hd : decide (codeOk (pow2 K.l) K.ps.length K.last) = true := decide_eq_true hc
        clear hc hLast
        go_wp2_with fail
        refine (l2Code_any _ _ _ _ _ _ hp1 hp2 hps).mono ?_
        rintro e w4 ⟨rfl, hb4⟩
        have g4 := g3.trans (hb4.mono (by omega))
        go_wp2
        go_ret
        exact ⟨rfl, g4⟩
      · have hd : decide (codeOk (pow2 K.l) K.ps.length K.last) = false := decide_eq_false hc
        have hl : K.last = -1 ∧ K.base = K.ps.length := hLast.elim id (fun h => absurd h hc)
        obtain ⟨hl1, hl2⟩ := hl
        have hd1 : (K.last == (-1 : Int)) = true := by simpa using hl1
        have hd2 : (K.base == (K.ps.length : Int)) = true := by simpa using hl2
        clear hc hLast hl1 hl2
        go_wp2_with fail
        refine (l2Code_any _ _ _ _ _ _ hp1 hp2 hps).mono ?_
        rintro e w4 ⟨rfl, hb4⟩
        have g4 := g3.trans (hb4.mono (by omega))
        have hK4 := hK3.below hb4 (by omega)
        have hX4 := hK4.cell
        go_wp2
        go_ret
        exact ⟨rfl, g4⟩
end Go.Proofs.Ytgcjfddkgbigoaa
