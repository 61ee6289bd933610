/- Walks: the law of found blocks. -/
import Derived.Test.YtgcjfddkgbigoaaE4
import Derived.Test.YtgcjfddkgbigoaaGP2
import Derived.Test.YtgcjfddkgbigoaaGB
import Derived.Laws.StructEq
namespace Go.Proofs.Ytgcjfddkgbigoaa
open Go.RowKit
set_option linter.unusedSimpArgs false
set_option linter.unusedVariables false
set_option maxRecDepth 100000
attribute [local go_sem high] run_index_S binOp_eql_S binOp_neq_S append_S toList_S size_S run_slice_S run_slice_from_S run_slice_to_S wrap64_byteAt wrap64_byteAt_mul bits_or_bytes convU conv1_some convU2 conv2_some
theorem stood_Found : Try.prog.stoodInHeld 40 = false := by kernel_rfl
theorem guard_Found : Try.prog.eqGuardType Try.prog.depth 40 = false := by kernel_rfl
theorem stood_Block : Try.prog.stoodInHeld 32 = false := by kernel_rfl
theorem guard_Block : Try.prog.eqGuardType Try.prog.depth 32 = false := by kernel_rfl
theorem Sl.fd {w : World} {A : Option Addr} {fs : List Fd} {cap : Nat} (h : Sl w A fs.length cap 5 (fsV fs)) {k : Nat} (hk : k < fs.length) : ∃ g off, A = some ⟨g, off, none⟩ ∧ g < w.heap.size ∧
    w.cell? ⟨g, off + k * 5, none⟩ = some (.int .i64 fs[k].1) ∧ w.cell? ⟨g, off + k * 5 + 1, none⟩ = some (.int .i64 fs[k].2.num) ∧ w.cell? ⟨g, off + k * 5 + 2, none⟩ = some (.bool fs[k].2.raw) ∧ w.cell? ⟨g, off + k * 5 + 3, none⟩ = some (.int .i64 fs[k].2.size) ∧ w.cell? ⟨g, off + k * 5 + 4, none⟩ = some (.string ⟨fs[k].2.body.toArray⟩) := by
  obtain ⟨g, off, e, hg, hc⟩ := Sl.cellK h hk
  have hcs := fsV_at fs k hk
  rw [Nat.mul_comm 5 k] at hcs
  exact ⟨g, off, e, hg, hc 0 _ hcs.1, hc 1 _ hcs.2.1, hc 2 _ hcs.2.2.1, hc 3 _ hcs.2.2.2.1, hc 4 _ hcs.2.2.2.2⟩
set_option maxHeartbeats 2000000 in
theorem soFound_same (fs : List Fd) (A : Option Addr) (cap : Nat) (A' : Option Addr) (cap' : Nat) (w : World) (hs : Sl w A fs.length cap 5 (fsV fs)) (hs' : Sl w A' fs.length cap' 5 (fsV fs)) (hl : fs.length ≤ 1000000) :
    Calls Try.prog 24 #[.slice A fs.length cap, .slice A' fs.length cap'] w fun e w' => e = .returned (.bool true) ∧ Below w.heap.size w w' := by
  have hst := stood_Found
  have hgd := guard_Found
  have hst2 := stood_Block
  go_enter Try.func24, Try.ntmps24
  go_wp2
  have hS : Go.RowKit.Hid (∀ wr, Below w.heap.size w wr → Sl wr A fs.length cap 5 (fsV fs)) := fun wr h => hs.below h
  have hS' : Go.RowKit.Hid (∀ wr, Below w.heap.size w wr → Sl wr A' fs.length cap' 5 (fsV fs)) := fun wr h => hs'.below h
  have hcap := hs.1
  have hcap' := hs'.1
  clear hs hs'
  go_loopw [5] (fun i wr => ∃ k : Nat, i = .int .i64 k ∧ k ≤ fs.length ∧ Below w.heap.size w wr) (fun i _ => fs.length - (intOf i).toNat)
  case atStart => exact ⟨0, rfl, by omega, (by repeat (first | (with_reducible exact Below.refl _ _) | (with_reducible assumption) | (with_reducible refine Below.drew ?_) | (with_reducible refine Below.alloc ?_ (by first | omega | (simp <;> omega)) _) | (with_reducible refine Below.setCell ?_ (by first | omega | (simp <;> omega)) _) | (with_reducible refine belowN ?_ _)))⟩
  case round =>
    obtain ⟨k, rfl, hk, hb⟩ := hrel
    have hws := hb.size
    by_cases hlt : k < fs.length
    · have hki : (k : Int) < fs.length := by omega
      obtain ⟨g, off, rfl, hg, c0, c1, c2, c3, c4⟩ := (hS.out wr hb).fd hlt
      obtain ⟨g', off', rfl, hg', d0, d1, d2, d3, d4⟩ := (hS'.out wr hb).fd hlt
      generalize fs[k] = f at *
      obtain ⟨x, n2, r, n4, D⟩ := f
      simp only at c0 c1 c2 c3 c4 d0 d1 d2 d3 d4
      go_wp2_with fail
      go_quiet (fail)
      go_wp2
      go_roundw
      case rel => exact ⟨k + 1, by go_num, by omega, (by repeat (first | (with_reducible exact Below.refl _ _) | (with_reducible assumption) | (with_reducible refine Below.drew ?_) | (with_reducible refine Below.alloc ?_ (by first | omega | (simp <;> omega)) _) | (with_reducible refine Below.setCell ?_ (by first | omega | (simp <;> omega)) _) | (with_reducible refine belowN ?_ _)))⟩
      case measure => simp [intOf]; omega
    · have hki : ¬ (k : Int) < fs.length := by omega
      go_wp2
      go_ret
      exact ⟨rfl, (by repeat (first | (with_reducible exact Below.refl _ _) | (with_reducible assumption) | (with_reducible refine Below.drew ?_) | (with_reducible refine Below.alloc ?_ (by first | omega | (simp <;> omega)) _) | (with_reducible refine Below.setCell ?_ (by first | omega | (simp <;> omega)) _) | (with_reducible refine belowN ?_ _)))⟩
set_option maxHeartbeats 4000000 in
theorem law_FindBlocks (bs : Bs) (A : Option Addr) (cap : Nat) (w : World) (hs : Sl w A bs.length cap 1 (bs.map u8v)) :
    Calls Try.prog 6 #[.slice A bs.length cap] w fun e w' => e = .returned (.bool true) ∧ Below w.heap.size w w' := by
  go_enter Try.func6, Try.ntmps6
  by_cases hl0 : 1048576 < bs.length
  · have hli : (1048576 : Int) < bs.length := by omega
    go_wp2
    go_ret
    exact ⟨rfl, Below.refl _ _⟩
  have hli0 : ¬ (1048576 : Int) < bs.length := by omega
  clear hl0
  go_wp2_with fail
  refine (drawFindBlocks_any bs A cap _ hs).mono ?_
  rintro e w1 ⟨⟨l, rfl, hl⟩, g1⟩
  have z1 := g1.size
  have cI := fun w => findBlocks_any l w (by omega)
  have cS := fun w => sFindBlocks_any l w (by omega)
  have HCH := Go.Lib.hid (find_chain l)
  have hfl := chain_len HCH.out (by omega)
  have HP := Go.Lib.hid (fun a w (h : parseOk l a = true) h1 h2 => iParse_yes l a w (by omega) h1 h2 h)
  have HN := Go.Lib.hid (fun a w h1 h2 => nextBlock_any l a w (by omega) h1 h2)
  have hst := stood_Block
  have hgd := guard_Block
  generalize findB l = F at *
  unfold FsRes at cI cS
  go_wp2_with fail
  refine (cI _).mono ?_
  rintro e w2 ⟨A2, c2, rfl, o2, hb2⟩
  have z2 := hb2.size
  have g2 := g1.trans (hb2.mono (by omega))
  have S2 := own_Sl o2
  clear hb2 g1 o2 cI
  go_wp2_with fail
  refine (cS _).mono ?_
  rintro e w3 ⟨A3, c3, rfl, o3, hb3⟩
  have z3 := hb3.size
  have g3 := g2.trans (hb3.mono (by omega))
  have S3 := S2.below hb3
  have T3 := own_Sl o3
  clear hb3 g2 o3 S2
  have hsC := fun w A cap A' cap' h h' => soFound_same F A cap A' cap' w h h' (by omega)
  go_wp2_with fail
  refine (hsC _ _ _ _ _ S3 T3).mono ?_
  rintro e w4 ⟨rfl, hb4⟩
  have z4 := hb4.size
  have g4 := g3.trans (hb4.mono (by omega))
  have S4 := S3.below hb4
  clear hb4 g3 T3 S3
  by_cases hl8 : 8000 < l.length
  · have hl8i : (8000 : Int) < l.length := by omega
    go_wp2_with fail
    refine (cS _).mono ?_
    rintro e w5 ⟨A5, c5, rfl, o5, hb5⟩
    have z5 := hb5.size
    have g5 := g4.trans (hb5.mono (by omega))
    have S5 := S4.below hb5
    have T5 := own_Sl o5
    clear hb5 g4 o5 S4 cS
    go_wp2_with fail
    refine (hsC _ _ _ _ _ S5 T5).mono ?_
    rintro e w6 ⟨rfl, hb6⟩
    have z6 := hb6.size
    have g6 := g5.trans (hb6.mono (by omega))
    go_wp2
    go_ret
    exact ⟨rfl, g6⟩
  have hl8i : ¬ (8000 : Int) < l.length := by omega
  clear hsC cS
  have HS : Go.RowKit.Hid (∀ wr, Below w4.heap.size w4 wr → Sl wr A2 F.length c2 5 (fsV F)) := fun wr h => S4.below h
  have hcap := S4.1
  clear S4
  go_wp2
  go_loopw [5, 6] (fun a i wr => ∃ (x k : Nat), a = .int .i64 x ∧ i = .int .i64 k ∧ k ≤ F.length ∧ x ≤ l.length ∧ Go.RowKit.Hid (FdChain l x (F.drop k)) ∧ Below w4.heap.size w4 wr) (fun _ i _ => F.length - (intOf i).toNat)
  case atStart => exact ⟨0, 0, rfl, rfl, by omega, by omega, (by show FdChain _ _ _; simpa using HCH.out), (by repeat (first | (with_reducible exact Below.refl _ _) | (with_reducible assumption) | (with_reducible refine Below.drew ?_) | (with_reducible refine Below.alloc ?_ (by first | omega | (simp <;> omega)) _) | (with_reducible refine Below.setCell ?_ (by first | omega | (simp <;> omega)) _) | (with_reducible refine belowN ?_ _)))⟩
  case round =>
    obtain ⟨x, k, rfl, rfl, hk, hx, HC, hb⟩ := hrel
    have hws := hb.size
    by_cases hlt : k < F.length
    · have hki : (k : Int) < F.length := by omega
      obtain ⟨h1, h2, h3, h4, h5⟩ := chain_drop hlt HC.out
      have hpb := parse_bd h3
      obtain ⟨_, hp1, hp2, _⟩ := hpb
      have HC2 := Go.Lib.hid h5
      have S5 := HS.out wr hb
      have CN := fun w => HN.out (x : Int) w (by omega) (by omega)
      rw [h1] at CN
      have HPP := Go.Lib.hid (fun w => HP.out F[k].1 w h3 (by omega) (by omega))
      rw [h4] at HPP
      clear h3 h1 h4 h5 HC
      have HFD := Go.Lib.hid (fun wr h => (HS.out wr h).fd hlt)
      generalize F[k] = f at *
      obtain ⟨X, n2, r, n4, D⟩ := f
      simp only at h2 hp1 hp2 CN HC2 HPP HFD
      obtain ⟨g, off, rfl, hg, c0, c1, c2, c3, c4⟩ := HFD.out wr hb
      generalize endAt l X = E at *
      clear S5
      have C0 := fun d os => cell_regrown c0 d os
      go_wp2_with fail
      refine wp_region_quiet_below (by kernel_rfl) (by kernel_rfl) ?_
      repeat (go_big_quiet_step ((go_at_call 19; exact Calls.regrown_of (CN _))))
      refine wpQuiet_nil ?_
      intro w5 hw2
      have hb5 : Below _ _ w5 := below_of_class hw2
      clear hw2
      have z5 := hb5.size
      have g5 := hb.trans (hb5.mono (by omega))
      clear c0 C0 CN hb5
      obtain ⟨g5', off5, hA5, hg5, c0, _, _, _, _⟩ := HFD.out w5 g5
      injection hA5 with hA5
      injection hA5 with hA51 hA52
      subst hA51 hA52
      try simp only at c0
      go_wp2_with fail
      refine (HPP.out _).mono ?_
      rintro e w6 ⟨rfl, hb6⟩
      have z6 := hb6.size
      have g6 := g5.trans (hb6.mono (by omega))
      obtain ⟨g', off', hA, hg', d0, d1, d2, d3, d4⟩ := HFD.out w6 g6
      injection hA with hA
      injection hA with hA1 hA2
      subst hA1 hA2
      try simp only at d1 d2 d3 d4
      have K6 := Bk.new w6 (bkC ⟨n2, r, n4, D⟩) 32
      have X6 := K6.cell
      clear hb6 g5 c1 c2 c3 c4 d0
      go_wp2_with fail
      go_quiet (fail)
      go_wp2
      obtain ⟨e0, rfl⟩ := Int.eq_ofNat_of_zero_le (by omega : 0 ≤ E)
      go_roundw
      case rel => exact ⟨e0, k + 1, by go_num, by go_num, by omega, by omega, HC2.out, (by repeat (first | (with_reducible exact Below.refl _ _) | (with_reducible assumption) | (with_reducible refine Below.drew ?_) | (with_reducible refine Below.alloc ?_ (by first | omega | (simp <;> omega)) _) | (with_reducible refine Below.setCell ?_ (by first | omega | (simp <;> omega)) _) | (with_reducible refine belowN ?_ _)))⟩
      case measure => simp [intOf]; omega
    · have hki : ¬ (k : Int) < F.length := by omega
      have hce := chain_end (by omega) HC.out
      have CN := HN.out (x : Int) wr (by omega) (by omega)
      rw [hce] at CN
      clear HC hce
      go_wp2_with fail
      refine CN.mono ?_
      rintro e w5 ⟨rfl, hb5⟩
      have g5 := g4.trans ((hb.trans (hb5.mono (by omega))).mono (by omega))
      go_wp2
      go_ret
      exact ⟨ret_bool (by first | rfl | simp), g5⟩
end Go.Proofs.Ytgcjfddkgbigoaa
