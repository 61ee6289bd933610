/- The law: pieces are the data of found blocks. -/
import Derived.Test.YtoogaalbnnlloaaGreatM3
import Derived.Test.YtoogaalbnnlloaaGreatR3
import Derived.Laws.StructEq
namespace Go.Proofs.YtoogaalbnnlloaaGreat
open Go.RowKit
set_option linter.unusedSimpArgs false
set_option linter.unusedVariables false
set_option maxRecDepth 100000
attribute [local go_sem high] run_index_S binOp_eql_S binOp_neq_S append_S toList_S size_S run_slice_S run_slice_from_S run_slice_to_S wrap64_byteAt wrap64_byteAt_mul bits_or_bytes convU conv1_some convU2 conv2_some
theorem stood_Piece : Tryz.prog.stoodInHeld 33 = false := by kernel_rfl
theorem guard_Piece : Tryz.prog.eqGuardType Tryz.prog.depth 33 = false := by kernel_rfl
theorem Sl.pcM {w : World} {A : Option Addr} {ps : List Pc} {cap : Nat} (h : Sl w A ps.length cap 2 (pcsV ps)) {k : Nat} (hk : k < ps.length) : ∃ g off, A = some ⟨g, off, none⟩ ∧ g < w.heap.size ∧
    w.cell? ⟨g, off + k * 2, none⟩ = some (.int .i64 ps[k].1) ∧ w.cell? ⟨g, off + k * 2 + 1, none⟩ = some (.string ⟨ps[k].2.toArray⟩) := by
  obtain ⟨g, off, e, hg, hc⟩ := Sl.cellK h hk
  have hcs := pcsV_at ps k hk
  exact ⟨g, off, e, hg, hc 0 _ hcs.1, hc 1 _ hcs.2⟩
set_option maxHeartbeats 1000000 in
theorem soPieces_same (ps : List Pc) (A B : Option Addr) (ca cb : Nat) (w : World) (ha : Sl w A ps.length ca 2 (pcsV ps)) (hb : Sl w B ps.length cb 2 (pcsV ps)) (hn : ps.length ≤ 9000000) :
    Calls Tryz.prog 38 #[.slice A ps.length ca, .slice B ps.length cb] w fun e w' => e = .returned (.bool true) ∧ Below w.heap.size w w' := by
  have hst := stood_Piece
  have hgd := guard_Piece
  have h1 := ha.1
  have h2 := hb.1
  have HA : Go.RowKit.Hid (∀ wr, Below w.heap.size w wr → Sl wr A ps.length ca 2 (pcsV ps)) := fun wr h => ha.below h
  have HB : Go.RowKit.Hid (∀ wr, Below w.heap.size w wr → Sl wr B ps.length cb 2 (pcsV ps)) := fun wr h => hb.below h
  clear ha hb
  go_enter Tryz.func38, Tryz.ntmps38
  go_wp2
  go_loopw [5] (fun a wr => ∃ k : Nat, k ≤ ps.length ∧ a = .int .i64 (k : Int) ∧ Below w.heap.size w wr) (fun a _ => ps.length - (intOf a).toNat)
  case atStart => exact ⟨0, by omega, rfl, Below.refl _ _⟩
  case round =>
    obtain ⟨k, hk, rfl, hbw⟩ := hrel
    have hz := hbw.size
    by_cases hlt : k < ps.length
    · have h1 : (k : Int) < ps.length := by omega
      obtain ⟨g, off, rfl, hg, c0, c1⟩ := (HA.out wr hbw).pcM hlt
      obtain ⟨g2, off2, rfl, hg2, d0, d1⟩ := (HB.out wr hbw).pcM hlt
      generalize ps[k].1 = a at *
      generalize ps[k].2 = b at *
      go_wp2_with fail
      go_quiet (fail)
      go_wp2
      go_roundw
      case rel => exact ⟨k + 1, by omega, by go_num, (by repeat (first | (with_reducible exact Below.refl _ _) | (with_reducible assumption) | (with_reducible refine Below.drew ?_) | (with_reducible refine Below.alloc ?_ (by first | omega | (simp <;> omega)) _) | (with_reducible refine Below.setCell ?_ (by first | omega | (simp <;> omega)) _) | (with_reducible refine belowN ?_ _)))⟩
      case measure => simp [intOf]; omega
    · have h1 : ¬ (k : Int) < ps.length := by omega
      go_wp2
      go_ret
      exact ⟨rfl, hbw⟩
theorem asc_len : ∀ (xs ys : List Int), xs.Pairwise (· < ·) → (∀ x ∈ xs, x ∈ ys) → xs.length ≤ ys.length
  | [], ys, _, _ => by simp
  | x :: xs, ys, h, hm => by
    have hx : x ∈ ys := hm x (by simp)
    rw [List.pairwise_cons] at h
    have ih := asc_len xs (ys.erase x) h.2 (fun z hz => by
      have h1 := h.1 z hz
      rw [List.mem_erase_of_ne (by omega)]
      exact hm z (by simp [hz]))
    have hl := List.length_erase_of_mem hx
    have hp := List.length_pos_of_mem hx
    simp only [List.length_cons]
    omega
/-- What a piece is: the data of the first found block with its number. -/
theorem pcs_from {o l m : Int} {dict t : Bs} {i : Nat} (h : i < (pcsB o l m dict t).length) : ∃ b, firstF (findB t) (pcsB o l m dict t)[i].1 = some b ∧ b.ok = true ∧ bdB o l m dict b = some (pcsB o l m dict t)[i].2 := by
  have hm := List.getElem_mem h
  have hf : fits o l m dict := by
    by_cases hf : fits o l m dict
    · exact hf
    · rw [pcsB_no hf] at h; simp at h
  generalize (pcsB o l m dict t)[i] = p at *
  rw [pcsB_yes hf] at hm
  unfold pcTo at hm
  obtain ⟨n, hn, e⟩ := List.mem_filterMap.1 hm
  unfold pcOf at e
  cases h1 : firstF (findB t) (n : Int) with
  | none => rw [h1] at e; cases e
  | some b =>
    rw [h1, Option.bind_some] at e
    cases h2 : b.dat (startW o l m dict) with
    | none => rw [h2] at e; cases e
    | some d =>
      rw [h2] at e
      injection e with e
      subst e
      have hok := find_ok t _ _ h1
      exact ⟨b, h1, hok, by unfold bdB; rw [if_pos ⟨hf, hok⟩]; exact h2⟩
theorem pcs_len (o l m : Int) (dict t : Bs) : (pcsB o l m dict t).length ≤ (findB t).length := by
  have hok := pcsB_ok o l m dict t
  have h1 : ((pcsB o l m dict t).map (·.1)).Pairwise (· < ·) := by
    rw [List.pairwise_iff_getElem]
    intro i j hi hj hij
    simp only [List.length_map] at hi hj
    rw [List.getElem_map, List.getElem_map]
    have key : ∀ (j i : Nat) (hj : j < (pcsB o l m dict t).length) (hi : i < j), ((pcsB o l m dict t)[i]'(by omega)).1 < (pcsB o l m dict t)[j].1 := by
      intro j
      induction j with
      | zero => intro i _ hi; omega
      | succ j ih =>
        intro i hj hi
        have h1 := hok.2 j hj
        by_cases he : i = j
        · subst he; exact h1
        · have := ih i (by omega) (by omega); omega
    exact key j i hj hij
  have h2 := asc_len _ ((findB t).map (·.2.num)) h1 (fun x hx => by
    obtain ⟨p, hp, rfl⟩ := List.mem_map.1 hx
    obtain ⟨i, hi, rfl⟩ := List.getElem_of_mem hp
    obtain ⟨b, hb, _⟩ := pcs_from hi
    unfold firstF at hb
    cases hf : (findB t).find? (fun f => decide (f.2.num = (pcsB o l m dict t)[i].1)) with
    | none => rw [hf] at hb; cases hb
    | some f =>
      have e1 := List.find?_some hf
      have e2 := List.mem_of_find?_eq_some hf
      simp at e1
      exact List.mem_map.2 ⟨f, e2, e1⟩)
  simpa using h2
set_option maxHeartbeats 4000000 in
theorem law_SalvageTrue (bs : Bs) (A : Option Addr) (cap : Nat) (w : World) (hs : Sl w A bs.length cap 1 (bs.map u8v)) :
    Calls Tryz.prog 12 #[.slice A bs.length cap] w fun e w' => e = .returned (.bool true) ∧ Below w.heap.size w w' := by
  go_enter Tryz.func12, Tryz.ntmps12
  by_cases hl0 : 1048576 < bs.length
  · have hli : (1048576 : Int) < bs.length := by omega
    go_wp2
    go_ret
    exact ⟨rfl, Below.refl _ _⟩
  have hli0 : ¬ (1048576 : Int) < bs.length := by omega
  clear hl0
  go_wp2_with fail
  refine (drawSalvage_any bs A cap _ hs).mono ?_
  rintro e w1 ⟨⟨o, l, m, dict, t, rfl, hdl, htl⟩, g1⟩
  have z1 := g1.size
  have hK2 := Bk.new w1 #[.int .i64 o, .int .i64 l, .int .i64 m] 38
  have g2 := g1.alloc z1 (.cells #[.int .i64 o, .int .i64 l, .int .i64 m] 38)
  clear hs
  go_upto_region 4 with (fail)
  generalize w1.alloc (.cells #[.int .i64 o, .int .i64 l, .int .i64 m] 38) = W at *
  have z2 := hK2.lt
  generalize w1.heap.size = q1 at *
  have cG := fun w => salvage_any o l m dict t w (by omega) (by omega)
  have cP := fun w => sSalvage_any o l m dict t w (by omega) (by omega)
  have cF := fun w => findBlocks_any t w (by omega)
  have hpl := pcsB_len o l m dict t
  have hpf := pcs_len o l m dict t
  have HPO := Go.Lib.hid (pcsB_ok o l m dict t)
  have HPF : Go.RowKit.Hid (∀ (i : Nat) (h : i < (pcsB o l m dict t).length), ∃ b, firstF (findB t) (pcsB o l m dict t)[i].1 = some b ∧ b.ok = true ∧ bdB o l m dict b = some (pcsB o l m dict t)[i].2) := fun i h => pcs_from h
  have hfl : (findB t).length ≤ 1000000 := by have := findB_len t; omega
  have cD : Go.RowKit.Hid (∀ b w, b.ok = true → Calls Tryz.prog 51 #[.agg #[.int .i64 o, .int .i64 l, .int .i64 m], sv dict, bkV b] w fun e w' => e = datRes (bdB o l m dict b) ∧ Below w.heap.size w w') := fun b w h => iBlockData_any o l m dict b w (by omega) h
  unfold PcRes at cG cP
  unfold FsRes at cF
  generalize pcsB o l m dict t = ps at *
  generalize findB t = fs at *
  have hX2 := hK2.cell
  go_wp2_with fail
  refine (cG _).mono ?_
  rintro e w3 ⟨A3, c3, rfl, o3, b3⟩
  have z3 := b3.size
  have hK3 := hK2.below b3 z2
  have g3 := g2.trans (b3.mono (by omega))
  have s3 := own_Sl o3
  have hX3 := hK3.cell
  clear b3 o3 hK2 g2 hX2 cG
  go_wp2_with fail
  refine (cP _).mono ?_
  rintro e w4 ⟨A4, c4, rfl, o4, b4⟩
  have z4 := b4.size
  have hK4 := hK3.below b4 (by omega)
  have g4 := g3.trans (b4.mono (by omega))
  have s4 := s3.below b4
  have t4 := own_Sl o4
  clear b4 o4 hK3 g3 hX3 cP s3
  go_wp2_with fail
  refine (soPieces_same ps _ _ _ _ w4 s4 t4 (by omega)).mono ?_
  rintro e w5 ⟨rfl, b5⟩
  have z5 := b5.size
  have hK5 := hK4.below b5 (by omega)
  have g5 := g4.trans (b5.mono (by omega))
  have s5 := s4.below b5
  clear b5 hK4 g4 s4 t4
  go_wp2_with fail
  refine (cF _).mono ?_
  rintro e w6 ⟨A6, c6, rfl, o6, b6⟩
  have z6 := b6.size
  have hK6 := hK5.below b6 (by omega)
  have g6 := g5.trans (b6.mono (by omega))
  have s6 := s5.below b6
  have f6 := own_Sl o6
  clear b6 o6 hK5 g5 s5 cF
  have hcp := s6.1
  have hcp2 := s6.2.1
  have hcf := f6.1
  have hcf2 := f6.2.1
  have zg6 := g6.size
  have HW : Go.RowKit.Hid (∀ wr, Below w6.heap.size w6 wr → Bk wr q1 38 #[.int .i64 o, .int .i64 l, .int .i64 m] ∧ Sl wr A3 ps.length c3 2 (pcsV ps) ∧ Sl wr A6 fs.length c6 5 (fsV fs) ∧ Below w.heap.size w wr) := fun wr h => ⟨hK6.below h (by omega), s6.below h, f6.below h, g6.trans (h.mono zg6)⟩
  clear hK6 s6 f6 g6
  go_wp2
  go_loopw [8] (fun i wr => ∃ k : Nat, i = .int .i64 (k : Int) ∧ k ≤ ps.length ∧ Below w6.heap.size w6 wr) (fun i _ => ps.length - (intOf i).toNat)
  case atStart => exact ⟨0, rfl, by omega, Below.refl _ _⟩
  case round =>
    obtain ⟨k, rfl, hk, hb⟩ := hrel
    have hz := hb.size
    by_cases hlt : k < ps.length
    · have hki : (k : Int) < ps.length := by omega
      obtain ⟨b, hfb, hbo, hbd⟩ := HPF.out k hlt
      have HFN : Go.RowKit.Hid (∀ (j : Nat) (hj : j < fs.length), firstF (fs.take j) ps[k].1 = none → fs[j].2.num = ps[k].1 → fs[j].2 = b) := fun j hj h h2 => by
        have e := firstF_found fs ps[k].1 j hj h h2
        rw [hfb] at e; injection e with e; exact e.symm
      have HFS : Go.RowKit.Hid (∀ (j : Nat) (hj : j < fs.length), firstF (fs.take j) ps[k].1 = none → fs[j].2.num ≠ ps[k].1 → firstF (fs.take (j + 1)) ps[k].1 = none) := fun j hj h h2 => by
        rw [firstF_take fs ps[k].1 j hj h, if_neg h2]
      have HFE : Go.RowKit.Hid (firstF (fs.take fs.length) ps[k].1 ≠ none) := by
        show _ ≠ _
        rw [List.take_length, hfb]; simp
      have HF0 : Go.RowKit.Hid (firstF (fs.take 0) ps[k].1 = none) := rfl
      have cB := fun w => cD.out b w hbo
      rw [hbd] at cB
      have HPR : Go.RowKit.Hid (∀ j, k = j + 1 → ∀ wq, Below w6.heap.size w6 wq → ∃ g off y, A3 = some ⟨g, off, none⟩ ∧ wq.cell? ⟨g, off + j * 2, none⟩ = some (.int .i64 y) ∧ y < ps[k].1) := fun j e wq h => by
        subst e
        obtain ⟨g, off, eA, _, c, _⟩ := ((HW.out wq h).2.1).pcM (show j < ps.length by omega)
        exact ⟨g, off, _, eA, c, HPO.out.2 j hlt⟩
      have HEL : Go.RowKit.Hid (∀ wq, Below w6.heap.size w6 wq → ∃ g off, A3 = some ⟨g, off, none⟩ ∧ wq.cell? ⟨g, off + k * 2, none⟩ = some (.int .i64 ps[k].1) ∧ wq.cell? ⟨g, off + k * 2 + 1, none⟩ = some (.string ⟨ps[k].2.toArray⟩)) := fun wq h => by
        obtain ⟨g, off, eA, _, c, c'⟩ := ((HW.out wq h).2.1).pcM hlt
        exact ⟨g, off, eA, c, c'⟩
      clear hfb hbo hbd
      generalize ps[k].1 = n at *
      generalize ps[k].2 = d at *
      go_wp2
      generalize wr = wo at *
      go_loopw [9, 10] (fun dn i wr => ∃ (j : Nat) (dd : Bool), dn = .bool dd ∧ i = .int .i64 (j : Int) ∧ j ≤ fs.length ∧ Go.RowKit.Hid (dd = false → firstF (fs.take j) n = none) ∧ Below w6.heap.size w6 wr) (fun _ i _ => fs.length - (intOf i).toNat)
      case atStart => exact ⟨0, false, rfl, rfl, by omega, fun _ => HF0.out, hb⟩
      case round =>
        obtain ⟨j, dd, rfl, rfl, hj, HN, hbi⟩ := hrel
        have hzi := hbi.size
        by_cases hjl : j < fs.length
        · have hji : (j : Int) < fs.length := by omega
          cases dd with
          | false =>
            obtain ⟨hBk, _, hsf, _⟩ := HW.out wr hbi
            obtain ⟨g, off, eA, c0, c1⟩ := HEL.out wr hbi
            obtain ⟨g2, off2, eF, hg2, hcf5⟩ := Sl.cellK hsf hjl
            have hfv := fsV_at fs j hjl
            simp only [Nat.mul_comm 5 j] at hfv
            have e0 := hcf5 0 _ hfv.1
            have e1 := hcf5 1 _ hfv.2.1
            have e2 := hcf5 2 _ hfv.2.2.1
            have e3 := hcf5 3 _ hfv.2.2.2.1
            have e4 := hcf5 4 _ hfv.2.2.2.2
            have HF1 := Go.Lib.hid (HFN.out j hjl (HN.out rfl))
            have HF2 := Go.Lib.hid (HFS.out j hjl (HN.out rfl))
            subst eA eF
            clear hcf5 hfv hsf
            by_cases he : fs[j].2.num = n
            · have hE := HF1.out he
              rw [hE] at e1 e2 e3 e4
              have heq : (b.num == n) = true := by rw [← hE]; simpa using he
              clear HF1 HF2 he hE
              obtain ⟨n2, r, n4, T⟩ := b
              simp only at e1 e2 e3 e4 heq
              have hbn : n2 = n := by simpa using heq
              subst hbn
              go_wp2_with fail
              go_quiet (fail)
              have hbd : Below w6.heap.size w6 (wr.drewN nq) := (by repeat (first | (with_reducible exact Below.refl _ _) | (with_reducible assumption) | (with_reducible refine Below.drew ?_) | (with_reducible refine Below.alloc ?_ (by first | omega | (simp <;> omega)) _) | (with_reducible refine Below.setCell ?_ (by first | omega | (simp <;> omega)) _) | (with_reducible refine belowN ?_ _)))
              have hszd : (wr.drewN nq).heap.size = wr.heap.size := rfl
              have E1 : (wr.drewN nq).cell? ⟨g2, off2 + j * 5 + 1, none⟩ = _ := e1
              have E2 : (wr.drewN nq).cell? ⟨g2, off2 + j * 5 + 2, none⟩ = _ := e2
              have E3 : (wr.drewN nq).cell? ⟨g2, off2 + j * 5 + 3, none⟩ = _ := e3
              have E4 : (wr.drewN nq).cell? ⟨g2, off2 + j * 5 + 4, none⟩ = _ := e4
              generalize wr.drewN nq = ws at *
              clear e0 e1 e2 e3 e4 c0 c1 hBk
              obtain ⟨hBs, _, _, _⟩ := HW.out ws hbd
              have hG := box_class hBs.cell hBs.lt
              have C1 := fun d os => cell_regrown E1 d os
              have C2 := fun d os => cell_regrown E2 d os
              have C3 := fun d os => cell_regrown E3 d os
              have C4 := fun d os => cell_regrown E4 d os
              go_wp2_with fail
              refine wp_region_quiet_below (by kernel_rfl) (by kernel_rfl) ?_
              repeat (go_big_quiet_step ((go_at_call 51; exact Calls.regrown_of (cB _))))
              refine wpQuiet_nil ?_
              intro w9 hw2
              have hb9 : Below _ _ w9 := below_of_class hw2
              clear hw2
              have z9 := hb9.size
              have hbq : Below w6.heap.size w6 w9 := hbd.trans (hb9.mono (by omega))
              clear C1 C2 C3 C4 E1 E2 E3 E4 hG hBs
              obtain ⟨g', off', eA', _, c1⟩ := HEL.out w9 hbq
              injection eA' with eA'
              injection eA' with eA1 eA2
              subst eA1 eA2
              go_wp2
              go_roundw
              case rel => exact ⟨j + 1, true, rfl, by go_num, by omega, fun h => by (simp at h), hbq⟩
              case measure => simp [intOf]; omega
            · have hN2 := Go.Lib.hid (HF2.out he)
              have heq : (fs[j].2.num == n) = false := by simpa using he
              clear HF1 HF2 he
              generalize fs[j].2.num = nj at *
              go_wp2_with fail
              go_quiet (fail)
              go_wp2
              go_roundw
              case rel => exact ⟨j + 1, false, rfl, by go_num, by omega, fun _ => hN2.out, (by repeat (first | (with_reducible exact Below.refl _ _) | (with_reducible assumption) | (with_reducible refine Below.drew ?_) | (with_reducible refine Below.alloc ?_ (by first | omega | (simp <;> omega)) _) | (with_reducible refine Below.setCell ?_ (by first | omega | (simp <;> omega)) _) | (with_reducible refine belowN ?_ _)))⟩
              case measure => simp [intOf]; omega
          | true =>
            clear HFN HFS HFE HF0 HN
            obtain ⟨g, off, eA, c0, c1⟩ := HEL.out wr hbi
            cases k with
            | zero =>
              simp only [Nat.zero_mul, Nat.add_zero] at c0 c1
              subst eA
              have h00 : decide ((0 : Int) < ((0 : Nat) : Int)) = false := by simp
              go_wp2_with fail
              go_quiet (fail)
              go_wp2
              go_roundw
              case rel => exact ⟨1, by go_num, by omega, (by repeat (first | (with_reducible exact Below.refl _ _) | (with_reducible assumption) | (with_reducible refine Below.drew ?_) | (with_reducible refine Below.alloc ?_ (by first | omega | (simp <;> omega)) _) | (with_reducible refine Below.setCell ?_ (by first | omega | (simp <;> omega)) _) | (with_reducible refine belowN ?_ _)))⟩
              case measure => simp [intOf]; omega
            | succ k =>
              obtain ⟨g', off', y, eA', d0, hyn⟩ := HPR.out k rfl wr hbi
              subst eA
              injection eA' with eA'
              injection eA' with eA1 eA2
              subst eA1 eA2
              have h00 : decide ((0 : Int) < ((k + 1 : Nat) : Int)) = true := by simp
              have h01 : decide (n ≤ y) = false := by simp; omega
              go_wp2_with fail
              go_quiet (fail)
              go_wp2
              go_roundw
              case rel => exact ⟨k + 1 + 1, by go_num, by omega, (by repeat (first | (with_reducible exact Below.refl _ _) | (with_reducible assumption) | (with_reducible refine Below.drew ?_) | (with_reducible refine Below.alloc ?_ (by first | omega | (simp <;> omega)) _) | (with_reducible refine Below.setCell ?_ (by first | omega | (simp <;> omega)) _) | (with_reducible refine belowN ?_ _)))⟩
              case measure => simp [intOf]; omega
        · have hji : ¬ (j : Int) < fs.length := by omega
          have hje : j = fs.length := by omega
          cases dd with
          | false => exact absurd (by have := HN.out rfl; rwa [hje] at this) HFE.out
          | true =>
            clear HFN HFS HFE HF0 HN
            obtain ⟨g, off, eA, c0, c1⟩ := HEL.out wr hbi
            cases k with
            | zero =>
              simp only [Nat.zero_mul, Nat.add_zero] at c0 c1
              subst eA
              have h00 : decide ((0 : Int) < ((0 : Nat) : Int)) = false := by simp
              go_wp2_with fail
              go_quiet (fail)
              go_wp2
              go_roundw
              case rel => exact ⟨1, by go_num, by omega, (by repeat (first | (with_reducible exact Below.refl _ _) | (with_reducible assumption) | (with_reducible refine Below.drew ?_) | (with_reducible refine Below.alloc ?_ (by first | omega | (simp <;> omega)) _) | (with_reducible refine Below.setCell ?_ (by first | omega | (simp <;> omega)) _) | (with_reducible refine belowN ?_ _)))⟩
              case measure => simp [intOf]; omega
            | succ k =>
              obtain ⟨g', off', y, eA', d0, hyn⟩ := HPR.out k rfl wr hbi
              subst eA
              injection eA' with eA'
              injection eA' with eA1 eA2
              subst eA1 eA2
              have h00 : decide ((0 : Int) < ((k + 1 : Nat) : Int)) = true := by simp
              have h01 : decide (n ≤ y) = false := by simp; omega
              go_wp2_with fail
              go_quiet (fail)
              go_wp2
              go_roundw
              case rel => exact ⟨k + 1 + 1, by go_num, by omega, (by repeat (first | (with_reducible exact Below.refl _ _) | (with_reducible assumption) | (with_reducible refine Below.drew ?_) | (with_reducible refine Below.alloc ?_ (by first | omega | (simp <;> omega)) _) | (with_reducible refine Below.setCell ?_ (by first | omega | (simp <;> omega)) _) | (with_reducible refine belowN ?_ _)))⟩
              case measure => simp [intOf]; omega
    · have hki : ¬ (k : Int) < ps.length := by omega
      have hgw := (HW.out wr hb).2.2.2
      have h1 : (ps.length : Int) ≤ fs.length := by omega
      have h2 : (ps.length : Int) ≤ 40 := by omega
      go_wp2
      go_ret
      exact ⟨rfl, hgw⟩
end Go.Proofs.YtoogaalbnnlloaaGreat
