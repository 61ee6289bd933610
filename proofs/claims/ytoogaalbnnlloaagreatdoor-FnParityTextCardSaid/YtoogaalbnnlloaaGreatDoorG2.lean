/- Walks: the law of parities and their texts. -/
import Derived.Test.YtoogaalbnnlloaaGreatDoorG0
import Derived.Test.YtoogaalbnnlloaaGreatDoorG1
import Derived.Test.YtoogaalbnnlloaaGreatDoorW10
import Derived.Test.YtoogaalbnnlloaaGreatDoorFp
namespace Go.Proofs.YtoogaalbnnlloaaGreatDoor
open Go.RowKit
set_option linter.unusedSimpArgs false
set_option linter.unusedVariables false
set_option maxRecDepth 100000
attribute [local go_sem high] run_index_S binOp_eql_S binOp_neq_S append_S toList_S size_S run_slice_S run_slice_from_S run_slice_to_S wrap64_byteAt wrap64_byteAt_mul bits_or_bytes convU conv1_some convU2 conv2_some
theorem fmtPar_ok {ls : List Bs} (h : fmtPar ls ≠ []) : parOk ls = true := by
  unfold fmtPar at h
  split at h
  · assumption
  · exact absurd rfl h
theorem fmtPar_len {ls : List Bs} (h : ∀ t ∈ ls, t.length ≤ 76) (hl : ls.length ≤ 1000) : (fmtPar ls).length ≤ 200000 := by
  unfold fmtPar
  split
  · have h1 := join_len ls h
    unfold orDash
    split <;> simp <;> omega
  · simp
theorem parsePar_bd (t : Bs) : ((parsePar t).getD []).length ≤ 40 ∧ ∀ l ∈ (parsePar t).getD [], l.length ≤ 76 := by
  unfold parsePar
  split
  · simp
  · split
    · split
      · rename_i h
        unfold parOk at h
        simp only [Bool.and_eq_true, decide_eq_true_eq, List.all_eq_true] at h
        exact ⟨h.1, fun l hl => (h.2 l hl).2⟩
      · simp
    · simp
set_option maxHeartbeats 1000000 in
theorem soTextsG_same (ls : List Bs) (A : Option Addr) (cap : Nat) (A' : Option Addr) (cap' : Nat) (w : World) (hs : SlS w A cap ls) (hs' : SlS w A' cap' ls) (hl : ls.length ≤ 1000000) :
    Calls Tryz.prog 8 #[.slice A ls.length cap, .slice A' ls.length cap'] w fun e w' => e = .returned (.bool true) ∧ Below w.heap.size w w' := by
  go_enter Tryz.func8, Tryz.ntmps8
  go_wp2
  have hS : Go.RowKit.Hid (∀ wr, Below w.heap.size w wr → SlS wr A cap ls) := fun wr h => hs.below h
  have hS' : Go.RowKit.Hid (∀ wr, Below w.heap.size w wr → SlS wr A' cap' ls) := fun wr h => hs'.below h
  have hcap := hs.1
  have hcap' := hs'.1
  clear hs hs'
  go_loopw [5] (fun i wr => ∃ k : Nat, i = .int .i64 k ∧ k ≤ ls.length ∧ Below w.heap.size w wr) (fun i _ => ls.length - (intOf i).toNat)
  case atStart => exact ⟨0, rfl, by omega, (by repeat (first | (with_reducible exact Below.refl _ _) | (with_reducible assumption) | (with_reducible refine Below.drew ?_) | (with_reducible refine Below.alloc ?_ (by first | omega | (simp <;> omega)) _) | (with_reducible refine Below.setCell ?_ (by first | omega | (simp <;> omega)) _) | (with_reducible refine belowN ?_ _)))⟩
  case round =>
    obtain ⟨k, rfl, hk, hb⟩ := hrel
    have hws := hb.size
    by_cases hlt : k < ls.length
    · have hki : (k : Int) < ls.length := by omega
      obtain ⟨g, off, rfl, hg, c0⟩ := (hS.out wr hb).at hlt
      obtain ⟨g', off', rfl, hg', d0⟩ := (hS'.out wr hb).at hlt
      generalize ls[k] = t at *
      go_wp2_with fail
      go_quiet (fail)
      go_wp2
      go_roundw
      case rel => exact ⟨k + 1, by go_num, by omega, (by repeat (first | (with_reducible exact Below.refl _ _) | (with_reducible assumption) | (with_reducible refine Below.drew ?_) | (with_reducible refine Below.alloc ?_ (by first | omega | (simp <;> omega)) _) | (with_reducible refine Below.setCell ?_ (by first | omega | (simp <;> omega)) _) | (with_reducible refine belowN ?_ _)))⟩
      case measure => simp [intOf]; omega
    · have hki : ¬ (k : Int) < ls.length := by omega
      go_wp2
      go_ret
      exact ⟨rfl, (by repeat (first | (with_reducible exact Below.refl _ _) | (with_reducible assumption) | (with_reducible refine Below.drew ?_) | (with_reducible refine Below.alloc ?_ (by first | omega | (simp <;> omega)) _) | (with_reducible refine Below.setCell ?_ (by first | omega | (simp <;> omega)) _) | (with_reducible refine belowN ?_ _)))⟩
set_option maxHeartbeats 2000000 in
theorem law_ParityText (A0 : Option Addr) (c0 : Nat) (bs0 : Bs) (A1 : Option Addr) (c1 : Nat) (bs1 : Bs) (w : World) (m : Int) (hm : w.cell? ⟨0, 0, none⟩ = some (.int .i64 m))
    (hs0 : Sl w A0 bs0.length c0 1 (bs0.map u8v)) (hs1 : Sl w A1 bs1.length c1 1 (bs1.map u8v)) :
    Calls Tryz.prog 3 #[.slice A0 bs0.length c0, .slice A1 bs1.length c1] w fun e w' => e = .returned (.bool true) ∧ Below w.heap.size w w' := by
  have h0 := lt_of_cell hm
  -- the second part: a text that is read
  have part : ∀ w4, Below w.heap.size w w4 → True := fun _ _ => trivial
  go_enter Tryz.func3, Tryz.ntmps3
  by_cases hl0 : 1048576 < bs0.length
  · have hli : (1048576 : Int) < bs0.length := by omega
    go_wp2
    go_ret
    exact ⟨rfl, Below.refl _ _⟩
  have hli0 : ¬ (1048576 : Int) < bs0.length := by omega
  by_cases hl1 : 1048576 < bs1.length
  · have hli : (1048576 : Int) < bs1.length := by omega
    go_wp2
    go_ret
    exact ⟨rfl, Below.refl _ _⟩
  have hli1 : ¬ (1048576 : Int) < bs1.length := by omega
  clear hl0 hl1 part
  go_wp2_with fail
  refine (drawFormatParity_any bs0 A0 c0 _ hs0).mono ?_
  rintro e w1 ⟨⟨ps, A, cap, rfl, hpl, hpb, hS1⟩, g1⟩
  have z1 := g1.size
  have cF := fun w hs => iFormatParity_any ps A cap w hs (fun t ht => by have := hpb t ht; omega) (by omega)
  have cS := fun w hs => formatParity_any ps A cap w hs (fun t ht => by have := hpb t ht; omega) (by omega)
  have hfl := fmtPar_len hpb (by omega)
  have HP : Go.RowKit.Hid (fmtPar ps ≠ [] → parsePar (fmtPar ps) = some ps) := fun h => parse_fmt (fmtPar_ok h)
  generalize fmtPar ps = F at *
  clear hs0 hpb
  go_wp2_with fail
  refine (cF _ hS1).mono ?_
  rintro e w2 ⟨rfl, hb2⟩
  have z2 := hb2.size
  have hS2 := hS1.below hb2
  have g2 := g1.trans (hb2.mono (by omega))
  clear hb2 hS1 g1 cF
  go_wp2_with fail
  refine (cS _ hS2).mono ?_
  rintro e w3 ⟨rfl, hb3⟩
  have z3 := hb3.size
  have hS3 := hS2.below hb3
  have g3 := g2.trans (hb3.mono (by omega))
  clear hb3 hS2 g2 cS
  have hm3 := (g3.cell (p := ⟨0, 0, none⟩) h0).trans hm
  have hself : decide (F ≠ F) = false := by simp
  have hs13 := hs1.below g3
  have hnone : Go.RowKit.Hid (decide (([] : Bs) = []) = true) := by show _ = _; rfl
  have step : ∃ X : Prop, X := ⟨True, trivial⟩
  clear step hs1
  by_cases hF : F = []
  · subst hF
    clear HP hS3 hm3 hself
    generalize w3 = wq at *
    have zq := g3.size
    go_wp2_with fail
    refine (drawParseParity_any bs1 A1 c1 _ hs13).mono ?_
    rintro e w6 ⟨⟨t, rfl, htl⟩, hb6⟩
    have z6 := hb6.size
    have g6 := g3.trans (hb6.mono (by omega))
    have hm6 := (g6.cell (p := ⟨0, 0, none⟩) h0).trans hm
    have cI := parseParity_any t m w6 (by omega) hm6
    have cS := fun w => sParseParity_any t w (by omega)
    unfold ParRes at cI cS
    have hbd := parsePar_bd t
    have HX : Go.RowKit.Hid (∀ ls, parsePar t = some ls → fmtPar ls = t) := fun ls h => fmt_parse h
    generalize parsePar t = o at *
    obtain ⟨hb1, hb2⟩ := hbd
    clear hb6 hs13 g3
    cases o with
    | none =>
      simp only [Option.getD_none, Option.isSome_none, List.length_nil, List.map_nil] at cI cS hb1 hb2
      clear HX hb1 hb2
      go_wp2_with fail
      refine cI.mono ?_
      rintro e w7 ⟨A7, c7, rfl, O7, hb7⟩
      have z7 := hb7.size
      have S7 := SlS.of_own (ls := []) O7
      have g7 := g6.trans (hb7.mono (by omega))
      clear O7 hb7 g6 cI
      go_wp2_with fail
      refine (cS _).mono ?_
      rintro e w8 ⟨A8, c8, rfl, O8, hb8⟩
      have z8 := hb8.size
      have S8 := SlS.of_own (ls := []) O8
      have S78 := S7.below hb8
      have g8 := g7.trans (hb8.mono (by omega))
      have cT := soTextsG_same [] A7 c7 A8 c8 w8 S78 S8 (by simp)
      simp only [List.length_nil] at cT
      clear O8 hb8 g7 cS S7
      go_wp2_with fail
      refine cT.mono ?_
      rintro e w9 ⟨rfl, hb9⟩
      have g9 := g8.trans (hb9.mono (by omega))
      go_wp2
      go_ret
      exact ⟨rfl, g9⟩
    | some us =>
      simp only [Option.getD_some, Option.isSome_some] at cI cS hb1 hb2
      have HX2 := Go.Lib.hid (HX.out us rfl)
      clear HX
      have HB := Go.Lib.hid hb2
      clear hb2
      go_wp2_with fail
      refine cI.mono ?_
      rintro e w7 ⟨A7, c7, rfl, O7, hb7⟩
      have z7 := hb7.size
      have S7 := SlS.of_own O7
      have g7 := g6.trans (hb7.mono (by omega))
      clear O7 hb7 g6 cI
      go_wp2_with fail
      refine (cS _).mono ?_
      rintro e w8 ⟨A8, c8, rfl, O8, hb8⟩
      have z8 := hb8.size
      have S8 := SlS.of_own O8
      have S78 := S7.below hb8
      have g8 := g7.trans (hb8.mono (by omega))
      have cT := soTextsG_same us A7 c7 A8 c8 w8 S78 S8 (by omega)
      clear O8 hb8 g7 cS S7
      go_wp2_with fail
      refine cT.mono ?_
      rintro e w9 ⟨rfl, hb9⟩
      have z9 := hb9.size
      have g9 := g8.trans (hb9.mono (by omega))
      have S79 := S78.below hb9
      have cF := iFormatParity_any us A7 c7 w9 S79 (fun t ht => by have := HB.out t ht; omega) (by omega)
      rw [HX2.out] at cF
      have hself : decide (t = t) = true := by simp
      clear cT S78 S8 hb9 g8 HX2 HB
      go_wp2_with fail
      refine cF.mono ?_
      rintro e w10 ⟨rfl, hb10⟩
      have g10 := g9.trans (hb10.mono (by omega))
      go_wp2
      go_ret
      exact ⟨rfl, g10⟩
  · have hne : decide (F = []) = false := by simpa using hF
    have HP2 := Go.Lib.hid (HP.out hF)
    clear hF HP
    have cI := parseParity_any F m w3 (by omega) hm3
    rw [HP2.out] at cI
    unfold ParRes at cI
    simp only [Option.getD_some, Option.isSome_some] at cI
    go_wp2_with fail
    refine cI.mono ?_
    rintro e w4 ⟨A4, c4, rfl, O4, hb4⟩
    have z4 := hb4.size
    have S4 := SlS.of_own O4
    have hS4 := hS3.below hb4
    have g4 := g3.trans (hb4.mono (by omega))
    have hs14 := hs13.below hb4
    clear O4 hS3 hb4 cI hs13 g3 hm3 hself HP2
    go_wp2_with fail
    refine (soTextsG_same ps A4 c4 A cap _ S4 hS4 (by omega)).mono ?_
    rintro e wq ⟨rfl, hb5⟩
    have z5 := hb5.size
    have g3 := g4.trans (hb5.mono (by omega))
    have hs13 := hs14.below hb5
    clear hb5 hS4 S4 g4 hs14
    have zq := g3.size
    go_wp2_with fail
    refine (drawParseParity_any bs1 A1 c1 _ hs13).mono ?_
    rintro e w6 ⟨⟨t, rfl, htl⟩, hb6⟩
    have z6 := hb6.size
    have g6 := g3.trans (hb6.mono (by omega))
    have hm6 := (g6.cell (p := ⟨0, 0, none⟩) h0).trans hm
    have cI := parseParity_any t m w6 (by omega) hm6
    have cS := fun w => sParseParity_any t w (by omega)
    unfold ParRes at cI cS
    have hbd := parsePar_bd t
    have HX : Go.RowKit.Hid (∀ ls, parsePar t = some ls → fmtPar ls = t) := fun ls h => fmt_parse h
    generalize parsePar t = o at *
    obtain ⟨hb1, hb2⟩ := hbd
    clear hb6 hs13 g3
    cases o with
    | none =>
      simp only [Option.getD_none, Option.isSome_none, List.length_nil, List.map_nil] at cI cS hb1 hb2
      clear HX hb1 hb2
      go_wp2_with fail
      refine cI.mono ?_
      rintro e w7 ⟨A7, c7, rfl, O7, hb7⟩
      have z7 := hb7.size
      have S7 := SlS.of_own (ls := []) O7
      have g7 := g6.trans (hb7.mono (by omega))
      clear O7 hb7 g6 cI
      go_wp2_with fail
      refine (cS _).mono ?_
      rintro e w8 ⟨A8, c8, rfl, O8, hb8⟩
      have z8 := hb8.size
      have S8 := SlS.of_own (ls := []) O8
      have S78 := S7.below hb8
      have g8 := g7.trans (hb8.mono (by omega))
      have cT := soTextsG_same [] A7 c7 A8 c8 w8 S78 S8 (by simp)
      simp only [List.length_nil] at cT
      clear O8 hb8 g7 cS S7
      go_wp2_with fail
      refine cT.mono ?_
      rintro e w9 ⟨rfl, hb9⟩
      have g9 := g8.trans (hb9.mono (by omega))
      go_wp2
      go_ret
      exact ⟨rfl, g9⟩
    | some us =>
      simp only [Option.getD_some, Option.isSome_some] at cI cS hb1 hb2
      have HX2 := Go.Lib.hid (HX.out us rfl)
      clear HX
      have HB := Go.Lib.hid hb2
      clear hb2
      go_wp2_with fail
      refine cI.mono ?_
      rintro e w7 ⟨A7, c7, rfl, O7, hb7⟩
      have z7 := hb7.size
      have S7 := SlS.of_own O7
      have g7 := g6.trans (hb7.mono (by omega))
      clear O7 hb7 g6 cI
      go_wp2_with fail
      refine (cS _).mono ?_
      rintro e w8 ⟨A8, c8, rfl, O8, hb8⟩
      have z8 := hb8.size
      have S8 := SlS.of_own O8
      have S78 := S7.below hb8
      have g8 := g7.trans (hb8.mono (by omega))
      have cT := soTextsG_same us A7 c7 A8 c8 w8 S78 S8 (by omega)
      clear O8 hb8 g7 cS S7
      go_wp2_with fail
      refine cT.mono ?_
      rintro e w9 ⟨rfl, hb9⟩
      have z9 := hb9.size
      have g9 := g8.trans (hb9.mono (by omega))
      have S79 := S78.below hb9
      have cF := iFormatParity_any us A7 c7 w9 S79 (fun t ht => by have := HB.out t ht; omega) (by omega)
      rw [HX2.out] at cF
      have hself : decide (t = t) = true := by simp
      clear cT S78 S8 hb9 g8 HX2 HB
      go_wp2_with fail
      refine cF.mono ?_
      rintro e w10 ⟨rfl, hb10⟩
      have g10 := g9.trans (hb10.mono (by omega))
      go_wp2
      go_ret
      exact ⟨rfl, g10⟩
end Go.Proofs.YtoogaalbnnlloaaGreatDoor
