/- Walks: parities and their text. -/
import Derived.Test.YtoogaalbnnlloaaGreatDoorGW
import Derived.Test.YtoogaalbnnlloaaGreatDoorW3
import Derived.Test.YtoogaalbnnlloaaGreatDoorW8
import Derived.Test.YtoogaalbnnlloaaGreatDoorGR
import Derived.Test.YtoogaalbnnlloaaGreatDoorW7
namespace Go.Proofs.YtoogaalbnnlloaaGreatDoor
open Go.RowKit
set_option linter.unusedVariables false
set_option maxRecDepth 100000
attribute [local go_sem high] run_index_S binOp_eql_S binOp_neq_S append_S toList_S size_S run_slice_S run_slice_from_S run_slice_to_S wrap64_byteAt wrap64_byteAt_mul bits_or_bytes convU conv1_some convU2 conv2_some
/-- A list of strings. -/
abbrev SlS (w : World) (A : Option Addr) (cap : Nat) (ls : List Bs) : Prop := Sl w A ls.length cap 1 (ls.map sv)
theorem SlS.at {w : World} {A : Option Addr} {cap : Nat} {ls : List Bs} (h : SlS w A cap ls) {k : Nat} (hk : k < ls.length) : ∃ g off, A = some ⟨g, off, none⟩ ∧ g < w.heap.size ∧ w.cell? ⟨g, off + k, none⟩ = some (sv ls[k]) := by
  obtain ⟨g, off, u, hA, hg, hu, hc⟩ := Sl.at1 h hk
  refine ⟨g, off, hA, hg, ?_⟩
  rw [List.getElem?_map, List.getElem?_eq_getElem hk] at hu
  simp at hu
  rw [hc, ← hu]
theorem SlS.of_own {w : World} {B : Nat} {A : Option Addr} {cap : Nat} {ls : List Bs} (h : w.ownsRow B 9 1 (.slice A ls.length cap) ls.length (ls.map sv)) : SlS w A cap ls := by
  obtain ⟨A', cap', hv, hs⟩ := Sl.of_own h
  injection hv with e1 e2 e3
  subst e1; subst e3
  exact hs
theorem hexRes_eq (p : Bs) : hexRes p = .returned (.tuple #[sv ((unhex p).getD []), .bool (unhex p).isSome]) := rfl
theorem l3None_any (l : Bs) (w : World) :
    Calls Tryz.prog 27 #[.string ⟨l.toArray⟩] w fun e w' => e = .returned (.string ⟨(unDash l).toArray⟩) ∧ w = w' := by
  by_cases h : l = [45]
  · subst h
    go_enter Tryz.func27, Tryz.ntmps27
    go_wp2
    go_ret
    exact ⟨rfl, rfl⟩
  · have HE : Go.RowKit.Hid (unDash l = l) := by show _ = _; unfold unDash; rw [if_neg h]
    have hd : decide (l = [45]) = false := by simpa using h
    clear h
    go_enter Tryz.func27, Tryz.ntmps27
    go_wp2
    go_ret
    exact ⟨ret_S HE.out.symm, rfl⟩
theorem l7Long_any (l : Bs) (w : World) :
    Calls Tryz.prog 20 #[.string ⟨l.toArray⟩] w fun e w' => e = .returned (.bool (decide (2 ≤ l.length ∧ l.length ≤ 76))) ∧ w = w' := by
  go_enter Tryz.func20, Tryz.ntmps20
  go_wp2_with (go_at_call 33; refine (l1In_any _ _ _ _).mono ?_; rintro e w' ⟨rfl, rfl⟩)
  go_ret
  refine ⟨ret_bool ?_, rfl⟩
  rw [Bool.eq_iff_iff]; simp; omega
theorem parOk_snoc (ls : List Bs) (k : Nat) (h : k < ls.length) (hl : decide (2 ≤ ls[k].length ∧ ls[k].length ≤ 76) = false) : parOk ls = false := by
  unfold parOk
  rw [Bool.eq_false_iff]
  intro h2
  simp only [Bool.and_eq_true, List.all_eq_true] at h2
  rw [h2.2 _ (List.getElem_mem h)] at hl
  cases hl
set_option maxRecDepth 100000 in
theorem parityValid_any (ls : List Bs) (A : Option Addr) (cap : Nat) (w : World) (hs : SlS w A cap ls) (hb : ∀ l ∈ ls, l.length ≤ 4000) (hn : ls.length ≤ 2000000) :
    Calls Tryz.prog 16 #[.slice A ls.length cap] w fun e w' => e = .returned (.bool (parOk ls)) ∧ w = w' := by
  have HB := Go.Lib.hid hb
  clear hb
  go_enter Tryz.func16, Tryz.ntmps16
  by_cases h40 : ls.length ≤ 40
  · go_wp2
    go_loop [10] (fun a => ∃ k : Nat, k ≤ ls.length ∧ a = .int .i64 k ∧ Go.RowKit.Hid ((ls.take k).all (fun l => decide (2 ≤ l.length ∧ l.length ≤ 76)) = true)) (fun a => ls.length - (intOf a).toNat)
    case atStart => exact ⟨0, by omega, rfl, by show _ = _; simp⟩
    case round =>
      obtain ⟨k, hk, rfl, ha⟩ := hrel
      by_cases hlt : k < ls.length
      · obtain ⟨g, off, rfl, hg, hc⟩ := SlS.at hs hlt
        have hl := HB.out _ (List.getElem_mem hlt)
        have HT := Go.Lib.hid (List.take_succ_eq_append_getElem hlt)
        have HF := Go.Lib.hid (parOk_snoc ls k hlt)
        generalize ls[k] = x at *
        by_cases h2 : 2 ≤ x.length ∧ x.length ≤ 76
        · obtain ⟨h2a, h2b⟩ := h2
          go_wp2
          go_round
          case rel =>
            refine ⟨k + 1, by omega, by go_num, ?_⟩
            show _ = _
            rw [HT.out, List.all_append, ha.out]
            simp; omega
          case measure => simp [intOf]; omega
        · have HP : Go.RowKit.Hid (parOk ls = false) := HF.out (by simpa using h2)
          by_cases h3 : 2 ≤ x.length
          · have h4 : ¬ (x.length : Int) ≤ 76 := by omega
            go_wp2
            go_ret
            exact ⟨ret_bool HP.out.symm, rfl⟩
          · go_wp2
            go_ret
            exact ⟨ret_bool HP.out.symm, rfl⟩
      · have HP : Go.RowKit.Hid (parOk ls = true) := by
          show _ = _
          have e : ls.take k = ls := List.take_of_length_le (by omega)
          have := ha.out
          rw [e] at this
          unfold parOk
          rw [this]; simp; omega
        go_wp2
        go_ret
        exact ⟨ret_bool HP.out.symm, rfl⟩
  · have HP : Go.RowKit.Hid (parOk ls = false) := by
      show _ = _
      unfold parOk
      simp; omega
    go_wp2
    go_ret
    exact ⟨ret_bool HP.out.symm, rfl⟩
theorem join_take (ls : List Bs) (k : Nat) (h : k < ls.length) : join 32 ((ls.take (k + 1)).map hexOf) = (if 0 < k then join 32 ((ls.take k).map hexOf) ++ [32] else join 32 ((ls.take k).map hexOf)) ++ hexOf ls[k] := by
  rw [List.take_succ_eq_append_getElem h, List.map_append]
  by_cases hk : 0 < k
  · rw [if_pos hk, List.map_cons, List.map_nil, join_snoc]
    · simp
    · intro e
      have := congrArg List.length e
      rw [List.length_map, List.length_take, List.length_nil] at this; omega
  · have : k = 0 := by omega
    subst this
    simp [join]
theorem join_len (ls : List Bs) (h : ∀ l ∈ ls, l.length ≤ 76) : (join 32 (ls.map hexOf)).length ≤ 153 * ls.length := by
  induction ls using snoc_ind with
  | h0 => simp [join]
  | h1 ls x ih =>
    have h1 := ih (fun l hl => h l (by simp [hl]))
    have h2 := h x (by simp)
    rw [List.map_append, List.map_cons, List.map_nil]
    by_cases e : ls = []
    · subst e
      simp [join, hexOf_length]; omega
    · rw [join_snoc _ _ _ (by simpa using e)]
      simp [hexOf_length]; omega
set_option maxRecDepth 100000 in
set_option maxHeartbeats 1000000 in
theorem formatParity_any (ls : List Bs) (A : Option Addr) (cap : Nat) (w : World) (hs : SlS w A cap ls) (hb : ∀ l ∈ ls, l.length ≤ 4000) (hn : ls.length ≤ 2000000) :
    Calls Tryz.prog 6 #[.slice A ls.length cap] w fun e w' => e = .returned (.string ⟨(fmtPar ls).toArray⟩) ∧ Below w.heap.size w w' := by
  have HB := Go.Lib.hid hb
  clear hb
  go_enter Tryz.func6, Tryz.ntmps6
  by_cases h40 : ls.length ≤ 40
  · go_wp2
    go_loopw [3, 4] (fun o a wr => ∃ k : Nat, k ≤ ls.length ∧ a = .int .i64 k ∧ o = .string ⟨(join 32 ((ls.take k).map hexOf)).toArray⟩ ∧ Go.RowKit.Hid ((ls.take k).all (fun l => decide (2 ≤ l.length ∧ l.length ≤ 76)) = true) ∧ Below w.heap.size w wr) (fun _ a _ => ls.length - (intOf a).toNat)
    case atStart => exact ⟨0, by omega, rfl, rfl, by show _ = _; simp, Below.refl _ _⟩
    case round =>
      obtain ⟨k, hk, rfl, rfl, ha, hbw⟩ := hrel
      have hz := hbw.size
      have hJ : (join 32 ((ls.take k).map hexOf)).length ≤ 153 * k := by
        have := join_len (ls.take k) (fun l hl => by have := List.all_eq_true.1 ha.out l hl; simp at this; omega)
        rw [List.length_take] at this
        omega
      have hs' := hs.below hbw
      by_cases hlt : k < ls.length
      · obtain ⟨g, off, rfl, hg, hc⟩ := SlS.at hs' hlt
        have hl := HB.out _ (List.getElem_mem hlt)
        have HT := Go.Lib.hid (List.take_succ_eq_append_getElem hlt)
        have HJ := Go.Lib.hid (join_take ls k hlt)
        have HF := Go.Lib.hid (parOk_snoc ls k hlt)
        generalize ls[k] = x at *
        generalize join 32 ((ls.take k).map hexOf) = J at *
        by_cases h2 : 2 ≤ x.length ∧ x.length ≤ 76
        · have hx := hexOf_length x
          have HX : Go.RowKit.Hid (fmtHex x = hexOf x) := by show _ = _; unfold fmtHex; rw [if_pos (by omega)]
          obtain ⟨h2a, h2b⟩ := h2
          by_cases h0 : 0 < k
          · go_wp2_with fail
            refine (l7Long_any _ _).mono ?_
            rintro e w' ⟨rfl, rfl⟩
            go_wp2_with fail
            refine (sFormatHex_any _ _ (by omega)).mono ?_
            rintro e w2 ⟨rfl, hb2⟩
            rw [HX.out]
            generalize hexOf x = H at *
            go_wp2
            go_roundw
            case rel =>
              refine ⟨k + 1, by omega, by go_num, ?_, ?_, hbw.trans (hb2.mono (by omega))⟩
              · rw [HJ.out, if_pos h0]; simp
              · show _ = _
                rw [HT.out, List.all_append, ha.out]
                simp; omega
            case measure => simp [intOf]; omega
          · go_wp2_with fail
            refine (l7Long_any _ _).mono ?_
            rintro e w' ⟨rfl, rfl⟩
            go_wp2_with fail
            refine (sFormatHex_any _ _ (by omega)).mono ?_
            rintro e w2 ⟨rfl, hb2⟩
            rw [HX.out]
            generalize hexOf x = H at *
            go_wp2
            go_roundw
            case rel =>
              refine ⟨k + 1, by omega, by go_num, ?_, ?_, hbw.trans (hb2.mono (by omega))⟩
              · rw [HJ.out, if_neg h0]
              · show _ = _
                rw [HT.out, List.all_append, ha.out]
                simp; omega
            case measure => simp [intOf]; omega
        · have HP : Go.RowKit.Hid (fmtPar ls = []) := by
            show _ = _
            unfold fmtPar
            rw [HF.out (by simpa using h2)]; rfl
          have h3 : ¬ (2 ≤ x.length ∧ x.length ≤ 76) := h2
          go_wp2_with fail
          refine (l7Long_any _ _).mono ?_
          rintro e w' ⟨rfl, rfl⟩
          rw [decide_eq_false h3]
          go_wp2
          go_ret
          exact ⟨ret_S HP.out.symm, hbw⟩
      · have HP : Go.RowKit.Hid (fmtPar ls = orDash (join 32 ((ls.take k).map hexOf))) := by
          show _ = _
          have e : ls.take k = ls := List.take_of_length_le (by omega)
          have := ha.out
          rw [e] at this ⊢
          unfold fmtPar parOk
          rw [this, if_pos (by simp; omega)]
        go_wp2_with (go_at_call 22; refine (l3Some_any _ _).mono ?_; rintro e w' ⟨rfl, rfl⟩)
        go_ret
        exact ⟨ret_S (by rw [HP.out]; simp), hbw⟩
  · have HP : Go.RowKit.Hid (fmtPar ls = []) := by
      show _ = _
      unfold fmtPar parOk
      rw [if_neg (by simp; omega)]
    go_wp2
    go_ret
    exact ⟨ret_S HP.out.symm, Below.refl _ _⟩
end Go.Proofs.YtoogaalbnnlloaaGreatDoor
