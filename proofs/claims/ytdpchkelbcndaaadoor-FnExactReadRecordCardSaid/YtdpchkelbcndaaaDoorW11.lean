/- Walks: lists of strings compared, marked and held; the law of parities parsed. -/
import Derived.Test.YtdpchkelbcndaaaDoorW10
namespace Go.Proofs.YtdpchkelbcndaaaDoor
open Go.RowKit
set_option linter.unusedVariables false
set_option maxRecDepth 100000
attribute [local go_sem high] run_index_S binOp_eql_S binOp_neq_S append_S toList_S size_S run_slice_S run_slice_from_S run_slice_to_S wrap64_byteAt wrap64_byteAt_mul bits_or_bytes convU conv1_some convU2 conv2_some
theorem eqStringS_any (ls ms : List Bs) (A B : Option Addr) (ca cb : Nat) (w : World) (ha : SlS w A ca ls) (hb : SlS w B cb ms) (hn : ls.length ≤ 9000000) :
    Calls Tryd.prog 8 #[.slice A ls.length ca, .slice B ms.length cb] w fun e w' => e = .returned (.bool (decide (ls = ms))) ∧ Below w.heap.size w w' := by
  go_enter Tryd.func8, Tryd.ntmps8
  by_cases hl : ls.length = ms.length
  · have hd : ((ls.length : Int) != ms.length) = false := by simp; omega
    have HL := Go.Lib.hid hl
    clear hl
    go_wp2
    go_loopw [5] (fun a wr => ∃ k : Nat, k ≤ ls.length ∧ a = .int .i64 k ∧ Go.RowKit.Hid (ls.take k = ms.take k) ∧ Below w.heap.size w wr) (fun a _ => ls.length - (intOf a).toNat)
    case atStart => exact ⟨0, by omega, rfl, by show _ = _; simp, Below.refl _ _⟩
    case round =>
      obtain ⟨k, hk, rfl, he, hbw⟩ := hrel
      have hz := hbw.size
      by_cases hlt : k < ls.length
      · have hlt2 : k < ms.length := by have := HL.out; omega
        obtain ⟨g, off, rfl, hg, hc⟩ := SlS.at (ha.below hbw) hlt
        obtain ⟨g2, off2, rfl, hg2, hc2⟩ := SlS.at (hb.below hbw) hlt2
        have h1 : (k : Int) < ls.length := by omega
        have h2 : (k : Int) < ms.length := by omega
        have HT1 := Go.Lib.hid (List.take_succ_eq_append_getElem hlt)
        have HT2 := Go.Lib.hid (List.take_succ_eq_append_getElem hlt2)
        have HN : Go.RowKit.Hid (ls[k] ≠ ms[k] → ls ≠ ms) := fun h e => h (by subst e; rfl)
        generalize ls[k] = x at *
        generalize ms[k] = y at *
        by_cases hxy : x = y
        · have hdd : decide (x ≠ y) = false := by simpa using hxy
          have HX := Go.Lib.hid hxy
          clear hxy
          go_wp2
          go_quiet (fail)
          go_wp2
          go_roundw
          case rel => exact ⟨k + 1, by omega, by go_num, by show _ = _; rw [HT1.out, HT2.out, he.out, HX.out], (by repeat (first | (with_reducible exact Below.refl _ _) | (with_reducible assumption) | (with_reducible refine Below.drew ?_) | (with_reducible refine Below.alloc ?_ (by first | omega | (simp <;> omega)) _) | (with_reducible refine Below.setCell ?_ (by first | omega | (simp <;> omega)) _) | (with_reducible refine belowN ?_ _)))⟩
          case measure => simp [intOf]; omega
        · have hdd : decide (x ≠ y) = true := by simpa using hxy
          have HR : Go.RowKit.Hid (decide (ls = ms) = false) := by show _ = _; simpa using HN.out hxy
          clear hxy
          go_wp2
          go_quiet (fail)
          go_wp2
          go_ret
          exact ⟨ret_bool HR.out.symm, (by repeat (first | (with_reducible exact Below.refl _ _) | (with_reducible assumption) | (with_reducible refine Below.drew ?_) | (with_reducible refine Below.alloc ?_ (by first | omega | (simp <;> omega)) _) | (with_reducible refine Below.setCell ?_ (by first | omega | (simp <;> omega)) _) | (with_reducible refine belowN ?_ _)))⟩
      · have HR : Go.RowKit.Hid (decide (ls = ms) = true) := by
          show _ = _
          have e1 : ls.take k = ls := List.take_of_length_le (by omega)
          have e2 : ms.take k = ms := List.take_of_length_le (by have := HL.out; omega)
          have := he.out
          rw [e1, e2] at this
          simpa using this
        go_wp2
        go_ret
        exact ⟨ret_bool HR.out.symm, hbw⟩
  · have hd : ((ls.length : Int) != ms.length) = true := by simp; omega
    have HR : Go.RowKit.Hid (decide (ls = ms) = false) := by
      show _ = _
      simp
      intro e; exact hl (by rw [e])
    clear hl
    go_wp2
    go_ret
    exact ⟨ret_bool HR.out.symm, Below.refl _ _⟩
theorem eqStringS_same (ls : List Bs) (A B : Option Addr) (ca cb : Nat) (w : World) (ha : SlS w A ca ls) (hb : SlS w B cb ls) (hn : ls.length ≤ 9000000) :
    Calls Tryd.prog 8 #[.slice A ls.length ca, .slice B ls.length cb] w fun e w' => e = .returned (.bool true) ∧ Below w.heap.size w w' :=
  (eqStringS_any ls ls A B ca cb w ha hb hn).mono fun e w' ⟨h1, h2⟩ => ⟨by rw [h1]; simp, h2⟩
def digs (k : Nat) : Bs := if k = 0 then [] else Lib.decDigits k
theorem digs_step (u : Nat) (h : 0 < u) : digs u = digs (u / 10) ++ [UInt8.ofNat (48 + u % 10)] := by
  unfold digs
  rw [if_neg (by omega)]
  by_cases h10 : u < 10
  · rw [if_pos (by omega), decDigits_one u h10, show u % 10 = u by omega]; rfl
  · rw [if_neg (by omega), decDigits_step u (by omega)]
theorem digs_len (u : Nat) (h : u ≤ 9000000000000) : (digs u).length ≤ 21 := by
  unfold digs
  split
  · simp
  · have h1 := Lib.itoa_length_le (u : Int) (by omega) (by omega)
    rw [Lib.itoa_nonneg] at h1
    omega
def markT (k : Nat) : Bs := if k = 0 then [109, 48] else 109 :: digs k
theorem markText_any (n : Nat) (w : World) (hn : n ≤ 9000000000000) :
    Calls Tryd.prog 23 #[.int .i64 n] w fun e w' => e = .returned (.string ⟨(markT n).toArray⟩) ∧ Below w.heap.size w w' := by
  by_cases h0 : n = 0
  · subst h0
    go_enter Tryd.func23, Tryd.ntmps23
    go_wp2
    go_ret
    exact ⟨rfl, (by repeat (first | (with_reducible exact Below.refl _ _) | (with_reducible assumption) | (with_reducible refine Below.drew ?_) | (with_reducible refine Below.alloc ?_ (by first | omega | (simp <;> omega)) _) | (with_reducible refine Below.setCell ?_ (by first | omega | (simp <;> omega)) _) | (with_reducible refine belowN ?_ _)))⟩
  · have HE : Go.RowKit.Hid (markT n = 109 :: digs n) := by show _ = _; unfold markT; rw [if_neg h0]
    have hp : ¬ (n : Int) ≤ 0 := by omega
    have HLen := Go.Lib.hid (digs_len n hn)
    go_enter Tryd.func23, Tryd.ntmps23
    go_wp2
    go_loopw [0, 3] (fun a b wr => ∃ (u : Nat) (o : Bs), u ≤ n ∧ a = .int .i64 u ∧ b = .string ⟨o.toArray⟩ ∧ Go.RowKit.Hid (digs n = digs u ++ o) ∧ Below w.heap.size w wr) (fun a _ _ => (intOf a).toNat)
    case atStart => exact ⟨n, [], Nat.le_refl _, rfl, rfl, by show _ = _; simp, Below.refl _ _⟩
    case round =>
      obtain ⟨u, o, hu, rfl, rfl, HD, hb⟩ := hrel
      have ho : o.length ≤ 21 := by
        have h1 := HLen.out
        rw [HD.out, List.length_append] at h1
        omega
      have ho1 : 1 + o.length ≤ 9223372036854775807 := by omega
      have hz := hb.size
      by_cases h10 : 0 < u
      · have HS := Go.Lib.hid (digs_step u h10)
        go_wp2
        go_roundw
        case rel =>
          refine ⟨u / 10, _, by omega, by go_num, rfl, ?_, (by repeat (first | (with_reducible exact Below.refl _ _) | (with_reducible assumption) | (with_reducible refine Below.drew ?_) | (with_reducible refine Below.alloc ?_ (by first | omega | (simp <;> omega)) _) | (with_reducible refine Below.setCell ?_ (by first | omega | (simp <;> omega)) _) | (with_reducible refine belowN ?_ _)))⟩
          show _ = _
          rw [HD.out, HS.out, List.append_assoc]
          simp
        case measure => simp [intOf]; omega
      · have HS : Go.RowKit.Hid (digs n = o) := by
          show _ = _
          rw [HD.out, show u = 0 by omega]; rfl
        go_wp2
        go_ret
        refine ⟨?_, (by repeat (first | (with_reducible exact Below.refl _ _) | (with_reducible assumption) | (with_reducible refine Below.drew ?_) | (with_reducible refine Below.alloc ?_ (by first | omega | (simp <;> omega)) _) | (with_reducible refine Below.setCell ?_ (by first | omega | (simp <;> omega)) _) | (with_reducible refine belowN ?_ _)))⟩
        rw [HE.out, HS.out]
        simp
def marks (k n : Nat) : List Bs := (List.range n).map fun i => markT (k + i)
def marked (k i : Nat) (ls : List Bs) : List Bs := (List.range ls.length).map fun j => if j < i then markT (k + j) else ls.getD j []
theorem marked_length (k i : Nat) (ls : List Bs) : (marked k i ls).length = ls.length := by simp [marked]
theorem marked_zero (k : Nat) (ls : List Bs) : marked k 0 ls = ls := by
  apply List.ext_getElem?
  intro j
  unfold marked
  by_cases h : j < ls.length <;> simp [h]
theorem marked_full (k : Nat) (ls : List Bs) : marked k ls.length ls = marks k ls.length := by
  unfold marked marks
  apply List.map_congr_left
  intro j hj
  rw [List.mem_range] at hj
  rw [if_pos hj]
theorem marked_succ (k i : Nat) (ls : List Bs) : (marked k i ls).set i (markT (k + i)) = marked k (i + 1) ls := by
  apply List.ext_getElem?
  intro j
  rw [List.getElem?_set, marked_length]
  unfold marked
  by_cases hj : i = j
  · subst hj
    by_cases hn : i < ls.length <;> simp [hn]
  · rw [if_neg hj]
    by_cases hn : j < ls.length
    · simp only [List.getElem?_map, List.getElem?_range hn, Option.map_some]
      by_cases h1 : j < i
      · rw [if_pos h1, if_pos (by omega)]
      · rw [if_neg h1, if_neg (by omega)]
    · simp [hn]
set_option maxHeartbeats 1000000 in
theorem markStringS_any (ls : List Bs) (A : Option Addr) (cap B k : Nat) (w : World) (hB : B ≤ w.heap.size) (ho : w.ownsRow B 9 1 (.slice A ls.length cap) ls.length (ls.map sv)) (hn : ls.length ≤ 9000000) (hk : k ≤ 9000000) :
    Calls Tryd.prog 9 #[.slice A ls.length cap, .int .i64 k] w fun e w' => e = .returned (.int .i64 ((k + ls.length : Nat) : Int)) ∧ Below B w w' ∧ w'.ownsRow B 9 1 (.slice A ls.length cap) ls.length ((marks k ls.length).map sv) := by
  have HF := Go.Lib.hid (marked_full k ls)
  have HZ := Go.Lib.hid (marked_zero k ls)
  go_enter Tryd.func9, Tryd.ntmps9
  go_wp2
  go_loopw [1, 5] (fun c a wr => ∃ i : Nat, i ≤ ls.length ∧ a = .int .i64 i ∧ c = .int .i64 ((k + i : Nat) : Int) ∧ wr.ownsRow B 9 1 (.slice A ls.length cap) ls.length ((marked k i ls).map sv) ∧ Below B w wr) (fun _ a _ => ls.length - (intOf a).toNat)
  case atStart => exact ⟨0, by omega, rfl, rfl, by rw [HZ.out]; exact ho, Below.refl _ _⟩
  case round =>
    obtain ⟨i, hi, rfl, rfl, hown, hb⟩ := hrel
    have hz := hb.size
    by_cases hlt : i < ls.length
    · obtain ⟨g, cap', hv, hg1, hg2⟩ := hown.form (by omega)
      injection hv with e1 e2 e3
      subst e1
      subst e3
      have h1 : (i : Int) < ls.length := by omega
      have HS := Go.Lib.hid (marked_succ k i ls)
      have HLn := Go.Lib.hid (marked_length k i ls)
      generalize marked k i ls = M at *
      go_wp2_with fail
      refine (markText_any (k + i) _ (by omega)).mono ?_
      rintro e w2 ⟨rfl, hb2⟩
      have hz2 := hb2.size
      have hown2 := owns_keep hown hb2
      have hb3 := hb.trans (hb2.mono (by omega))
      have hiM : i < M.length := by have := HLn.out; omega
      have hci : w2.cell? ⟨g, i, none⟩ = some (sv M[i]) := (hown2.cellAt i (by omega)).trans (by simp [hiM])
      have hfi := hown2.frozenAt i
      have hown3 := (hown2.stored i (sv (markT (k + i)))).1
      rw [← List.map_set, HS.out] at hown3
      have hb4 := hb3.setCell (p := ⟨g, i, none⟩) hg1 (sv (markT (k + i)))
      clear hb2 hown
      go_wp2
      go_roundw
      case rel => exact ⟨i + 1, by omega, by go_num, by go_num, hown3, hb4⟩
      case measure => simp [intOf]; omega
    · have HE : Go.RowKit.Hid (marked k i ls = marks k ls.length) := by
        show _ = _
        rw [← HF.out, show i = ls.length by omega]
      go_wp2
      go_ret
      refine ⟨ret_int ?_, hb, ?_⟩
      · omega
      · rw [← HE.out]; exact hown
set_option maxHeartbeats 1000000 in
theorem heldStringS_any (n : Nat) (A : Option Addr) (cap k : Nat) (w : World) (ha : SlS w A cap (marks k n)) (hn : n ≤ 9000000) (hk : k ≤ 9000000) :
    Calls Tryd.prog 10 #[.slice A n cap, .int .i64 k] w fun e w' => e = .returned (.int .i64 ((k + n : Nat) : Int)) ∧ Below w.heap.size w w' := by
  have hml : (marks k n).length = n := by simp [marks]
  have HL := Go.Lib.hid hml
  have HG : Go.RowKit.Hid (∀ i (h : i < (marks k n).length), (marks k n)[i] = markT (k + i)) := by
    intro i h; simp [marks]
  clear hml
  go_enter Tryd.func10, Tryd.ntmps10
  go_wp2
  go_loopw [1, 5] (fun c a wr => ∃ i : Nat, i ≤ n ∧ a = .int .i64 i ∧ c = .int .i64 ((k + i : Nat) : Int) ∧ Below w.heap.size w wr) (fun _ a _ => n - (intOf a).toNat)
  case atStart => exact ⟨0, by omega, rfl, rfl, Below.refl _ _⟩
  case round =>
    obtain ⟨i, hi, rfl, rfl, hb⟩ := hrel
    have hz := hb.size
    by_cases hlt : i < n
    · have hlt2 : i < (marks k n).length := by have := HL.out; omega
      obtain ⟨g, off, rfl, hg, hc⟩ := SlS.at (ha.below hb) hlt2
      rw [HG.out i hlt2] at hc
      have h1 : (i : Int) < n := by omega
      have hG : ∀ d os, (Go.Sort.grow (redrawn wr d) os).cell? ⟨g, off + i, none⟩ = some (sv (markT (k + i))) := fun d os => ((below_regrown wr d os).cell (p := ⟨g, off + i, none⟩) hg).trans hc
      go_wp2_with fail
      refine wp_region_quiet_below (by kernel_rfl) (by kernel_rfl) ?_
      repeat (go_big_quiet_step ((go_at_call 23; exact Calls.regrown_of (markText_any (k + i) _ (by omega)))))
      refine wpQuiet_nil ?_
      intro w2 hw2
      have hb2 : Below _ _ w2 := below_of_class hw2
      clear hw2
      have hz2 := hb2.size
      go_wp2
      go_roundw
      case rel => exact ⟨i + 1, by omega, by go_num, by go_num, hb.trans (hb2.mono (by omega))⟩
      case measure => simp [intOf]; omega
    · go_wp2
      go_ret
      exact ⟨ret_int (by omega), hb⟩
end Go.Proofs.YtdpchkelbcndaaaDoor
