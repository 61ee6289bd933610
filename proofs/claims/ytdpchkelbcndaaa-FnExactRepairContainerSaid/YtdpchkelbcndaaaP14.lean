/- Walks: lists of strings that a law measures, copies and compares; the law of RepairContainer. -/
import Derived.Test.YtdpchkelbcndaaaP13
import Derived.Test.YtdpchkelbcndaaaOpen
import Derived.SliceStrings
namespace Go.Proofs.Ytdpchkelbcndaaa
open Go.RowKit
set_option linter.unusedVariables false
set_option linter.unusedSimpArgs false
set_option maxRecDepth 100000
attribute [local go_sem high] run_index_S binOp_eql_S binOp_neq_S append_S toList_S size_S run_slice_S run_slice_from_S run_slice_to_S wrap64_byteAt wrap64_byteAt_mul bits_or_bytes convU conv1_some convU2 conv2_some
open Go.WideShapes Go.ChangeShapes Go.ChangeAt in
theorem open_SS {H : Type} {enc : TypeId × Value → H} {W : World} {b : Nat} {v : Value} {d : DataW H} {p : List MemPlace} (hv : Value.okWide Try.prog W .any b 28 v) (h : DataW.Trod enc Try.prog W 0 (fun _ => true) true 28 v d p) :
    ∃ (A : Option Addr) (cap : Nat) (ls : List Bs), v = .slice A ls.length cap ∧ Sl W A ls.length cap 1 (ls.map sv) ∧ ∀ t ∈ ls, t.length ≤ 9223372036854775807 := by
  obtain ⟨a, len, cap, rfl⟩ := okWide_slice Try.underlying28 hv
  obtain ⟨fuel, hf⟩ := h
  have hc : Try.prog.cellsOf 9 = 1 := by kernel_rfl
  rcases open_strings Try.underlying28 Try.underlying9 hc hf with ⟨hcs, _⟩ | ⟨a', len', cap', ss, hcs, _, hl, hm, hsl, _, hcell, hwf⟩
  · simp [Value.cells] at hcs
    obtain ⟨rfl, rfl, rfl⟩ := hcs
    exact ⟨none, 0, [], rfl, Sl.nil _ _, fun t ht => by cases ht⟩
  · simp [Value.cells] at hcs
    obtain ⟨rfl, rfl, rfl⟩ := hcs
    simp only [if_true] at hsl
    have hbl : ((ss.take len).map fun s => s.data.toList).length = len := by simp; omega
    refine ⟨some a', cap, (ss.take len).map fun s => s.data.toList, by rw [hbl], ?_⟩
    rw [hbl]
    refine ⟨⟨hl, by unfold maxLen at hm; omega, by simp; omega, fun h0 => ?_⟩, fun t ht => by
      obtain ⟨s, hs, rfl⟩ := List.mem_map.1 ht
      have := hwf s (List.mem_of_mem_take hs)
      unfold maxLen at this
      simpa using this⟩
    obtain ⟨g, off, spot⟩ := a'
    have hspot : spot = none := by simpa [Addr.add] using World.cell?_spot (hcell 0 (by omega))
    subst hspot
    have hat : ∀ j, j < ss.length → W.cell? ⟨g, off + j, none⟩ = some (.string (ss.getD j ByteArray.empty)) := fun j hj => by rw [← Go.WideShapes.add_plain]; exact hcell j hj
    have h1 := hat 0 (by omega)
    refine ⟨g, off, rfl, lt_of_cell h1, fun j u hu => ?_⟩
    simp only [List.getElem?_map] at hu
    by_cases hj : j < len
    · have hjz : j < ss.length := by omega
      rw [List.getElem?_take, if_pos hj, List.getElem?_eq_getElem hjz] at hu
      simp at hu
      rw [hat j hjz, ← hu]
      rw [List.getD_eq_getElem?_getD, List.getElem?_eq_getElem hjz]
      rfl
    · rw [List.getElem?_take, if_neg hj] at hu
      simp at hu
/-- The size of strings: their number and their bytes. -/
def szS (ls : List Bs) : Nat := ls.length + (ls.map List.length).sum
theorem szS_mem {ls : List Bs} {t : Bs} (h : t ∈ ls) : t.length ≤ (ls.map List.length).sum := by
  induction ls with
  | nil => cases h
  | cons x r ih =>
    simp only [List.map_cons, List.sum_cons]
    rcases List.mem_cons.1 h with rfl | h
    · omega
    · have := ih h; omega
/-- What is left of n: below 0 only where the strings are too large. -/
def SzRes (ls : List Bs) (n : Nat) (e : Ending) : Prop := ∃ m : Int, e = .returned (.int .i64 m) ∧ -1 ≤ m ∧ m ≤ n ∧ (0 ≤ m → ls.length ≤ n ∧ ∀ t ∈ ls, t.length ≤ n)
set_option maxHeartbeats 1000000 in
theorem szStringS_any (ls : List Bs) (n : Nat) (A : Option Addr) (cap : Nat) (w : World) (hs : Sl w A ls.length cap 1 (ls.map sv)) (hn : n ≤ 1048576) (hx : ∀ t ∈ ls, t.length ≤ 9223372036854775807) :
    Calls Try.prog 13 #[.slice A ls.length cap, .int .i64 (n : Int)] w fun e w' => SzRes ls n e ∧ w = w' := by
  have hcap := hs.2.1
  have hcap1 := hs.1
  have HX := Go.Lib.hid hx
  clear hx
  by_cases h0 : (n : Int) < ls.length
  · have h0' : (n : Int) - ls.length < 0 := by omega
    go_enter Try.func13, Try.ntmps13
    go_wp2
    go_ret
    exact ⟨⟨-1, rfl, by omega, by omega, fun h => by omega⟩, rfl⟩
  · have h0' : ¬ (n : Int) - ls.length < 0 := by omega
    go_enter Try.func13, Try.ntmps13
    go_wp2
    go_loopw [1, 5] (fun a i wr => wr = w ∧ ∃ k m : Nat, a = .int .i64 (m : Int) ∧ i = .int .i64 (k : Int) ∧ k ≤ ls.length ∧ m ≤ n ∧ Go.RowKit.Hid (∀ t ∈ ls.take k, t.length ≤ n)) (fun _ i _ => ls.length - (intOf i).toNat)
    case atStart => exact ⟨rfl, 0, n - ls.length, by congr 1; omega, rfl, by omega, by omega, fun t ht => (by simp at ht)⟩
    case round =>
      obtain ⟨rfl, k, m, rfl, rfl, hk, hm, HA⟩ := hrel
      by_cases hlt : k < ls.length
      · have hki : (k : Int) < ls.length := by omega
        obtain ⟨g, off, u, rfl, hg, hu, hc⟩ := Sl.at1 hs hlt
        rw [List.getElem?_map, List.getElem?_eq_getElem hlt] at hu
        simp at hu
        subst hu
        have htl := HX.out ls[k] (List.getElem_mem hlt)
        have HTK : Go.RowKit.Hid (ls.take (k + 1) = ls.take k ++ [ls[k]]) := List.take_succ_eq_append_getElem hlt
        generalize ls[k] = t at *
        by_cases hf : t.length ≤ m
        · have hf' : ¬ (m : Int) - t.length < 0 := by omega
          go_wp2
          go_roundw
          case rel => exact ⟨trivial, k + 1, m - t.length, by congr 1; omega, by go_num, by omega, by omega, fun t' ht' => (by
              rw [HTK.out] at ht'
              rcases List.mem_append.1 ht' with h | h
              · exact HA.out t' h
              · simp at h; subst h; omega)⟩
          case measure => simp [intOf]; omega
        · have hf' : (m : Int) - t.length < 0 := by omega
          go_wp2
          go_ret
          exact ⟨⟨-1, rfl, by omega, by omega, fun h => by omega⟩, rfl⟩
      · have hki : ¬ (k : Int) < ls.length := by omega
        have hkl : ls.take k = ls := List.take_of_length_le (by omega)
        rw [hkl] at HA
        clear hkl
        go_wp2
        go_ret
        exact ⟨⟨m, rfl, by omega, by omega, fun _ => ⟨by omega, HA.out⟩⟩, rfl⟩
/-- The first k of n strings; the others are empty still. -/
def cpC (ls : List Bs) (k : Nat) : List Value := (ls.take k).map sv ++ List.replicate (ls.length - k) (sv [])
theorem cpC_length (ls : List Bs) (k : Nat) (h : k ≤ ls.length) : (cpC ls k).length = ls.length := by simp [cpC]; omega
theorem cpC_cur (ls : List Bs) (k : Nat) (h : k < ls.length) : (cpC ls k)[k]? = some (sv []) := by
  unfold cpC
  rw [List.getElem?_append_right (by simp; omega), show k - (List.map sv (List.take k ls)).length = 0 by simp; omega, show ls.length - k = (ls.length - k - 1) + 1 by omega]
  rfl
theorem cpC_succ (ls : List Bs) (k : Nat) (h : k < ls.length) : (cpC ls k).set k (sv ls[k]) = cpC ls (k + 1) := by
  unfold cpC
  rw [List.set_append_right _ _ (by simp; omega), List.take_succ_eq_append_getElem h]
  simp only [List.length_map, List.length_take, List.map_append, List.map_cons, List.map_nil, List.append_assoc]
  congr 1
  rw [show k - min k ls.length = 0 by omega, show ls.length - k = (ls.length - (k + 1)) + 1 by omega, List.replicate_succ]
  rfl
set_option maxHeartbeats 1000000 in
theorem toStringS_any (ls : List Bs) (A : Option Addr) (cap : Nat) (w : World) (hs : Sl w A ls.length cap 1 (ls.map sv)) (hl : ls.length ≤ 1500000) :
    Calls Try.prog 15 #[.slice A ls.length cap] w fun e w' => ∃ (A' : Option Addr) (cap' : Nat), e = .returned (.slice A' ls.length cap') ∧ w'.ownsRow w.heap.size 9 1 (.slice A' ls.length cap') ls.length (ls.map sv) ∧ Below w.heap.size w w' := by
  obtain ⟨i0, hi, hz0, hz1, hz2⟩ := info_parts info_str
  have hcap := hs.2.1
  have hcap1 := hs.1
  have HS : Go.RowKit.Hid (∀ wr, Below w.heap.size w wr → Sl wr A ls.length cap 1 (ls.map sv)) := fun wr h => hs.below h
  clear hs
  obtain ⟨n, hn⟩ : ∃ n, ls.length = n := ⟨_, rfl⟩
  rw [hn]
  go_enter Try.func15, Try.ntmps15
  go_wp2_with (at_make; go_must (refine wpList_make_full _ rfl _ _ 28 rfl w.heap.size 9 i0 (.string ⟨#[]⟩) 1 Try.underlying28 hi hz0 hz1 _ _ _ _ n rfl rfl (by omega) (by omega) (by rw [hz2]; omega) (by unfold maxLen; omega) (Nat.le_refl _) ?_); intro w1 hown hg1)
  have g1 : Below w.heap.size w w1 := (Below.refl _ _).grown hg1 (Nat.le_refl _) (by simp)
  clear hg1
  go_loopw [4] (fun i wr => ∃ k : Nat, i = .int .i64 (k : Int) ∧ k ≤ n ∧ wr.ownsRow w.heap.size 9 1 (.slice (some ⟨w.heap.size, 0, none⟩) n n) n (cpC ls k) ∧ Below w.heap.size w wr) (fun i _ => n - (intOf i).toNat)
  case atStart =>
    refine ⟨0, rfl, by omega, ?_, g1⟩
    have e : cpC ls 0 = List.replicate n (sv []) := by simp [cpC, hn]
    rw [e, ← toList_madeCells_one]
    rw [Nat.mul_one] at hown
    exact hown
  case round =>
    obtain ⟨k, rfl, hk, hown, hb⟩ := hrel
    have hz := hb.size
    have hlt3 : w.heap.size < wr.heap.size := (hown.lt _ rfl).2
    by_cases hlt : k < n
    · have hki : (k : Int) < (n : Int) := by omega
      have hlt2 : k < ls.length := by omega
      have hsr := HS.out wr hb
      obtain ⟨g, off, u, rfl, hg, hu, hc⟩ := Sl.at1 hsr hlt2
      rw [List.getElem?_map, List.getElem?_eq_getElem hlt2] at hu
      simp at hu
      subst hu
      have hcl := (hown.cellAt k (by omega)).trans (cpC_cur ls k hlt2)
      have hfr := hown.frozenAt k
      have hst := hown.stored k (sv ls[k])
      rw [cpC_succ ls k hlt2] at hst
      have HST := Go.Lib.hid hst
      have b5 : Below w.heap.size w (wr.setCell ⟨w.heap.size, k, none⟩ (sv ls[k])) := hb.setCell (Nat.le_refl _) _
      clear hst hsr
      generalize ls[k] = t at *
      go_wp2
      go_roundw
      case rel => exact ⟨k + 1, by go_num, by omega, HST.out.1, b5⟩
      case measure => simp [intOf]; omega
    · have hki : ¬ (k : Int) < (n : Int) := by omega
      have e : cpC ls k = ls.map sv := by
        unfold cpC
        rw [List.take_of_length_le (by omega), show ls.length - k = 0 by omega]; simp
      rw [e] at hown
      clear e
      go_wp2
      go_ret
      exact ⟨some ⟨w.heap.size, 0, none⟩, n, rfl, hown, hb⟩
theorem eqSS_same (ls : List Bs) (A B : Option Addr) (ca cb : Nat) (w : World) (ha : Sl w A ls.length ca 1 (ls.map sv)) (hb : Sl w B ls.length cb 1 (ls.map sv)) (hn : ls.length ≤ 9000000) :
    Calls Try.prog 17 #[.slice A ls.length ca, .slice B ls.length cb] w fun e w' => e = .returned (.bool true) ∧ Below w.heap.size w w' := by
  have h1 := ha.1
  have h2 := hb.1
  have HA : Go.RowKit.Hid (∀ wr, Below w.heap.size w wr → Sl wr A ls.length ca 1 (ls.map sv)) := fun wr h => ha.below h
  have HB : Go.RowKit.Hid (∀ wr, Below w.heap.size w wr → Sl wr B ls.length cb 1 (ls.map sv)) := fun wr h => hb.below h
  clear ha hb
  go_enter Try.func17, Try.ntmps17
  go_wp2
  go_loopw [5] (fun a wr => ∃ k : Nat, k ≤ ls.length ∧ a = .int .i64 (k : Int) ∧ Below w.heap.size w wr) (fun a _ => ls.length - (intOf a).toNat)
  case atStart => exact ⟨0, by omega, rfl, Below.refl _ _⟩
  case round =>
    obtain ⟨k, hk, rfl, hbw⟩ := hrel
    have hz := hbw.size
    by_cases hlt : k < ls.length
    · have h1 : (k : Int) < ls.length := by omega
      obtain ⟨g, off, u, rfl, hg, hu, hc⟩ := Sl.at1 (HA.out wr hbw) hlt
      rw [List.getElem?_map, List.getElem?_eq_getElem hlt] at hu
      simp at hu
      subst hu
      obtain ⟨g2, off2, u2, rfl, hg2, hu2, hc2⟩ := Sl.at1 (HB.out wr hbw) hlt
      rw [List.getElem?_map, List.getElem?_eq_getElem hlt] at hu2
      simp at hu2
      subst hu2
      generalize ls[k] = x at *
      go_wp2
      go_quiet (fail)
      go_wp2
      go_roundw
      case rel => exact ⟨k + 1, by omega, by go_num, (by repeat (first | (with_reducible exact Below.refl _ _) | (with_reducible assumption) | (with_reducible refine Below.drew ?_) | (with_reducible refine Below.alloc ?_ (by first | omega | (simp <;> omega)) _) | (with_reducible refine Below.setCell ?_ (by first | omega | (simp <;> omega)) _) | (with_reducible refine belowN ?_ _)))⟩
      case measure => simp [intOf]; omega
    · have h1 : ¬ (k : Int) < ls.length := by omega
      go_wp2
      go_ret
      exact ⟨rfl, hbw⟩
set_option maxHeartbeats 2000000 in
theorem law_ExactRepairContainer (l : Bs) (pa : List Bs) (A : Option Addr) (cap : Nat) (g c : Int) (w : World) (hl : l.length ≤ 9223372036854775807) (hs : Sl w A pa.length cap 1 (pa.map sv)) (hp : ∀ t ∈ pa, t.length ≤ 9223372036854775807)
    (hg0 : -9223372036854775808 ≤ g) (hg1 : g ≤ 9223372036854775807) (hc0 : -9223372036854775808 ≤ c) (hc1 : c ≤ 9223372036854775807) :
    Calls Try.prog 5 #[sv l, .slice A pa.length cap, .int .i64 g, .int .i64 c] w fun e w' => e = .returned (.bool true) ∧ Below w.heap.size w w' := by
  by_cases h1 : l.length ≤ 1048576
  case neg =>
    have hd : (1048576 : Int) < l.length := by omega
    go_enter Try.func5, Try.ntmps5
    go_wp2
    go_ret
    exact ⟨rfl, (by repeat (first | (with_reducible exact Below.refl _ _) | (with_reducible assumption) | (with_reducible refine Below.drew ?_) | (with_reducible refine Below.alloc ?_ (by first | omega | (simp <;> omega)) _) | (with_reducible refine Below.setCell ?_ (by first | omega | (simp <;> omega)) _) | (with_reducible refine belowN ?_ _)))⟩
  have hd : ¬ (1048576 : Int) < l.length := by omega
  have cS := szStringS_any pa 1048576 A cap w hs (by omega) hp
  have HS : Go.RowKit.Hid (∀ wr, Below w.heap.size w wr → Sl wr A pa.length cap 1 (pa.map sv)) := fun wr h => hs.below h
  clear hs hp
  go_enter Try.func5, Try.ntmps5
  go_wp2_with fail
  refine cS.mono ?_
  rintro e w' ⟨⟨m, rfl, hm1, hm2, hm3⟩, rfl⟩
  clear cS
  by_cases hm : m < 0
  · clear hm3
    go_wp2
    go_ret
    exact ⟨rfl, (by repeat (first | (with_reducible exact Below.refl _ _) | (with_reducible assumption) | (with_reducible refine Below.drew ?_) | (with_reducible refine Below.alloc ?_ (by first | omega | (simp <;> omega)) _) | (with_reducible refine Below.setCell ?_ (by first | omega | (simp <;> omega)) _) | (with_reducible refine belowN ?_ _)))⟩
  · obtain ⟨hpl, hpt⟩ := hm3 (by omega)
    have cT := fun wr h => toStringS_any pa A cap wr (HS.out wr h) (by omega)
    go_wp2_with fail
    refine (cT _ (Below.refl _ _)).mono ?_
    rintro e w1 ⟨A1, c1, rfl, o1, b1⟩
    have z1 := b1.size
    have s1 := own_Sl o1
    go_wp2_with fail
    refine (sRepair_any l pa g c A1 c1 w1 s1 (by omega) (by omega) (fun t ht => by have := hpt t ht; omega) hg0 hg1 hc0 hc1).mono ?_
    rintro e w2 ⟨rfl, b2⟩
    have z2 := b2.size
    have g2 := b1.trans (b2.mono z1)
    clear b1 b2 o1 s1
    have cG : Go.RowKit.Hid (∀ w A cap, Sl w A pa.length cap 1 (pa.map sv) → Calls Try.prog 16 #[sv l, .slice A pa.length cap, .int .i64 g, .int .i64 c] w fun e w' => e = rbRes (repairB l pa g c) ∧ Below w.heap.size w w') := fun w A cap h => repair_any l pa g c A cap w h (by omega) (by omega) (fun t ht => by have := hpt t ht; omega) hg0 hg1 hc0 hc1
    have cE : Go.RowKit.Hid (∀ w A B ca cb, Sl w A pa.length ca 1 (pa.map sv) → Sl w B pa.length cb 1 (pa.map sv) → Calls Try.prog 17 #[.slice A pa.length ca, .slice B pa.length cb] w fun e w' => e = .returned (.bool true) ∧ Below w.heap.size w w') := fun w A B ca cb h h2 => eqSS_same pa A B ca cb w h h2 (by omega)
    generalize repairB l pa g c = R at *
    cases R
    all_goals
      unfold rbRes
      go_wp2_with fail
      refine (cT _ g2).mono ?_
      rintro e w3 ⟨A3, c3, rfl, o3, b3⟩
      have z3 := b3.size
      have g3 := g2.trans (b3.mono (by omega))
      have s3 := own_Sl o3
      clear b3 g2
      go_wp2_with fail
      refine (cG.out _ _ _ s3).mono ?_
      rintro e w4 ⟨rfl, b4⟩
      have z4 := b4.size
      have g4 := g3.trans (b4.mono (by omega))
      have s4 := s3.below b4
      clear b4 g3 o3 s3 cG
      unfold rbRes
      go_wp2_with fail
      refine (cT _ g4).mono ?_
      rintro e w5 ⟨A5, c5, rfl, o5, b5⟩
      have z5 := b5.size
      have g5 := g4.trans (b5.mono (by omega))
      have s5 := own_Sl o5
      have s6 := s4.below b5
      clear b5 g4 o5 s4 cT
      go_wp2_with fail
      refine (cE.out _ _ _ _ _ s6 s5).mono ?_
      rintro e w6 ⟨rfl, b6⟩
      have g6 := g5.trans (b6.mono (by omega))
      clear b6 g5 s5 s6 cE
      go_wp2
      go_ret
      exact ⟨rfl, g6⟩
end Go.Proofs.Ytdpchkelbcndaaa
