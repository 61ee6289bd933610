/- Walks: the record of an operation. -/
import Derived.Test.YtkoefklgfkhmpaaDoorW4
import Derived.Test.YtkoefklgfkhmpaaDoorW5
import Derived.Test.YtkoefklgfkhmpaaDoorRec
namespace Go.Proofs.YtkoefklgfkhmpaaDoor
open Go.RowKit
set_option linter.unusedVariables false
attribute [local go_sem high] run_index_S binOp_eql_S binOp_neq_S append_S toList_S size_S run_slice_S run_slice_from_S run_slice_to_S wrap64_byteAt wrap64_byteAt_mul bits_or_bytes convU conv1_some convU2 conv2_some
def logRec (k : Int) (nm : Bs) (f t s : Int) (d : Bs) : Value := if opOk k nm f t s d then .tuple #[.string ⟨(recOf (fmtOp k nm f t s d)).toArray⟩, .bool true] else .tuple #[.string ⟨[].toArray⟩, .bool false]
theorem fmtOp_len (k : Int) (nm : Bs) (f t s : Int) (d : Bs) : (fmtOp k nm f t s d).length ≤ 9000 := by
  unfold fmtOp
  split
  · rename_i h
    obtain ⟨h1, h2, h3⟩ := h
    have a := nameV_len h1
    have b1 := Lib.itoa_length_le s (by omega) (by omega)
    have c := fmtHex_len d
    have e := orDash_len (fmtHex d)
    split
    · simp; omega
    split
    · simp; omega
    split
    · have b2 := Lib.itoa_length_le f (by omega) (by omega)
      have b3 := Lib.itoa_length_le t (by omega) (by omega)
      simp; omega
    split
    · simp; omega
    · simp; omega
  · simp
theorem l8Record_any (l : Bs) (w : World) (hl : l.length ≤ 65535) :
    Calls Tryd.prog 21 #[.string ⟨l.toArray⟩] w fun e w' => e = .returned (.string ⟨(recOf l).toArray⟩) ∧ Below w.heap.size w w' := by
  have hs := sumOf_bd l
  obtain ⟨hs0, hs1⟩ := hs
  have t1 := two_len l.length
  have t2 := two_len (sumOf l)
  have T1 : (two l.length).length ≤ 2 := by omega
  have T2 : (two (sumOf l)).length ≤ 2 := by omega
  clear t1 t2
  go_enter Tryd.func21, Tryd.ntmps21
  go_wp2_with fail
  refine (l4Two_any _ _ (by omega) (by omega)).mono ?_
  rintro e w1 ⟨rfl, hb1⟩
  have hz1 := hb1.size
  have g1 : Below w.heap.size w w1 := hb1
  clear hb1
  go_wp2_with fail
  refine (sSumOf_any _ _ (by omega)).mono ?_
  rintro e w' ⟨rfl, rfl⟩
  go_wp2_with fail
  refine (l4Two_any _ _ (by omega) (by omega)).mono ?_
  rintro e w2 ⟨rfl, hb2⟩
  have hz2 := hb2.size
  have g2 : Below w.heap.size w w2 := g1.trans (hb2.mono (by omega))
  clear hb2 g1
  go_wp2
  go_ret
  exact ⟨ret_S (by simp [recOf]), g2⟩
set_option maxHeartbeats 2000000 in
theorem sLogRecord_any (k f t s : Int) (nm d : Bs) (w : World) (hn : nm.length ≤ 9223372036854775807) (hd : d.length ≤ 9223372036854775807) :
    Calls Tryd.prog 7 #[.agg #[.int .i64 k, .string ⟨nm.toArray⟩, .int .i64 f, .int .i64 t, .int .i64 s, .string ⟨d.toArray⟩]] w fun e w' => e = .returned (logRec k nm f t s d) ∧ Below w.heap.size w w' := by
  have hl := fmtOp_len k nm f t s d
  go_enter Tryd.func7, Tryd.ntmps7
  go_wp2_with fail
  refine (sOpValid_any _ _ _ _ _ _ _ hn hd).mono ?_
  rintro e w1 ⟨rfl, hb1⟩
  have hz1 := hb1.size
  simp only [World.size_alloc] at hz1
  have X0_1 := box_keep (box_new _ _ _) hb1 (by simp)
  have L0_1 : w.heap.size < w1.heap.size := by omega
  have g1 : Below w.heap.size w w1 := ((Below.refl _ _).alloc (Nat.le_refl _) _).trans (hb1.mono (by simp))
  clear hb1
  by_cases hv : opOk k nm f t s d
  · have hdv : decide (opOk k nm f t s d) = true := by simpa using hv
    have HV := Go.Lib.hid hv
    clear hv
    go_wp2_with fail
    refine (sFormatOp_any _ _ _ _ _ _ _ hn hd).mono ?_
    rintro e w2 ⟨rfl, hb2⟩
    have hz2 := hb2.size
    have X0_2 := box_keep X0_1 hb2 L0_1
    have L0_2 : w.heap.size < w2.heap.size := by omega
    have g2 : Below w.heap.size w w2 := g1.trans (hb2.mono (by omega))
    clear hb2 X0_1 L0_1 g1
    go_wp2_with fail
    refine (l8Record_any _ _ (by omega)).mono ?_
    rintro e w3 ⟨rfl, hb3⟩
    have hz3 := hb3.size
    have X0_3 := box_keep X0_2 hb3 L0_2
    have L0_3 : w.heap.size < w3.heap.size := by omega
    have g3 : Below w.heap.size w w3 := g2.trans (hb3.mono (by omega))
    clear hb3 X0_2 L0_2 g2
    go_wp2
    go_ret2
    exact ⟨by rw [logRec, if_pos HV.out]; rfl, g3⟩
  · have hdv : decide (opOk k nm f t s d) = false := by simpa using hv
    have HV := Go.Lib.hid hv
    clear hv
    go_wp2
    go_ret2
    exact ⟨by rw [logRec, if_neg HV.out]; rfl, g1⟩
set_option maxHeartbeats 2000000 in
theorem logRecord_any (k f t s : Int) (nm d : Bs) (w : World) (B : Nat) (hB : B ≤ w.heap.size) (hT : HasTab B w) (hn : nm.length ≤ 9223372036854775807) (hd : d.length ≤ 9223372036854775807) :
    Calls Tryd.prog 6 #[.agg #[.int .i64 k, .string ⟨nm.toArray⟩, .int .i64 f, .int .i64 t, .int .i64 s, .string ⟨d.toArray⟩]] w fun e w' => e = .returned (logRec k nm f t s d) ∧ Below w.heap.size w w' := by
  have HT := Go.Lib.hid hT
  clear hT
  have hl := fmtOp_len k nm f t s d
  have hs := sumOf_bd (fmtOp k nm f t s d)
  obtain ⟨hs0, hs1⟩ := hs
  have T1 : (two (fmtOp k nm f t s d).length).length ≤ 2 := Nat.le_refl 2
  have T2 : (two (sumOf (fmtOp k nm f t s d))).length ≤ 2 := Nat.le_refl 2
  go_enter Tryd.func6, Tryd.ntmps6
  go_wp2_with fail
  refine (opValid_any _ _ _ _ _ _ _ hn hd).mono ?_
  rintro e w1 ⟨rfl, hb1⟩
  have hz1 := hb1.size
  simp only [World.size_alloc] at hz1
  have X0_1 := box_keep (box_new _ _ _) hb1 (by simp)
  have L0_1 : w.heap.size < w1.heap.size := by omega
  have g1 : Below w.heap.size w w1 := ((Below.refl _ _).alloc (Nat.le_refl _) _).trans (hb1.mono (by simp))
  clear hb1
  by_cases hv : opOk k nm f t s d
  · have hdv : decide (opOk k nm f t s d) = true := by simpa using hv
    have HV := Go.Lib.hid hv
    clear hv
    go_wp2_with fail
    refine (formatOp_any _ _ _ _ _ _ _ B (by omega) (HT.out.on (g1.mono hB)) hn hd).mono ?_
    rintro e w2 ⟨rfl, hb2⟩
    have hz2 := hb2.size
    have X0_2 := box_keep X0_1 hb2 L0_1
    have L0_2 : w.heap.size < w2.heap.size := by omega
    have g2 : Below w.heap.size w w2 := g1.trans (hb2.mono (by omega))
    clear hb2 X0_1 L0_1 g1
    go_wp2_with fail
    refine (two_any _ _ (by omega) (by omega)).mono ?_
    rintro e w3 ⟨rfl, hb3⟩
    have hz3 := hb3.size
    have X0_3 := box_keep X0_2 hb3 L0_2
    have L0_3 : w.heap.size < w3.heap.size := by omega
    have g3 : Below w.heap.size w w3 := g2.trans (hb3.mono (by omega))
    clear hb3 X0_2 L0_2 g2
    go_wp2_with fail
    refine (sumOf_any _ _ (by omega)).mono ?_
    rintro e w' ⟨rfl, rfl⟩
    go_wp2_with fail
    refine (two_any _ _ (by omega) (by omega)).mono ?_
    rintro e w4 ⟨rfl, hb4⟩
    have hz4 := hb4.size
    have X0_4 := box_keep X0_3 hb4 L0_3
    have L0_4 : w.heap.size < w4.heap.size := by omega
    have g4 : Below w.heap.size w w4 := g3.trans (hb4.mono (by omega))
    clear hb4 X0_3 L0_3 g3
    go_wp2
    go_ret2
    exact ⟨by rw [logRec, if_pos HV.out]; simp [recOf], g4⟩
  · have hdv : decide (opOk k nm f t s d) = false := by simpa using hv
    have HV := Go.Lib.hid hv
    clear hv
    go_wp2
    go_ret2
    exact ⟨by rw [logRec, if_neg HV.out]; rfl, g1⟩
end Go.Proofs.YtkoefklgfkhmpaaDoor
