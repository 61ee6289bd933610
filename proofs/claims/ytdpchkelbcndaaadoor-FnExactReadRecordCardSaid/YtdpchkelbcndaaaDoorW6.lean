/- Walks: the record of an operation. -/
import Derived.Test.YtdpchkelbcndaaaDoorW4
import Derived.Test.YtdpchkelbcndaaaDoorW5
import Derived.Test.YtdpchkelbcndaaaDoorRec
namespace Go.Proofs.YtdpchkelbcndaaaDoor
open Go.RowKit
set_option linter.unusedVariables false
attribute [local go_sem high] run_index_S binOp_eql_S binOp_neq_S append_S toList_S size_S run_slice_S run_slice_from_S run_slice_to_S wrap64_byteAt wrap64_byteAt_mul bits_or_bytes convU conv1_some convU2 conv2_some
def logRec (k : Int) (nm : Bs) (f t s : Int) (d : Bs) : Value := if opOk k nm f t s d then .tuple #[.string ⟨(recOf (fmtOp k nm f t s d)).toArray⟩, .bool true] else .tuple #[.string ⟨[].toArray⟩, .bool false]
theorem fmtOp_len (k : Int) (nm : Bs) (f t s : Int) (d : Bs) : (fmtOp k nm f t s d).length ≤ 9000 := by
  unfold fmtOp
  split
  · rename_i h
    obtain ⟨h1, h2, h3⟩ := h
    have a := nameV_len h1
    have b1 := Lib.itoa_length_le s (by omega) (by omega)
    have c := fmtHex_len d
    have e := orDash_len (fmtHex d)
    split
    · simp; omega
    split
    · simp; omega
    split
    · have b2 := Lib.itoa_length_le f (by omega) (by omega)
      have b3 := Lib.itoa_length_le t (by omega) (by omega)
      simp; omega
    split
    · simp; omega
    · simp; omega
  · simp
theorem l8Record_any (l : Bs) (w : World) (hl : l.length ≤ 65535) :
    Calls Tryd.prog 30 #[.string ⟨l.toArray⟩] w fun e w' => e = .returned (.string ⟨(recOf l).toArray⟩) ∧ Below w.heap.size w w' := by
  have hs := sumOf_bd l
  obtain ⟨hs0, hs1⟩ := hs
  have t1 := two_len l.length
  have t2 := two_len (sumOf l)
  have T1 : (two l.length).length ≤ 2 := by omega
  have T2 : (two (sumOf l)).length ≤ 2 := by omega
  clear t1 t2
  go_enter Tryd.func30, Tryd.ntmps30
  go_wp2_with fail
  refine (l4Two_any _ _ (by omega) (by omega)).mono ?_
  rintro e w1 ⟨rfl, hb1⟩
  have hz1 := hb1.size
  have g1 : Below w.heap.size w w1 := hb1
  clear hb1
  go_wp2_with fail
  refine (sSumOf_any _ _ (by omega)).mono ?_
  rintro e w' ⟨rfl, rfl⟩
  go_wp2_with fail
  refine (l4Two_any _ _ (by omega) (by omega)).mono ?_
  rintro e w2 ⟨rfl, hb2⟩
  have hz2 := hb2.size
  have g2 : Below w.heap.size w w2 := g1.trans (hb2.mono (by omega))
  clear hb2 g1
  go_wp2
  go_ret
  exact ⟨ret_S (by simp [recOf]), g2⟩
end Go.Proofs.YtdpchkelbcndaaaDoor
