/- Walks: the bytes of the blocks of a group, by the reference. -/
import Derived.Test.YtfonokhafdflcaaGreatGP4
namespace Go.Proofs.YtfonokhafdflcaaGreat
open Go.RowKit
set_option linter.unusedVariables false
set_option linter.unusedSimpArgs false
set_option maxRecDepth 100000
attribute [local go_sem high] run_index_S binOp_eql_S binOp_neq_S append_S toList_S size_S run_slice_S run_slice_from_S run_slice_to_S wrap64_byteAt wrap64_byteAt_mul bits_or_bytes convU conv1_some convU2 conv2_some
theorem built_len {ls : List Bs} {p t : Bs} {n : Int} (h : builtOf ls p n = some t) : t.length ≤ 74 := by
  unfold builtOf at h
  split at h
  · split at h
    · rename_i t' _ hc
      injection h with h
      subst h
      have h1 := parse_text hc.1
      have h2 := parse_bd hc.1
      have h3 := text_bd h2.2.2.2
      rw [h1] at h3
      have h4 := cutAt_len t' 0 (endAt t' 0) (by omega) (by omega) (by omega)
      omega
    · cases h
  · cases h
theorem txtN_some {fs : List Fd} {p : Bs} {a : Int} {k : Nat} {n : Int} {b : Blk} (h : firstF fs n = some b) : txtN fs p a k n = some b.text := by unfold txtN; rw [h]
/-- The number that is lost, or -1. -/
def lostV : List Int → Int
  | [] => -1
  | n :: _ => n
theorem lost_one {fs : List Fd} {a : Int} {k : Nat} {n : Int} {j : Nat} (hj : j < k) (h : firstF fs (a + j) = none) (hl : lostTo fs a k = [n]) : a + (j : Int) = n := by
  have := lostTo_of fs a k j hj h
  rw [hl] at this
  simpa using this
theorem lost_found {fs : List Fd} {a : Int} {k : Nat} {n : Int} (hl : lostTo fs a k = [n]) {m : Int} {b : Blk} (h : firstF fs m = some b) : m ≠ n := by
  intro hc
  obtain ⟨_, _, _, h3⟩ := lostTo_mem fs a k n (by rw [hl]; simp)
  rw [← hc, h] at h3
  cases h3
theorem parse_nil : parseOk [] 0 = false := by decide
theorem ok_smB {b : Blk} (h : b.ok = true) : b.sm := Blk.ok_sm h
end Go.Proofs.YtfonokhafdflcaaGreat
