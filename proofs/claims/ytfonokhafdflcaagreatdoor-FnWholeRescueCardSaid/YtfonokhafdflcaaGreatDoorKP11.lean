import Derived.Test.YtfonokhafdflcaaGreatDoorKGP4
namespace Go.Proofs.YtfonokhafdflcaaGreatDoor
open Go.RowKit
set_option linter.unusedVariables false
set_option linter.unusedSimpArgs false
set_option maxRecDepth 100000
attribute [local go_sem high] run_index_S binOp_eql_S binOp_neq_S append_S toList_S size_S run_slice_S run_slice_from_S run_slice_to_S wrap64_byteAt wrap64_byteAt_mul bits_or_bytes convU conv1_some convU2 conv2_some
theorem built_len {ls : List Bs} {p t : Bs} {n : Int} (h : builtOf ls p n = some t) : t.length ≤ 74 := by
 unfold builtOf at h
 split at h
 ·split at h
  ·rename_i t' _ hc
   injection h with h
   subst h
   have h1 := parse_text hc.1
   have h2 := parse_bd hc.1
   have h3 := text_bd h2.2.2.2
   rw [h1] at h3
   have h4 := cutAt_len t' 0 (endAt t' 0) (by omega) (by omega) (by omega)
   omega
  ·cases h
 ·cases h
theorem txtN_some {fs : List Fd} {p : Bs} {a : Int} {k : Nat} {n : Int} {b : Blk} (h : firstF fs n = some b) : txtN fs p a k n = some b.text := by unfold txtN; rw [h]
theorem ok_smB {b : Blk} (h : b.ok = true) : b.sm := Blk.ok_sm h
end Go.Proofs.YtfonokhafdflcaaGreatDoor
namespace Go.Proofs.YtfonokhafdflcaaGreatDoor
open Go.RowKit
set_option linter.unusedVariables false
set_option linter.unusedSimpArgs false
set_option maxRecDepth 100000
attribute [local go_sem high] run_index_S binOp_eql_S binOp_neq_S append_S toList_S size_S run_slice_S run_slice_from_S run_slice_to_S wrap64_byteAt wrap64_byteAt_mul bits_or_bytes convU conv1_some convU2 conv2_some
theorem repair_no {l : Bs} {pa : List Bs} {g c : Int} (h : ¬ (l.length ≤ 8000 ∧ 1 ≤ g ∧ g ≤ 40 ∧ 0 ≤ c ∧ c ≤ 40 ∧ (pa.length : Int) = (c + g - 1) / g)) : repairB l pa g c = none := by unfold repairB; rw [if_neg h]
theorem repair_yes {l : Bs} {pa : List Bs} {g c : Int} (h : l.length ≤ 8000 ∧ 1 ≤ g ∧ g ≤ 40 ∧ 0 ≤ c ∧ c ≤ 40 ∧ (pa.length : Int) = (c + g - 1) / g) : repairB l pa g c = match catTo (repTxt (findB l) pa g c) c.toNat with
  | some x => if (blocksB x).isSome = true then some x else none
  | none => none := by unfold repairB; rw [if_pos h]; rfl
theorem repair_none {l : Bs} {pa : List Bs} {g c : Int} (h : l.length ≤ 8000 ∧ 1 ≤ g ∧ g ≤ 40 ∧ 0 ≤ c ∧ c ≤ 40 ∧ (pa.length : Int) = (c + g - 1) / g) (h2 : catTo (repTxt (findB l) pa g c) c.toNat = none) : repairB l pa g c = none := by rw [repair_yes h, h2]
theorem repair_some {l : Bs} {pa : List Bs} {g c : Int} {x : Bs} (h : l.length ≤ 8000 ∧ 1 ≤ g ∧ g ≤ 40 ∧ 0 ≤ c ∧ c ≤ 40 ∧ (pa.length : Int) = (c + g - 1) / g) (h2 : catTo (repTxt (findB l) pa g c) c.toNat = some x) : repairB l pa g c = if (blocksB x).isSome = true then some x else none := by rw [repair_yes h, h2]
theorem grp_end {g c : Int} {n : Nat} (hg : 1 ≤ g) (hn : (n : Int) = (c + g - 1) / g) : c ≤ (n : Int) * g := by
 have h1 := Int.lt_mul_ediv_self_add (x := c + g - 1) (k := g) (by omega)
 have h4 : (n : Int) * g = g * ((c + g - 1) / g) := by rw [hn, Int.mul_comm]
 omega
theorem findGo_len (l : Bs) : ∀ (n : Nat) (a : Int), (findGo l n a).length ≤ n
  | 0, a => by simp [findGo]
  | n + 1, a => by
    unfold findGo
    split
    · have := findGo_len l n (nextB l (endAt l a)); simp; omega
    · simp
theorem txtN_len {fs : List Fd} {p : Bs} {a : Int} {k : Nat} {n : Int} {t : Bs} (ho : AllOk fs) (h : txtN fs p a k n = some t) : t.length ≤ 74 := by
  cases hf : firstF fs n with
  | some b => rw [txtN_some hf] at h; injection h with h; subst h; exact (text_bd (ho _ _ hf)).2
  | none =>
    rw [txtN_lost hf] at h
    split at h
    · exact built_len h
    · cases h
end Go.Proofs.YtfonokhafdflcaaGreatDoor
