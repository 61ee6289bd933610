/- Walks: RepairContainer of the reference. -/
import Derived.Test.YtfonokhafdflcaaGreatP11
namespace Go.Proofs.YtfonokhafdflcaaGreat
open Go.RowKit
set_option linter.unusedVariables false
set_option linter.unusedSimpArgs false
set_option maxRecDepth 100000
attribute [local go_sem high] run_index_S binOp_eql_S binOp_neq_S append_S toList_S size_S run_slice_S run_slice_from_S run_slice_to_S wrap64_byteAt wrap64_byteAt_mul bits_or_bytes convU conv1_some convU2 conv2_some
theorem repair_no {l : Bs} {pa : List Bs} {g c : Int} (h : ¬ (l.length ≤ 8000 ∧ 1 ≤ g ∧ g ≤ 40 ∧ 0 ≤ c ∧ c ≤ 40 ∧ (pa.length : Int) = (c + g - 1) / g)) : repairB l pa g c = none := by unfold repairB; rw [if_neg h]
theorem repair_yes {l : Bs} {pa : List Bs} {g c : Int} (h : l.length ≤ 8000 ∧ 1 ≤ g ∧ g ≤ 40 ∧ 0 ≤ c ∧ c ≤ 40 ∧ (pa.length : Int) = (c + g - 1) / g) : repairB l pa g c = match catTo (repTxt (findB l) pa g c) c.toNat with
    | some x => if (blocksB x).isSome = true then some x else none
    | none => none := by unfold repairB; rw [if_pos h]; rfl
theorem repair_none {l : Bs} {pa : List Bs} {g c : Int} (h : l.length ≤ 8000 ∧ 1 ≤ g ∧ g ≤ 40 ∧ 0 ≤ c ∧ c ≤ 40 ∧ (pa.length : Int) = (c + g - 1) / g) (h2 : catTo (repTxt (findB l) pa g c) c.toNat = none) : repairB l pa g c = none := by rw [repair_yes h, h2]
theorem repair_some {l : Bs} {pa : List Bs} {g c : Int} {x : Bs} (h : l.length ≤ 8000 ∧ 1 ≤ g ∧ g ≤ 40 ∧ 0 ≤ c ∧ c ≤ 40 ∧ (pa.length : Int) = (c + g - 1) / g) (h2 : catTo (repTxt (findB l) pa g c) c.toNat = some x) : repairB l pa g c = if (blocksB x).isSome = true then some x else none := by rw [repair_yes h, h2]
/-- Group i, of the numbers below c. -/
theorem grp_at {g c : Int} {n i : Nat} (hg : 1 ≤ g) (hn : (n : Int) = (c + g - 1) / g) (hi : i < n) : (i : Int) * g < c ∧ (i : Int) * g ≤ ((i : Int) + 1) * g ∧ ((i : Int) + 1) * g ≤ c + g - 1 := by
  have h1 := Int.mul_ediv_self_le (x := c + g - 1) (k := g) (by omega)
  have h3 : ((i : Int) + 1) * g ≤ (n : Int) * g := Int.mul_le_mul_of_nonneg_right (by omega) (by omega)
  have h4 : (n : Int) * g = g * ((c + g - 1) / g) := by rw [hn, Int.mul_comm]
  have h5 : ((i : Int) + 1) * g = (i : Int) * g + g := by rw [Int.add_mul]; omega
  omega
theorem grp_end {g c : Int} {n : Nat} (hg : 1 ≤ g) (hn : (n : Int) = (c + g - 1) / g) : c ≤ (n : Int) * g := by
  have h1 := Int.lt_mul_ediv_self_add (x := c + g - 1) (k := g) (by omega)
  have h4 : (n : Int) * g = g * ((c + g - 1) / g) := by rw [hn, Int.mul_comm]
  omega
theorem group_step {fs : List Fd} {pa : List Bs} {g c : Int} {i a k : Nat} {X : Bs} (hg : 1 ≤ g) (ha : (a : Int) = (i : Int) * g) (hk : (a : Int) + (k : Int) = min c (((i : Int) + 1) * g)) (hp : i < pa.length)
    (h : catTo (repTxt fs pa g c) a = some X) : catTo (repTxt fs pa g c) (a + k) = (catTo (fun j => txtN fs pa[i] a k ((a : Int) + (j : Int))) k).map (X ++ ·) := by
  rw [catTo_add _ a X h k]
  congr 1
  refine catTo_congr k fun j hj => ?_
  have hkg : (k : Int) ≤ g := by
    have : ((i : Int) + 1) * g = (i : Int) * g + g := by rw [Int.add_mul]; omega
    omega
  have e := repTxt_grp (fs := fs) (par := pa) (g := g) (c := c) (i := (i : Int)) hg (by omega) (j := j) (by omega)
  rw [show ((i : Int) * g).toNat = a by omega] at e
  rw [e, show (min (((i : Int) + 1) * g) c - (i : Int) * g).toNat = k by omega, ← ha]
  congr 1
  simp [hp]
theorem findGo_len (l : Bs) : ∀ (n : Nat) (a : Int), (findGo l n a).length ≤ n
  | 0, a => by simp [findGo]
  | n + 1, a => by
    unfold findGo
    split
    · have := findGo_len l n (nextB l (endAt l a)); simp; omega
    · simp
theorem catTo_len {f : Nat → Option Bs} (hf : ∀ j t, f j = some t → t.length ≤ 74) : ∀ k x, catTo f k = some x → x.length ≤ 74 * k
  | 0, x, h => by injection h with h; subst h; simp
  | k + 1, x, h => by
    unfold catTo at h
    cases hc : catTo f k with
    | none => rw [hc] at h; cases h
    | some y =>
      rw [hc] at h
      simp only at h
      cases ht : f k with
      | none => rw [ht] at h; cases h
      | some t =>
        rw [ht] at h
        injection h with h
        subst h
        have h1 := catTo_len hf k y hc
        have h2 := hf k t ht
        simp; omega
theorem txtN_len {fs : List Fd} {p : Bs} {a : Int} {k : Nat} {n : Int} {t : Bs} (ho : AllOk fs) (h : txtN fs p a k n = some t) : t.length ≤ 74 := by
  cases hf : firstF fs n with
  | some b => rw [txtN_some hf] at h; injection h with h; subst h; exact (text_bd (ho _ _ hf)).2
  | none =>
    rw [txtN_lost hf] at h
    split at h
    · exact built_len h
    · cases h
end Go.Proofs.YtfonokhafdflcaaGreat
