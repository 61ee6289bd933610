/- Walks: hexadecimal text read back. -/
import Derived.Test.YtgcjfddkgbigoaaGA
import Derived.Test.YtgcjfddkgbigoaaGQ
import Derived.Test.YtgcjfddkgbigoaaShelf
namespace Go.Proofs.Ytgcjfddkgbigoaa
open Go.RowKit
set_option linter.unusedVariables false
set_option maxRecDepth 100000
attribute [local go_sem high] run_index_S binOp_eql_S binOp_neq_S append_S toList_S size_S run_slice_S run_slice_from_S run_slice_to_S wrap64_byteAt wrap64_byteAt_mul bits_or_bytes convU conv1_some convU2 conv2_some
theorem byteAt_getD (l : Bs) (i : Int) : byteAt l i = ((l.getD i.toNat 0).toNat : Int) := by unfold byteAt; rw [List.getD_eq_getElem?_getD]
theorem u8_back (c : UInt8) : ((c.toNat : Int)).toNat.toUInt8 = c := by simp
/-- A result of a text read back. -/
def hexRes (l : Bs) : Ending := .returned (.tuple #[.string ⟨((unhex l).getD []).toArray⟩, .bool (unhex l).isSome])
theorem or16 (d e : Int) (h0 : 0 ≤ d) (h1 : d < 16) (h2 : 0 ≤ e) (h3 : e < 16) : bits .or .i64 (d * 16) e = d * 16 + e := by
  have key : ∀ x y : Fin 16, bits .or .i64 (((x.val : Nat) : Int) * 16) ((y.val : Nat) : Int) = ((x.val : Nat) : Int) * 16 + ((y.val : Nat) : Int) := by decide +kernel
  have := key ⟨d.toNat, by omega⟩ ⟨e.toNat, by omega⟩
  simp only at this
  rw [Int.toNat_of_nonneg h0, Int.toNat_of_nonneg h2] at this
  exact this
/-- The digit at a place. -/
def dAt (l : Bs) (i : Int) : Int := digI (l.getD i.toNat 0)
theorem dAt_bd (l : Bs) (i : Int) : dAt l i < 16 ∧ -1 ≤ dAt l i := by
  have := dig_ok (l.getD i.toNat 0)
  unfold dAt
  by_cases h : 0 ≤ digI (l.getD i.toNat 0)
  · exact ⟨(this.1 h).1, this.2⟩
  · exact ⟨by omega, this.2⟩
theorem dAt_step {l r : Bs} {k : Nat} (h : 2 * k < l.length) (he : l.length % 2 = 0) (hr : unhexL (l.take (2 * k)) = some r) (h1 : 0 ≤ dAt l (2 * (k : Int))) (h2 : 0 ≤ dAt l (2 * (k : Int) + 1)) :
    unhexL (l.take (2 * (k + 1))) = some (r ++ [UInt8.ofNat (16 * dAt l (2 * (k : Int)) + dAt l (2 * (k : Int) + 1)).toNat]) := by
  have e1 : dAt l (2 * (k : Int)) = digI (l.getD (2 * k) 0) := by unfold dAt; rw [show (2 * (k : Int)).toNat = 2 * k by omega]
  have e2 : dAt l (2 * (k : Int) + 1) = digI (l.getD (2 * k + 1) 0) := by unfold dAt; rw [show (2 * (k : Int) + 1).toNat = 2 * k + 1 by omega]
  rw [e1] at h1 ⊢
  rw [e2] at h2 ⊢
  rw [unhexL_step (by omega) he hr h1 h2]
  congr 4
  omega
theorem dAt_bad {l : Bs} {k : Nat} (h : 2 * k < l.length) (he : l.length % 2 = 0) (hb : ¬ (0 ≤ dAt l (2 * (k : Int)) ∧ 0 ≤ dAt l (2 * (k : Int) + 1))) : unhexL l = none := by
  have e1 : dAt l (2 * (k : Int)) = digI (l.getD (2 * k) 0) := by unfold dAt; rw [show (2 * (k : Int)).toNat = 2 * k by omega]
  have e2 : dAt l (2 * (k : Int) + 1) = digI (l.getD (2 * k + 1) 0) := by unfold dAt; rw [show (2 * (k : Int) + 1).toNat = 2 * k + 1 by omega]
  rw [e1, e2] at hb
  exact unhexL_bad l k (by omega) hb
theorem u8v_of (x : Int) (h0 : 0 ≤ x) (h1 : x < 256) : u8v (UInt8.ofNat x.toNat) = .int .u8 x := by
  show Value.int .u8 _ = _
  rw [UInt8.toNat_ofNat']
  congr 1; omega
end Go.Proofs.Ytgcjfddkgbigoaa
