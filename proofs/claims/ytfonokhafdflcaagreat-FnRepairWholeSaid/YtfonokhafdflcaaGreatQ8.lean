/- Plain: bytes that bits are put into, one after the other. -/
import Derived.Test.YtfonokhafdflcaaGreatGJ3
namespace Go.Proofs.YtfonokhafdflcaaGreat
open Go.RowKit
set_option linter.unusedSimpArgs false
set_option linter.unusedVariables false
/-- The first k bytes. -/
def pkTo (o : Int) (l : Bs) (k : Nat) : Bs := (List.range k).map fun i => UInt8.ofNat (numBits o (((padB l).drop (8 * i)).take 8))
theorem pkTo_length (o : Int) (l : Bs) (k : Nat) : (pkTo o l k).length = k := by simp [pkTo]
theorem pkTo_succ (o : Int) (l : Bs) (k : Nat) : pkTo o l (k + 1) = pkTo o l k ++ [UInt8.ofNat (numBits o (((padB l).drop (8 * k)).take 8))] := by unfold pkTo; rw [List.range_succ, List.map_append]; rfl
theorem pkTo_full (o : Int) (l : Bs) (k : Nat) (h0 : l.length ≤ 8 * k) (h1 : 8 * k < l.length + 8) : pkTo o l k = packB o l := by
  unfold pkTo packB
  rw [padB_length]
  congr 2
  omega
theorem sumTo_congr (o : Int) (x y : Bs) (w : Nat) : ∀ k, (∀ i, i < k → bitN x i = bitN y i) → sumTo o x w k = sumTo o y w k
  | 0, _ => rfl
  | k + 1, h => by
    unfold sumTo
    rw [sumTo_congr o x y w k (fun i hi => h i (by omega)), h k (by omega)]
theorem sumTo_zero (o : Int) (x : Bs) (w m : Nat) : ∀ k, m ≤ k → (∀ i, m ≤ i → i < k → bitN x i = 0) → sumTo o x w k = sumTo o x w m
  | 0, h, _ => by
    have : m = 0 := by omega
    subst this; rfl
  | k + 1, h, hz => by
    by_cases hk : m ≤ k
    · have ih := sumTo_zero o x w m k hk (fun i h0 h1 => hz i h0 (by omega))
      have e : sumTo o x w (k + 1) = sumTo o x w k + bitN x k * 2 ^ plI2 o k w := rfl
      rw [e, ih, hz k hk (by omega)]; simp
    · have : m = k + 1 := by omega
      rw [this]
theorem bitN_drop (l : Bs) (f i : Nat) : bitN (l.drop f) i = bitN l (f + i) := by unfold bitN; rw [List.getElem?_drop]
theorem bitN_past (l : Bs) (i : Nat) (h : l.length ≤ i) : bitN l i = 0 := by unfold bitN; rw [List.getElem?_eq_none h]; rfl
theorem bitN_pad (l : Bs) (i : Nat) : bitN (padB l) i = bitN l i := by
  unfold padB
  by_cases h : i < l.length
  · unfold bitN; rw [List.getElem?_append_left h]
  · rw [bitN_past l i (by omega)]
    unfold bitN
    rw [List.getElem?_append_right (by omega), List.getElem?_replicate]
    split <;> rfl
/-- A byte: the sum of its digits. -/
theorem byte_sum (o : Int) (ho : o = 0 ∨ o = 1) (l : Bs) (f m : Nat) (hf : f % 8 = 0) (h0 : f < l.length) (hm : m = min 8 (l.length - f)) : numBits o (((padB l).drop f).take 8) = sumTo o (l.drop f) 8 m := by
  have hlen : (((padB l).drop f).take 8).length = 8 := by rw [List.length_take, List.length_drop, padB_length]; omega
  rw [← sumTo_num o ho, hlen]
  rw [sumTo_congr o _ (l.drop f) 8 8 (fun i hi => by
    have e : bitN (((padB l).drop f).take 8) i = bitN ((padB l).drop f) i := by unfold bitN; rw [List.getElem?_take_of_lt hi]
    rw [e, bitN_drop, bitN_pad, ← bitN_drop])]
  refine sumTo_zero o _ 8 m 8 (by omega) (fun i hi h8 => ?_)
  rw [bitN_drop]
  exact bitN_past l _ (by omega)
theorem byte_bd (o : Int) (l : Bs) (hb : bitsB l = true) (f : Nat) : numBits o (((padB l).drop f).take 8) ≤ 255 := by
  have hp : bitsB (padB l) = true := by
    unfold padB bitsB at *
    rw [List.all_append, hb, List.all_eq_true.2 (fun x hx => by rw [List.eq_of_mem_replicate hx]; rfl)]; rfl
  have h := numBits_bd o _ (bitsB_sub (padB l) f 8 hp)
  have h2 : 2 ^ (((padB l).drop f).take 8).length ≤ 2 ^ 8 := Nat.pow_le_pow_right (by omega) (by rw [List.length_take]; omega)
  omega
theorem sum255 (o : Int) (l : Bs) (hb : bitsB l = true) (m : Nat) (hm : m ≤ 8) : sumTo o l 8 m ≤ m * 128 := by
  induction m with
  | zero => simp [sumTo]
  | succ m ih =>
    have h1 := ih (by omega)
    have hp : 2 ^ plI2 o m 8 ≤ 2 ^ 7 := Nat.pow_le_pow_right (by omega) (by have := plI2_lt o m 8 (by omega); omega)
    have h2 : bitN l m * 2 ^ plI2 o m 8 ≤ 1 * 2 ^ 7 := Nat.mul_le_mul (by rcases bitN_of l hb m with h | h <;> omega) hp
    unfold sumTo
    omega
end Go.Proofs.YtfonokhafdflcaaGreat
