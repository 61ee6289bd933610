/- Plain: the bytes of blocks; blocks found one after the other; containers. No program. -/
import Derived.Test.YtgcjfddkgbigoaaPlain
namespace Go.Proofs.Ytgcjfddkgbigoaa
set_option linter.unusedVariables false
/-! ### Blocks -/
def Blk.inner (b : Blk) : Bs := (if b.raw then 0 else 1) :: (two b.num ++ two b.size ++ two b.body.length ++ b.body)
def Blk.text (b : Blk) : Bs := 181 :: (b.inner ++ two (sumOf b.inner))
theorem Blk.inner_len (b : Blk) : b.inner.length = 7 + b.body.length := by simp [Blk.inner, two]; omega
theorem Blk.text_len (b : Blk) : b.text.length = 10 + b.body.length := by simp [Blk.text, b.inner_len, two]; omega
theorem Blk.ok_len {b : Blk} (h : b.ok = true) : 1 ≤ b.body.length ∧ b.body.length ≤ 64 := by
  simp only [Blk.ok, decide_eq_true_eq] at h
  obtain ⟨_, _, h1, h2, h3⟩ := h
  split at h3 <;> omega
/-- A part of a string. -/
def cutAt (l : Bs) (i j : Int) : Bs := (l.drop i.toNat).take (j.toNat - i.toNat)
def blkAt (l : Bs) (a : Int) : Blk := ⟨numAt l (a + 2), decide (byteAt l (a + 1) = 0), numAt l (a + 4), cutAt l (a + 8) (a + 8 + numAt l (a + 6))⟩
def endAt (l : Bs) (a : Int) : Int := a + 8 + numAt l (a + 6) + 2
def headOk (l : Bs) (a : Int) : Bool := decide (0 ≤ a ∧ a + 10 ≤ l.length) && (decide (byteAt l a = 181) && decide (byteAt l (a + 1) ≤ 1))
def parseOk (l : Bs) (a : Int) : Bool := headOk l a && (decide (endAt l a ≤ l.length) && ((blkAt l a).ok && decide (sumOf (cutAt l (a + 1) (endAt l a - 2)) = numAt l (endAt l a - 2))))
theorem two_num (l : Bs) (i : Int) (h0 : 0 ≤ i) (h1 : i + 2 ≤ l.length) : two (numAt l i) = cutAt l i (i + 2) := by
  obtain ⟨k, rfl⟩ := Int.eq_ofNat_of_zero_le h0
  have hk : k + 1 < l.length := by omega
  unfold cutAt
  rw [show ((k : Int) + 2).toNat - (k : Int).toNat = 2 by omega, Int.toNat_natCast, List.drop_eq_getElem_cons (by omega : k < l.length), List.drop_eq_getElem_cons hk]
  simp only [List.take_succ_cons, List.take_zero]
  unfold two numAt
  have e : ((k : Int) + 1) = ((k + 1 : Nat) : Int) := by omega
  rw [e, byteAt_nat l k (by omega), byteAt_nat l (k + 1) hk]
  have h2 := l[k].toNat_lt
  have h3 := l[k + 1].toNat_lt
  congr 1
  · apply UInt8.toNat_inj.1
    rw [UInt8.toNat_ofNat']; omega
  · congr 1
    apply UInt8.toNat_inj.1
    rw [UInt8.toNat_ofNat']; omega
theorem cutAt_len (l : Bs) (i j : Int) (h0 : 0 ≤ i) (h1 : i ≤ j) (h2 : j ≤ l.length) : ((cutAt l i j).length : Int) = j - i := by
  unfold cutAt; simp; omega
theorem cutAt_append (l : Bs) (i j k : Int) (h0 : 0 ≤ i) (h1 : i ≤ j) (h2 : j ≤ k) : cutAt l i j ++ cutAt l j k = cutAt l i k := by
  unfold cutAt
  have e : l.drop j.toNat = (l.drop i.toNat).drop (j.toNat - i.toNat) := by rw [List.drop_drop]; congr 1; omega
  rw [e]
  generalize l.drop i.toNat = m
  have : k.toNat - i.toNat = (j.toNat - i.toNat) + (k.toNat - j.toNat) := by omega
  rw [this, List.take_add]
theorem cutAt_one (l : Bs) (i : Int) (h0 : 0 ≤ i) (h1 : i < l.length) : cutAt l i (i + 1) = [UInt8.ofNat (byteAt l i).toNat] := by
  obtain ⟨k, rfl⟩ := Int.eq_ofNat_of_zero_le h0
  unfold cutAt
  rw [show ((k : Int) + 1).toNat - (k : Int).toNat = 1 by omega, Int.toNat_natCast, List.drop_eq_getElem_cons (by omega : k < l.length)]
  simp only [List.take_succ_cons, List.take_zero]
  rw [byteAt_nat l k (by omega)]
  simp
/-- The bytes behind the marker, read again. -/
theorem inner_at {l : Bs} {a : Int} (hh : headOk l a = true) (he : endAt l a ≤ l.length) : (blkAt l a).inner = cutAt l (a + 1) (endAt l a - 2) := by
  simp only [headOk, Bool.and_eq_true, decide_eq_true_eq] at hh
  obtain ⟨⟨h0, h1⟩, h2, h3⟩ := hh
  have hn := numAt_bd l (a + 6)
  unfold endAt at *
  have e1 : cutAt l (a + 1) (a + 2) = [if decide (byteAt l (a + 1) = 0) = true then 0 else 1] := by
    rw [show a + 2 = a + 1 + 1 by omega, cutAt_one l (a + 1) (by omega) (by omega)]
    have hb := byteAt_nonneg l (a + 1)
    by_cases hz : byteAt l (a + 1) = 0
    · rw [hz]; simp
    · have : byteAt l (a + 1) = 1 := by omega
      rw [this]; simp
  have e2 := two_num l (a + 2) (by omega) (by omega)
  have e3 := two_num l (a + 4) (by omega) (by omega)
  have e4 := two_num l (a + 6) (by omega) (by omega)
  have hl : (((blkAt l a).body.length : Nat) : Int) = numAt l (a + 6) := by
    show (((cutAt l (a + 8) (a + 8 + numAt l (a + 6))).length : Nat) : Int) = _
    rw [cutAt_len _ _ _ (by omega) (by omega) (by omega)]; omega
  unfold Blk.inner
  rw [hl]
  show (if decide (byteAt l (a + 1) = 0) = true then 0 else 1) :: (two (numAt l (a + 2)) ++ two (numAt l (a + 4)) ++ two (numAt l (a + 6)) ++ cutAt l (a + 8) (a + 8 + numAt l (a + 6))) = _
  rw [e2, e3, e4]
  rw [show a + 2 + 2 = a + 4 by omega, show a + 4 + 2 = a + 6 by omega, show a + 6 + 2 = a + 8 by omega]
  rw [cutAt_append _ _ _ _ (by omega) (by omega) (by omega), cutAt_append _ _ _ _ (by omega) (by omega) (by omega), cutAt_append _ _ _ _ (by omega) (by omega) (by omega)]
  rw [show ∀ (x : UInt8) (r : Bs), x :: r = [x] ++ r from fun _ _ => rfl, ← e1, cutAt_append _ _ _ _ (by omega) (by omega) (by omega)]
  congr 1; omega
theorem two_inj {a b : Int} (ha : 0 ≤ a ∧ a < 65536) (hb : 0 ≤ b ∧ b < 65536) (h : two a = two b) : a = b := by
  unfold two at h
  injection h with h1 h2
  injection h2 with h2 _
  have h1 := congrArg UInt8.toNat h1
  have h2 := congrArg UInt8.toNat h2
  simp only [UInt8.toNat_ofNat'] at h1 h2
  omega
/-- A block's bytes are those that it was read from, just where its sum fits. -/
theorem text_at {l : Bs} {a : Int} (hh : headOk l a = true) (he : endAt l a ≤ l.length) : ((blkAt l a).text = cutAt l a (endAt l a)) ↔ sumOf (cutAt l (a + 1) (endAt l a - 2)) = numAt l (endAt l a - 2) := by
  have hi := inner_at hh he
  simp only [headOk, Bool.and_eq_true, decide_eq_true_eq] at hh
  obtain ⟨⟨h0, h1⟩, h2, h3⟩ := hh
  have hn := numAt_bd l (a + 6)
  have hen : endAt l a = a + 8 + numAt l (a + 6) + 2 := rfl
  unfold Blk.text
  rw [hi]
  have e1 : cutAt l a (a + 1) = [181] := by rw [cutAt_one l a h0 (by omega), h2]; rfl
  have e2 := two_num l (endAt l a - 2) (by omega) (by omega)
  rw [show endAt l a - 2 + 2 = endAt l a by omega] at e2
  have e3 : cutAt l a (endAt l a) = 181 :: (cutAt l (a + 1) (endAt l a - 2) ++ two (numAt l (endAt l a - 2))) := by
    rw [e2, cutAt_append _ _ _ _ (by omega) (by omega) (by omega)]
    rw [show ∀ (x : UInt8) (r : Bs), x :: r = [x] ++ r from fun _ _ => rfl, ← e1, cutAt_append _ _ _ _ (by omega) (by omega) (by omega)]
  rw [e3]
  constructor
  · intro h
    injection h with _ h
    have h := List.append_cancel_left h
    exact two_inj (sumOf_bd _) (by have := numAt_bd l (endAt l a - 2); omega) h
  · intro h; rw [h]
theorem parse_text {l : Bs} {a : Int} (h : parseOk l a = true) : (blkAt l a).text = cutAt l a (endAt l a) := by
  simp only [parseOk, Bool.and_eq_true, decide_eq_true_eq] at h
  exact (text_at h.1 h.2.1).2 h.2.2.2
theorem parse_bd {l : Bs} {a : Int} (h : parseOk l a = true) : 0 ≤ a ∧ a + 10 ≤ endAt l a ∧ endAt l a ≤ l.length ∧ (blkAt l a).ok = true := by
  simp only [parseOk, headOk, Bool.and_eq_true, decide_eq_true_eq] at h
  have hn := numAt_bd l (a + 6)
  have hen : endAt l a = a + 8 + numAt l (a + 6) + 2 := rfl
  exact ⟨h.1.1.1, by omega, h.2.1, h.2.2.1⟩
/-! ### Blocks one after the other -/
/-- The first index from a on at which a block begins; -1 if there is none (n: how far to look). -/
def nextGo (l : Bs) : Nat → Int → Int
  | 0, _ => -1
  | n + 1, a => if parseOk l a = true then a else nextGo l n (a + 1)
def nextB (l : Bs) (a : Int) : Int := if l.length ≤ 8000 ∧ 0 ≤ a then nextGo l (l.length - a).toNat a else -1
theorem nextGo_spec (l : Bs) : ∀ (n : Nat) (a : Int), nextGo l n a = -1 ∧ (∀ i : Int, a ≤ i → i < a + n → parseOk l i = false) ∨ (a ≤ nextGo l n a ∧ nextGo l n a < a + n ∧ parseOk l (nextGo l n a) = true ∧ ∀ i : Int, a ≤ i → i < nextGo l n a → parseOk l i = false)
  | 0, a => .inl ⟨rfl, fun i h0 h1 => by omega⟩
  | n + 1, a => by
    unfold nextGo
    by_cases h : parseOk l a = true
    · rw [if_pos h]
      exact .inr ⟨Int.le_refl _, by omega, h, fun i h0 h1 => by omega⟩
    · rw [if_neg h]
      have hf : parseOk l a = false := by simpa using h
      rcases nextGo_spec l n (a + 1) with ⟨h1, h2⟩ | ⟨h1, h2, h3, h4⟩
      · refine .inl ⟨h1, fun i h0 h1 => ?_⟩
        by_cases e : i = a
        · rw [e]; exact hf
        · exact h2 i (by omega) (by omega)
      · refine .inr ⟨by omega, by omega, h3, fun i h0 h1 => ?_⟩
        by_cases e : i = a
        · rw [e]; exact hf
        · exact h4 i (by omega) (by omega)
/-- All blocks that are found one after the other, from the first one at a on. -/
def findGo (l : Bs) : Nat → Int → List (Int × Blk)
  | 0, _ => []
  | n + 1, a => if 0 ≤ a then (a, blkAt l a) :: findGo l n (nextB l (endAt l a)) else []
def findB (l : Bs) : List (Int × Blk) := findGo l (l.length + 1) (nextB l 0)
def sizesOf (bs : List Blk) : Int := bs.foldl (fun n b => n + b.size) 0
/-- The blocks of a container, from the one at a on, behind those in acc. -/
def blocksGo (l : Bs) : Nat → Int → List Blk → Option (List Blk)
  | 0, _, _ => none
  | n + 1, a, acc => if (l.length : Int) ≤ a then (if sizesOf acc ≤ 2000 then some acc else none) else
    if parseOk l a = true ∧ (blkAt l a).num = acc.length then blocksGo l n (endAt l a) (acc ++ [blkAt l a]) else none
def blocksB (l : Bs) : Option (List Blk) := blocksGo l (l.length + 1) 0 []
/-! ### Sums of strings, bit by bit -/
def longestB (ls : List Bs) : Nat := ls.foldl (fun n t => max n t.length) 0
def xorAt (ls : List Bs) (j : Nat) : UInt8 := ls.foldl (fun x t => x ^^^ (t[j]?.getD 0)) 0
def xorT (ls : List Bs) : Bs := (List.range (longestB ls)).map (xorAt ls)
/-- The sum of ls, n bytes long, and of the first i bytes of t. -/
def xorTo (n : Nat) (ls : List Bs) (t : Bs) (i : Nat) : Bs := (List.range n).map fun j => xorAt ls j ^^^ (if j < i then (t[j]?.getD 0) else 0)
theorem longestB_snoc (ls : List Bs) (t : Bs) : longestB (ls ++ [t]) = max (longestB ls) t.length := by unfold longestB; rw [List.foldl_append]; rfl
theorem xorAt_snoc (ls : List Bs) (t : Bs) (j : Nat) : xorAt (ls ++ [t]) j = xorAt ls j ^^^ (t[j]?.getD 0) := by unfold xorAt; rw [List.foldl_append]; rfl
theorem xorTo_length (n : Nat) (ls : List Bs) (t : Bs) (i : Nat) : (xorTo n ls t i).length = n := by simp [xorTo]
theorem xorT_length (ls : List Bs) : (xorT ls).length = longestB ls := by simp [xorT]
theorem longestB_ge : ∀ (ls : List Bs) (t : Bs), t ∈ ls → t.length ≤ longestB ls := by
  intro ls
  induction ls using snoc_ind with
  | h0 => intro t h; cases h
  | h1 ls s ih =>
    intro t h
    rw [longestB_snoc]
    rcases List.mem_append.1 h with h | h
    · have := ih t h; omega
    · simp at h; subst h; omega
theorem longestB_le (ls : List Bs) (n : Nat) (h : ∀ t ∈ ls, t.length ≤ n) : longestB ls ≤ n := by
  induction ls using snoc_ind with
  | h0 => simp [longestB]
  | h1 ls s ih =>
    rw [longestB_snoc]
    have h1 := ih (fun t ht => h t (by simp [ht]))
    have h2 := h s (by simp)
    omega
theorem xorAt_past (ls : List Bs) (j : Nat) (h : longestB ls ≤ j) : xorAt ls j = 0 := by
  induction ls using snoc_ind with
  | h0 => rfl
  | h1 ls s ih =>
    rw [longestB_snoc] at h
    rw [xorAt_snoc, ih (by omega), List.getElem?_eq_none (by omega)]; rfl
theorem xorTo_zero (n : Nat) (ls : List Bs) (t : Bs) : xorTo n ls t 0 = (List.range n).map (xorAt ls) := by
  unfold xorTo; simp
theorem xorTo_full (n : Nat) (ls : List Bs) (t : Bs) : xorTo n ls t t.length = (List.range n).map (xorAt (ls ++ [t])) := by
  unfold xorTo
  apply List.map_congr_left
  intro j hj
  rw [xorAt_snoc]
  by_cases h : j < t.length
  · rw [if_pos h]
  · rw [if_neg h, List.getElem?_eq_none (by omega)]; rfl
theorem xorTo_at (n : Nat) (ls : List Bs) (t : Bs) (i : Nat) (hi : i < n) : (xorTo n ls t i)[i]? = some (xorAt ls i) := by
  unfold xorTo; simp [hi]
theorem xorTo_succ (n : Nat) (ls : List Bs) (t : Bs) (i : Nat) (hi : i < n) (ht : i < t.length) : xorTo n ls t (i + 1) = (xorTo n ls t i).set i (xorAt ls i ^^^ t[i]) := by
  apply List.ext_getElem?
  intro j
  rw [List.getElem?_set, xorTo_length]
  by_cases hj : i = j
  · subst hj
    rw [if_pos rfl, if_pos hi]
    unfold xorTo
    simp [hi, ht]
  · rw [if_neg hj]
    unfold xorTo
    simp only [List.getElem?_map]
    by_cases hn : j < n
    · rw [List.getElem?_range hn]
      simp only [Option.map_some]
      by_cases h1 : j < i
      · rw [if_pos h1, if_pos (by omega)]
      · rw [if_neg h1, if_neg (by omega)]
    · rw [List.getElem?_eq_none (by simp; omega)]; rfl
/-- More zeros at the end of a sum. -/
theorem xorR_more (n : Nat) (ls : List Bs) (h : longestB ls ≤ n) : (List.range (n + 1)).map (xorAt ls) = (List.range n).map (xorAt ls) ++ [0] := by
  rw [List.range_succ, List.map_append]
  simp [xorAt_past ls n h]
/-! ### What is missing in a group -/
def rebuildT (ls : List Bs) (p : Bs) : Option Bs :=
  if 2 ≤ p.length ∧ ls.length ≤ 40 ∧ (∀ t ∈ ls, t.length ≤ p.length - 2) then
    (if numAt (xorT (p.take 2 :: ls.map fun t => two t.length)) 0 ≤ p.length - 2 then some ((xorT (p.drop 2 :: ls)).take (numAt (xorT (p.take 2 :: ls.map fun t => two t.length)) 0).toNat) else none)
  else none
/-- The first found block with a number. -/
def firstF (fs : List (Int × Blk)) (n : Int) : Option Blk := (fs.find? fun f => decide (f.2.num = n)).map (·.2)
theorem firstF_snoc (fs : List (Int × Blk)) (f : Int × Blk) (n : Int) : firstF (fs ++ [f]) n = (firstF fs n).or (if f.2.num = n then some f.2 else none) := by
  unfold firstF
  rw [List.find?_append]
  cases h : List.find? (fun f => decide (f.2.num = n)) fs with
  | some x => simp
  | none => by_cases e : f.2.num = n <;> simp [e]
end Go.Proofs.Ytgcjfddkgbigoaa
