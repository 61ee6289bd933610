import Derived.Test.YtfonokhafdflcaaGreatGA
/- Plain: the bytes of blocks; blocks found one after the other; containers. No program. -/
namespace Go.Proofs.YtfonokhafdflcaaGreat
set_option linter.unusedVariables false
/-! ### Blocks -/
def Blk.inner (b : Blk) : Bs := (if b.raw then 0 else 1) :: (two b.num ++ two b.size ++ two b.body.length ++ b.body)
def Blk.text (b : Blk) : Bs := 181 :: (b.inner ++ two (sumOf b.inner))
theorem Blk.inner_len (b : Blk) : b.inner.length = 7 + b.body.length := by simp [Blk.inner, two]; omega
theorem Blk.text_len (b : Blk) : b.text.length = 10 + b.body.length := by simp [Blk.text, b.inner_len, two]; omega
theorem Blk.ok_len {b : Blk} (h : b.ok = true) : 1 ≤ b.body.length ∧ b.body.length ≤ 64 := by
  simp only [Blk.ok, decide_eq_true_eq] at h
  obtain ⟨_, _, h1, h2, h3⟩ := h
  split at h3 <;> omega
/-- A part of a string. -/
def cutAt (l : Bs) (i j : Int) : Bs := (l.drop i.toNat).take (j.toNat - i.toNat)
def blkAt (l : Bs) (a : Int) : Blk := ⟨numAt l (a + 2), decide (byteAt l (a + 1) = 0), numAt l (a + 4), cutAt l (a + 8) (a + 8 + numAt l (a + 6))⟩
def endAt (l : Bs) (a : Int) : Int := a + 8 + numAt l (a + 6) + 2
def headOk (l : Bs) (a : Int) : Bool := decide (0 ≤ a ∧ a + 10 ≤ l.length) && (decide (byteAt l a = 181) && decide (byteAt l (a + 1) ≤ 1))
def parseOk (l : Bs) (a : Int) : Bool := headOk l a && (decide (endAt l a ≤ l.length) && ((blkAt l a).ok && decide (sumOf (cutAt l (a + 1) (endAt l a - 2)) = numAt l (endAt l a - 2))))
theorem two_num (l : Bs) (i : Int) (h0 : 0 ≤ i) (h1 : i + 2 ≤ l.length) : two (numAt l i) = cutAt l i (i + 2) := by
  obtain ⟨k, rfl⟩ := Int.eq_ofNat_of_zero_le h0
  have hk : k + 1 < l.length := by omega
  unfold cutAt
  rw [show ((k : Int) + 2).toNat - (k : Int).toNat = 2 by omega, Int.toNat_natCast, List.drop_eq_getElem_cons (by omega : k < l.length), List.drop_eq_getElem_cons hk]
  simp only [List.take_succ_cons, List.take_zero]
  unfold two numAt
  have e : ((k : Int) + 1) = ((k + 1 : Nat) : Int) := by omega
  rw [e, byteAt_nat l k (by omega), byteAt_nat l (k + 1) hk]
  have h2 := l[k].toNat_lt
  have h3 := l[k + 1].toNat_lt
  congr 1
  · apply UInt8.toNat_inj.1
    rw [UInt8.toNat_ofNat']; omega
  · congr 1
    apply UInt8.toNat_inj.1
    rw [UInt8.toNat_ofNat']; omega
theorem cutAt_len (l : Bs) (i j : Int) (h0 : 0 ≤ i) (h1 : i ≤ j) (h2 : j ≤ l.length) : ((cutAt l i j).length : Int) = j - i := by
  unfold cutAt; simp; omega
theorem cutAt_append (l : Bs) (i j k : Int) (h0 : 0 ≤ i) (h1 : i ≤ j) (h2 : j ≤ k) : cutAt l i j ++ cutAt l j k = cutAt l i k := by
  unfold cutAt
  have e : l.drop j.toNat = (l.drop i.toNat).drop (j.toNat - i.toNat) := by rw [List.drop_drop]; congr 1; omega
  rw [e]
  generalize l.drop i.toNat = m
  have : k.toNat - i.toNat = (j.toNat - i.toNat) + (k.toNat - j.toNat) := by omega
  rw [this, List.take_add]
theorem cutAt_one (l : Bs) (i : Int) (h0 : 0 ≤ i) (h1 : i < l.length) : cutAt l i (i + 1) = [UInt8.ofNat (byteAt l i).toNat] := by
  obtain ⟨k, rfl⟩ := Int.eq_ofNat_of_zero_le h0
  unfold cutAt
  rw [show ((k : Int) + 1).toNat - (k : Int).toNat = 1 by omega, Int.toNat_natCast, List.drop_eq_getElem_cons (by omega : k < l.length)]
  simp only [List.take_succ_cons, List.take_zero]
  rw [byteAt_nat l k (by omega)]
  simp
/-- The bytes behind the marker, read again. -/
theorem inner_at {l : Bs} {a : Int} (hh : headOk l a = true) (he : endAt l a ≤ l.length) : (blkAt l a).inner = cutAt l (a + 1) (endAt l a - 2) := by
  simp only [headOk, Bool.and_eq_true, decide_eq_true_eq] at hh
  obtain ⟨⟨h0, h1⟩, h2, h3⟩ := hh
  have hn := numAt_bd l (a + 6)
  unfold endAt at *
  have e1 : cutAt l (a + 1) (a + 2) = [if decide (byteAt l (a + 1) = 0) = true then 0 else 1] := by
    rw [show a + 2 = a + 1 + 1 by omega, cutAt_one l (a + 1) (by omega) (by omega)]
    have hb := byteAt_nonneg l (a + 1)
    by_cases hz : byteAt l (a + 1) = 0
    · rw [hz]; simp
    · have : byteAt l (a + 1) = 1 := by omega
      rw [this]; simp
  have e2 := two_num l (a + 2) (by omega) (by omega)
  have e3 := two_num l (a + 4) (by omega) (by omega)
  have e4 := two_num l (a + 6) (by omega) (by omega)
  have hl : (((blkAt l a).body.length : Nat) : Int) = numAt l (a + 6) := by
    show (((cutAt l (a + 8) (a + 8 + numAt l (a + 6))).length : Nat) : Int) = _
    rw [cutAt_len _ _ _ (by omega) (by omega) (by omega)]; omega
  unfold Blk.inner
  rw [hl]
  show (if decide (byteAt l (a + 1) = 0) = true then 0 else 1) :: (two (numAt l (a + 2)) ++ two (numAt l (a + 4)) ++ two (numAt l (a + 6)) ++ cutAt l (a + 8) (a + 8 + numAt l (a + 6))) = _
  rw [e2, e3, e4]
  rw [show a + 2 + 2 = a + 4 by omega, show a + 4 + 2 = a + 6 by omega, show a + 6 + 2 = a + 8 by omega]
  rw [cutAt_append _ _ _ _ (by omega) (by omega) (by omega), cutAt_append _ _ _ _ (by omega) (by omega) (by omega), cutAt_append _ _ _ _ (by omega) (by omega) (by omega)]
  rw [show ∀ (x : UInt8) (r : Bs), x :: r = [x] ++ r from fun _ _ => rfl, ← e1, cutAt_append _ _ _ _ (by omega) (by omega) (by omega)]
  congr 1; omega
theorem two_inj {a b : Int} (ha : 0 ≤ a ∧ a < 65536) (hb : 0 ≤ b ∧ b < 65536) (h : two a = two b) : a = b := by
  unfold two at h
  injection h with h1 h2
  injection h2 with h2 _
  have h1 := congrArg UInt8.toNat h1
  have h2 := congrArg UInt8.toNat h2
  simp only [UInt8.toNat_ofNat'] at h1 h2
  omega
/-- A block's bytes are those that it was read from, just where its sum fits. -/
theorem text_at {l : Bs} {a : Int} (hh : headOk l a = true) (he : endAt l a ≤ l.length) : ((blkAt l a).text = cutAt l a (endAt l a)) ↔ sumOf (cutAt l (a + 1) (endAt l a - 2)) = numAt l (endAt l a - 2) := by
  have hi := inner_at hh he
  simp only [headOk, Bool.and_eq_true, decide_eq_true_eq] at hh
  obtain ⟨⟨h0, h1⟩, h2, h3⟩ := hh
  have hn := numAt_bd l (a + 6)
  have hen : endAt l a = a + 8 + numAt l (a + 6) + 2 := rfl
  unfold Blk.text
  rw [hi]
  have e1 : cutAt l a (a + 1) = [181] := by rw [cutAt_one l a h0 (by omega), h2]; rfl
  have e2 := two_num l (endAt l a - 2) (by omega) (by omega)
  rw [show endAt l a - 2 + 2 = endAt l a by omega] at e2
  have e3 : cutAt l a (endAt l a) = 181 :: (cutAt l (a + 1) (endAt l a - 2) ++ two (numAt l (endAt l a - 2))) := by
    rw [e2, cutAt_append _ _ _ _ (by omega) (by omega) (by omega)]
    rw [show ∀ (x : UInt8) (r : Bs), x :: r = [x] ++ r from fun _ _ => rfl, ← e1, cutAt_append _ _ _ _ (by omega) (by omega) (by omega)]
  rw [e3]
  constructor
  · intro h
    injection h with _ h
    have h := List.append_cancel_left h
    exact two_inj (sumOf_bd _) (by have := numAt_bd l (endAt l a - 2); omega) h
  · intro h; rw [h]
theorem parse_text {l : Bs} {a : Int} (h : parseOk l a = true) : (blkAt l a).text = cutAt l a (endAt l a) := by
  simp only [parseOk, Bool.and_eq_true, decide_eq_true_eq] at h
  exact (text_at h.1 h.2.1).2 h.2.2.2
theorem parse_bd {l : Bs} {a : Int} (h : parseOk l a = true) : 0 ≤ a ∧ a + 10 ≤ endAt l a ∧ endAt l a ≤ l.length ∧ (blkAt l a).ok = true := by
  simp only [parseOk, headOk, Bool.and_eq_true, decide_eq_true_eq] at h
  have hn := numAt_bd l (a + 6)
  have hen : endAt l a = a + 8 + numAt l (a + 6) + 2 := rfl
  exact ⟨h.1.1.1, by omega, h.2.1, h.2.2.1⟩
/-! ### Blocks one after the other -/
/-- The first index from a on at which a block begins; -1 if there is none (n: how far to look). -/
def nextGo (l : Bs) : Nat → Int → Int
  | 0, _ => -1
  | n + 1, a => if parseOk l a = true then a else nextGo l n (a + 1)
def nextB (l : Bs) (a : Int) : Int := if l.length ≤ 8000 ∧ 0 ≤ a then nextGo l (l.length - a).toNat a else -1
theorem nextGo_spec (l : Bs) : ∀ (n : Nat) (a : Int), nextGo l n a = -1 ∧ (∀ i : Int, a ≤ i → i < a + n → parseOk l i = false) ∨ (a ≤ nextGo l n a ∧ nextGo l n a < a + n ∧ parseOk l (nextGo l n a) = true ∧ ∀ i : Int, a ≤ i → i < nextGo l n a → parseOk l i = false)
  | 0, a => .inl ⟨rfl, fun i h0 h1 => by omega⟩
  | n + 1, a => by
    unfold nextGo
    by_cases h : parseOk l a = true
    · rw [if_pos h]
      exact .inr ⟨Int.le_refl _, by omega, h, fun i h0 h1 => by omega⟩
    · rw [if_neg h]
      have hf : parseOk l a = false := by simpa using h
      rcases nextGo_spec l n (a + 1) with ⟨h1, h2⟩ | ⟨h1, h2, h3, h4⟩
      · refine .inl ⟨h1, fun i h0 h1 => ?_⟩
        by_cases e : i = a
        · rw [e]; exact hf
        · exact h2 i (by omega) (by omega)
      · refine .inr ⟨by omega, by omega, h3, fun i h0 h1 => ?_⟩
        by_cases e : i = a
        · rw [e]; exact hf
        · exact h4 i (by omega) (by omega)
/-- All blocks that are found one after the other, from the first one at a on. -/
def findGo (l : Bs) : Nat → Int → List (Int × Blk)
  | 0, _ => []
  | n + 1, a => if 0 ≤ a then (a, blkAt l a) :: findGo l n (nextB l (endAt l a)) else []
def findB (l : Bs) : List (Int × Blk) := findGo l (l.length + 1) (nextB l 0)
def sizesOf (bs : List Blk) : Int := bs.foldl (fun n b => n + b.size) 0
/-- The blocks of a container, from the one at a on, behind those in acc. -/
def blocksGo (l : Bs) : Nat → Int → List Blk → Option (List Blk)
  | 0, _, _ => none
  | n + 1, a, acc => if (l.length : Int) ≤ a then (if sizesOf acc ≤ 2000 then some acc else none) else
    if parseOk l a = true ∧ (blkAt l a).num = acc.length then blocksGo l n (endAt l a) (acc ++ [blkAt l a]) else none
def blocksB (l : Bs) : Option (List Blk) := blocksGo l (l.length + 1) 0 []
/-! ### Sums of strings, bit by bit -/
def longestB (ls : List Bs) : Nat := ls.foldl (fun n t => max n t.length) 0
def xorAt (ls : List Bs) (j : Nat) : UInt8 := ls.foldl (fun x t => x ^^^ (t[j]?.getD 0)) 0
def xorT (ls : List Bs) : Bs := (List.range (longestB ls)).map (xorAt ls)
/-- The sum of ls, n bytes long, and of the first i bytes of t. -/
def xorTo (n : Nat) (ls : List Bs) (t : Bs) (i : Nat) : Bs := (List.range n).map fun j => xorAt ls j ^^^ (if j < i then (t[j]?.getD 0) else 0)
theorem longestB_snoc (ls : List Bs) (t : Bs) : longestB (ls ++ [t]) = max (longestB ls) t.length := by unfold longestB; rw [List.foldl_append]; rfl
theorem xorAt_snoc (ls : List Bs) (t : Bs) (j : Nat) : xorAt (ls ++ [t]) j = xorAt ls j ^^^ (t[j]?.getD 0) := by unfold xorAt; rw [List.foldl_append]; rfl
theorem xorTo_length (n : Nat) (ls : List Bs) (t : Bs) (i : Nat) : (xorTo n ls t i).length = n := by simp [xorTo]
theorem xorT_length (ls : List Bs) : (xorT ls).length = longestB ls := by simp [xorT]
theorem longestB_ge : ∀ (ls : List Bs) (t : Bs), t ∈ ls → t.length ≤ longestB ls := by
  intro ls
  induction ls using snoc_ind with
  | h0 => intro t h; cases h
  | h1 ls s ih =>
    intro t h
    rw [longestB_snoc]
    rcases List.mem_append.1 h with h | h
    · have := ih t h; omega
    · simp at h; subst h; omega
theorem longestB_le (ls : List Bs) (n : Nat) (h : ∀ t ∈ ls, t.length ≤ n) : longestB ls ≤ n := by
  induction ls using snoc_ind with
  | h0 => simp [longestB]
  | h1 ls s ih =>
    rw [longestB_snoc]
    have h1 := ih (fun t ht => h t (by simp [ht]))
    have h2 := h s (by simp)
    omega
theorem xorAt_past (ls : List Bs) (j : Nat) (h : longestB ls ≤ j) : xorAt ls j = 0 := by
  induction ls using snoc_ind with
  | h0 => rfl
  | h1 ls s ih =>
    rw [longestB_snoc] at h
    rw [xorAt_snoc, ih (by omega), List.getElem?_eq_none (by omega)]; rfl
theorem xorTo_zero (n : Nat) (ls : List Bs) (t : Bs) : xorTo n ls t 0 = (List.range n).map (xorAt ls) := by
  unfold xorTo; simp
theorem xorTo_full (n : Nat) (ls : List Bs) (t : Bs) : xorTo n ls t t.length = (List.range n).map (xorAt (ls ++ [t])) := by
  unfold xorTo
  apply List.map_congr_left
  intro j hj
  rw [xorAt_snoc]
  by_cases h : j < t.length
  · rw [if_pos h]
  · rw [if_neg h, List.getElem?_eq_none (by omega)]; rfl
theorem xorTo_at (n : Nat) (ls : List Bs) (t : Bs) (i : Nat) (hi : i < n) : (xorTo n ls t i)[i]? = some (xorAt ls i) := by
  unfold xorTo; simp [hi]
theorem xorTo_succ (n : Nat) (ls : List Bs) (t : Bs) (i : Nat) (hi : i < n) (ht : i < t.length) : xorTo n ls t (i + 1) = (xorTo n ls t i).set i (xorAt ls i ^^^ t[i]) := by
  apply List.ext_getElem?
  intro j
  rw [List.getElem?_set, xorTo_length]
  by_cases hj : i = j
  · subst hj
    rw [if_pos rfl, if_pos hi]
    unfold xorTo
    simp [hi, ht]
  · rw [if_neg hj]
    unfold xorTo
    simp only [List.getElem?_map]
    by_cases hn : j < n
    · rw [List.getElem?_range hn]
      simp only [Option.map_some]
      by_cases h1 : j < i
      · rw [if_pos h1, if_pos (by omega)]
      · rw [if_neg h1, if_neg (by omega)]
    · rw [List.getElem?_eq_none (by simp; omega)]; rfl
/-- More zeros at the end of a sum. -/
theorem xorR_more (n : Nat) (ls : List Bs) (h : longestB ls ≤ n) : (List.range (n + 1)).map (xorAt ls) = (List.range n).map (xorAt ls) ++ [0] := by
  rw [List.range_succ, List.map_append]
  simp [xorAt_past ls n h]
/-! ### What is missing in a group -/
def rebuildT (ls : List Bs) (p : Bs) : Option Bs :=
  if 2 ≤ p.length ∧ ls.length ≤ 40 ∧ (∀ t ∈ ls, t.length ≤ p.length - 2) then
    (if numAt (xorT (p.take 2 :: ls.map fun t => two t.length)) 0 ≤ p.length - 2 then some ((xorT (p.drop 2 :: ls)).take (numAt (xorT (p.take 2 :: ls.map fun t => two t.length)) 0).toNat) else none)
  else none
/-- The first found block with a number. -/
def firstF (fs : List (Int × Blk)) (n : Int) : Option Blk := (fs.find? fun f => decide (f.2.num = n)).map (·.2)
theorem firstF_snoc (fs : List (Int × Blk)) (f : Int × Blk) (n : Int) : firstF (fs ++ [f]) n = (firstF fs n).or (if f.2.num = n then some f.2 else none) := by
  unfold firstF
  rw [List.find?_append]
  cases h : List.find? (fun f => decide (f.2.num = n)) fs with
  | some x => simp
  | none => by_cases e : f.2.num = n <;> simp [e]
end Go.Proofs.YtfonokhafdflcaaGreat
/- Plain: a block is read from its bytes wherever they stand; containers and found blocks as lists of bytes. No program. -/
namespace Go.Proofs.YtfonokhafdflcaaGreat
set_option linter.unusedVariables false
theorem byteAt_app (p t : Bs) (k : Nat) : byteAt (p ++ t) ((p.length : Int) + k) = byteAt t k := by
  unfold byteAt
  rw [show ((p.length : Int) + k).toNat = p.length + k by omega, show ((k : Int)).toNat = k by omega, List.getElem?_append_right (by omega), Nat.add_sub_cancel_left]
theorem byteAt_pre (p t : Bs) (k : Nat) (h : k < p.length) : byteAt (p ++ t) k = byteAt p k := by
  unfold byteAt
  rw [show ((k : Int)).toNat = k by omega, List.getElem?_append_left h]
theorem byteAt_cons (p s : Bs) (c : UInt8) (a : Int) (h : a = p.length) : byteAt (p ++ c :: s) a = c.toNat := by
  subst h
  have := byteAt_app p (c :: s) 0
  simp at this
  rw [this]
  simp [byteAt]
theorem numAt_two (p s : Bs) (n a : Int) (h : a = p.length) (h0 : 0 ≤ n) (h1 : n < 65536) : numAt (p ++ (two n ++ s)) a = n := by
  unfold numAt
  have e1 : p ++ (two n ++ s) = p ++ UInt8.ofNat (n / 256 % 256).toNat :: (UInt8.ofNat (n % 256).toNat :: s) := rfl
  have e2 : p ++ (two n ++ s) = (p ++ [UInt8.ofNat (n / 256 % 256).toNat]) ++ UInt8.ofNat (n % 256).toNat :: s := by simp [two]
  have e3 : byteAt (p ++ (two n ++ s)) (a + 1) = ((UInt8.ofNat (n % 256).toNat).toNat : Int) := by
    rw [e2]; exact byteAt_cons _ _ _ _ (by subst h; simp)
  have e4 : byteAt (p ++ (two n ++ s)) a = ((UInt8.ofNat (n / 256 % 256).toNat).toNat : Int) := by
    rw [e1]; exact byteAt_cons _ _ _ _ h
  rw [e3, e4]
  simp only [UInt8.toNat_ofNat']
  omega
theorem cutAt_mid (p m s : Bs) (i j : Int) (hi : i = p.length) (hj : j = p.length + m.length) : cutAt (p ++ (m ++ s)) i j = m := by
  subst hi hj
  unfold cutAt
  rw [show ((p.length : Int)).toNat = p.length by omega, List.drop_left' rfl, show ((p.length : Int) + m.length).toNat - p.length = m.length by omega, List.take_left' rfl]
theorem text_form (b : Blk) : b.text = 181 :: (if b.raw then (0 : UInt8) else 1) :: (two b.num ++ (two b.size ++ (two b.body.length ++ (b.body ++ two (sumOf b.inner))))) := by
  simp [Blk.text, Blk.inner]
theorem two_length (n : Int) : (two n).length = 2 := rfl
theorem Blk.ok_all {b : Blk} (h : b.ok = true) : 0 ≤ b.num ∧ b.num < 40 ∧ 1 ≤ b.size ∧ b.size ≤ 64 ∧ 1 ≤ b.body.length ∧ b.body.length ≤ 64 := by
  have h2 := Blk.ok_len h
  simp only [Blk.ok, decide_eq_true_eq] at h
  exact ⟨h.1, h.2.1, h.2.2.1, h.2.2.2.1, h2.1, h2.2⟩
/-- A block is read from its bytes. -/
theorem parse_self {b : Blk} (h : b.ok = true) (p s : Bs) (a : Int) (ha : a = p.length) :
    parseOk (p ++ (b.text ++ s)) a = true ∧ blkAt (p ++ (b.text ++ s)) a = b ∧ endAt (p ++ (b.text ++ s)) a = p.length + b.text.length := by
  have hb := Blk.ok_all h
  obtain ⟨hn0, hn1, hs0, hs1, hl0, hl1⟩ := hb
  have hsum := sumOf_bd b.inner
  generalize hK : (if b.raw then (0 : UInt8) else 1) = K
  have hF : b.text = 181 :: K :: (two b.num ++ (two b.size ++ (two b.body.length ++ (b.body ++ two (sumOf b.inner))))) := by rw [← hK]; exact text_form b
  have hlen := b.text_len
  generalize hL : p ++ (b.text ++ s) = l
  have hll : l.length = p.length + (10 + b.body.length) + s.length := by rw [← hL]; simp [hlen]; omega
  have b0 : byteAt l a = 181 := by
    rw [← hL, hF, show p ++ ((181 :: K :: (two b.num ++ (two b.size ++ (two b.body.length ++ (b.body ++ two (sumOf b.inner)))))) ++ s) = p ++ 181 :: (K :: (two b.num ++ (two b.size ++ (two b.body.length ++ (b.body ++ two (sumOf b.inner))))) ++ s) by simp, byteAt_cons _ _ _ _ ha]; rfl
  have b1 : byteAt l (a + 1) = K.toNat := by
    rw [← hL, hF, show p ++ ((181 :: K :: (two b.num ++ (two b.size ++ (two b.body.length ++ (b.body ++ two (sumOf b.inner)))))) ++ s) = (p ++ [181]) ++ K :: ((two b.num ++ (two b.size ++ (two b.body.length ++ (b.body ++ two (sumOf b.inner))))) ++ s) by simp, byteAt_cons _ _ _ _ (by simp; omega)]
  have n2 : numAt l (a + 2) = b.num := by
    rw [← hL, hF, show p ++ ((181 :: K :: (two b.num ++ (two b.size ++ (two b.body.length ++ (b.body ++ two (sumOf b.inner)))))) ++ s) = (p ++ [181, K]) ++ (two b.num ++ ((two b.size ++ (two b.body.length ++ (b.body ++ two (sumOf b.inner)))) ++ s)) by simp, numAt_two _ _ _ _ (by simp; omega) (by omega) (by omega)]
  have n4 : numAt l (a + 4) = b.size := by
    rw [← hL, hF, show p ++ ((181 :: K :: (two b.num ++ (two b.size ++ (two b.body.length ++ (b.body ++ two (sumOf b.inner)))))) ++ s) = (p ++ ([181, K] ++ two b.num)) ++ (two b.size ++ ((two b.body.length ++ (b.body ++ two (sumOf b.inner))) ++ s)) by simp, numAt_two _ _ _ _ (by simp [two_length]; omega) (by omega) (by omega)]
  have n6 : numAt l (a + 6) = b.body.length := by
    rw [← hL, hF, show p ++ ((181 :: K :: (two b.num ++ (two b.size ++ (two b.body.length ++ (b.body ++ two (sumOf b.inner)))))) ++ s) = (p ++ ([181, K] ++ (two b.num ++ two b.size))) ++ (two b.body.length ++ ((b.body ++ two (sumOf b.inner)) ++ s)) by simp, numAt_two _ _ _ _ (by simp [two_length]; omega) (by omega) (by omega)]
  have c8 : cutAt l (a + 8) (a + 8 + b.body.length) = b.body := by
    rw [← hL, hF, show p ++ ((181 :: K :: (two b.num ++ (two b.size ++ (two b.body.length ++ (b.body ++ two (sumOf b.inner)))))) ++ s) = (p ++ ([181, K] ++ (two b.num ++ (two b.size ++ two b.body.length)))) ++ (b.body ++ (two (sumOf b.inner) ++ s)) by simp, cutAt_mid _ _ _ _ _ (by simp [two_length]; omega) (by simp [two_length]; omega)]
  have he : endAt l a = a + 10 + b.body.length := by unfold endAt; rw [n6]; omega
  have ci : cutAt l (a + 1) (endAt l a - 2) = b.inner := by
    rw [he, ← hL, show p ++ (b.text ++ s) = (p ++ [181]) ++ (b.inner ++ (two (sumOf b.inner) ++ s)) by simp [Blk.text]]
    exact cutAt_mid _ _ _ _ _ (by simp; omega) (by simp [b.inner_len]; omega)
  have ns : numAt l (endAt l a - 2) = sumOf b.inner := by
    rw [he, ← hL, show p ++ (b.text ++ s) = (p ++ ([181] ++ b.inner)) ++ (two (sumOf b.inner) ++ s) by simp [Blk.text]]
    exact numAt_two _ _ _ _ (by simp [b.inner_len]; omega) (by omega) (by omega)
  have hB : blkAt l a = b := by
    unfold blkAt
    rw [n2, n4, n6, b1, c8]
    obtain ⟨num, raw, size, body⟩ := b
    simp only at hK ⊢
    subst hK
    cases raw <;> rfl
  refine ⟨?_, hB, by rw [he, hlen]; omega⟩
  unfold parseOk headOk
  rw [hB, ci, ns, h, b0, b1]
  simp only [decide_true, Bool.and_true, Bool.true_and, Bool.and_eq_true, decide_eq_true_eq]
  refine ⟨⟨by omega, by rw [← hK]; split <;> decide⟩, by omega⟩
/-! ### Containers -/
def catT (bs : List Blk) : Bs := (bs.map Blk.text).flatten
theorem catT_cons (b : Blk) (bs : List Blk) : catT (b :: bs) = b.text ++ catT bs := rfl
theorem catT_app (bs cs : List Blk) : catT (bs ++ cs) = catT bs ++ catT cs := by simp [catT]
theorem catT_snoc (bs : List Blk) (b : Blk) : catT (bs ++ [b]) = catT bs ++ b.text := by simp [catT]
theorem catT_ge (bs : List Blk) : 10 * bs.length ≤ (catT bs).length := by
  induction bs with
  | nil => simp [catT]
  | cons b bs ih => rw [catT_cons, List.length_append, b.text_len, List.length_cons]; omega
theorem sizesOf_app1 (bs : List Blk) (b : Blk) : sizesOf (bs ++ [b]) = sizesOf bs + b.size := by unfold sizesOf; rw [List.foldl_append]; rfl
theorem sizesOf_consX (b : Blk) (bs : List Blk) : sizesOf (b :: bs) = b.size + sizesOf bs := by
  induction bs using snoc_ind with
  | h0 => simp [sizesOf]
  | h1 bs c ih => rw [← List.cons_append, sizesOf_app1, sizesOf_app1, ih]; omega
theorem sizesOf_app (bs cs : List Blk) : sizesOf (bs ++ cs) = sizesOf bs + sizesOf cs := by
  induction bs with
  | nil => simp [sizesOf]
  | cons b bs ih => rw [List.cons_append, sizesOf_consX, sizesOf_consX, ih]; omega
/-- The blocks of a list are whole, and numbered from n on. -/
def NumOk (n : Nat) : List Blk → Prop
  | [] => True
  | b :: bs => b.ok = true ∧ b.num = n ∧ NumOk (n + 1) bs
theorem blocksGo_cat (l : Bs) : ∀ (bs : List Blk) (m : Nat) (p : Bs) (acc : List Blk), NumOk acc.length bs → l = p ++ catT bs → bs.length < m →
    blocksGo l m p.length acc = if sizesOf (acc ++ bs) ≤ 2000 then some (acc ++ bs) else none
  | [], m + 1, p, acc, _, hl, _ => by
    unfold blocksGo
    rw [if_pos (by rw [hl]; simp [catT]), List.append_nil]
  | b :: bs, m + 1, p, acc, ⟨hok, hnum, hn⟩, hl, hm => by
    have hl2 : l = p ++ (b.text ++ catT bs) := by rw [hl, catT_cons]
    obtain ⟨h1, h2, h3⟩ := parse_self hok p (catT bs) p.length rfl
    rw [← hl2] at h1 h2 h3
    have hpos : ¬ (l.length : Int) ≤ p.length := by rw [hl2]; simp [b.text_len]; omega
    unfold blocksGo
    rw [if_neg hpos, if_pos ⟨h1, by rw [h2, hnum]⟩, h2, h3]
    have := blocksGo_cat l bs m (p ++ b.text) (acc ++ [b]) (by simpa using hn) (by rw [hl2]; simp) (by simp at hm; omega)
    rw [show ((p ++ b.text).length : Int) = (p.length : Int) + b.text.length by simp] at this
    rw [this]
    simp
theorem blocks_cat {bs : List Blk} (h : NumOk 0 bs) (hs : sizesOf bs ≤ 2000) : blocksB (catT bs) = some bs := by
  unfold blocksB
  have := blocksGo_cat (catT bs) bs ((catT bs).length + 1) [] [] (by simpa using h) (by simp) (by have := catT_ge bs; omega)
  simp only [List.length_nil, List.nil_append] at this
  rw [show ((0 : Int)) = ((0 : Nat) : Int) from rfl, this, if_pos hs]
theorem NumOk_snoc {bs : List Blk} {b : Blk} {n : Nat} (h : NumOk n bs) (hb : b.ok = true) (hn : b.num = ((n + bs.length : Nat) : Int)) : NumOk n (bs ++ [b]) := by
  induction bs generalizing n with
  | nil => exact ⟨hb, by simpa using hn, trivial⟩
  | cons c bs ih =>
    obtain ⟨h1, h2, h3⟩ := h
    exact ⟨h1, h2, ih h3 (by rw [hn, List.length_cons]; congr 1; omega)⟩
theorem NumOk_take {bs : List Blk} {n : Nat} (h : NumOk n bs) (k : Nat) : NumOk n (bs.take k) := by
  induction bs generalizing n k with
  | nil => simpa using h
  | cons c bs ih =>
    obtain ⟨h1, h2, h3⟩ := h
    cases k with
    | zero => exact trivial
    | succ k => exact ⟨h1, h2, ih h3 k⟩
theorem NumOk_at {bs : List Blk} {n : Nat} (h : NumOk n bs) (i : Nat) (hi : i < bs.length) : bs[i].ok = true ∧ bs[i].num = ((n + i : Nat) : Int) := by
  induction bs generalizing n i with
  | nil => simp at hi
  | cons c bs ih =>
    obtain ⟨h1, h2, h3⟩ := h
    cases i with
    | zero => exact ⟨h1, by simpa using h2⟩
    | succ i =>
      have hi2 : i < bs.length := by simpa using hi
      have := ih h3 i hi2
      refine ⟨this.1, ?_⟩
      show (bs[i]'hi2).num = _
      rw [this.2]; congr 1; omega
theorem NumOk_of {bs : List Blk} (h : ∀ (i : Nat) (hi : i < bs.length), bs[i].ok = true ∧ bs[i].num = i) : NumOk 0 bs := by
  induction bs using snoc_ind with
  | h0 => trivial
  | h1 bs b ih =>
    have hb := h bs.length (by simp)
    simp at hb
    refine NumOk_snoc (ih fun i hi => ?_) hb.1 (by rw [hb.2]; simp)
    have := h i (by simp; omega)
    rwa [List.getElem_append_left hi] at this
/-- What is read from a stream, from index a on: either the rest are blocks, or something is wrong. -/
theorem blocksGo_some (l : Bs) : ∀ (m : Nat) (a : Nat) (acc bs : List Blk), NumOk 0 acc → catT acc = l.take a → a ≤ l.length → blocksGo l m a acc = some bs → NumOk 0 bs ∧ catT bs = l ∧ sizesOf bs ≤ 2000
  | 0, _, _, _, _, _, _, h => by unfold blocksGo at h; cases h
  | m + 1, a, acc, bs, hn, hc, ha, h => by
    unfold blocksGo at h
    split at h
    case isTrue h1 =>
      split at h
      case isTrue h2 =>
        injection h with h
        subst h
        exact ⟨hn, by rw [hc, List.take_of_length_le (by omega)], h2⟩
      case isFalse => cases h
    case isFalse h1 =>
      split at h
      case isTrue h2 =>
        obtain ⟨hp, hq⟩ := h2
        obtain ⟨p1, p2, p3, p4⟩ := parse_bd hp
        have ht := parse_text hp
        obtain ⟨e, he⟩ := Int.eq_ofNat_of_zero_le (by omega : 0 ≤ endAt l a)
        rw [he] at h ht p2 p3
        refine blocksGo_some l m e _ bs (NumOk_snoc hn p4 (by rw [hq]; simp)) ?_ (by omega) h
        rw [catT_snoc, hc, ht]
        unfold cutAt
        simp only [Int.toNat_natCast]
        rw [show l.take e = l.take (a + (e - a)) by congr 1; omega, List.take_add]
      case isFalse => cases h
theorem blocks_some {l : Bs} {bs : List Blk} (h : blocksB l = some bs) : NumOk 0 bs ∧ catT bs = l ∧ sizesOf bs ≤ 2000 :=
  blocksGo_some l _ 0 [] bs trivial (by simp [catT]) (by omega) h
theorem blocks_iff (l : Bs) (bs : List Blk) : blocksB l = some bs ↔ (NumOk 0 bs ∧ catT bs = l ∧ sizesOf bs ≤ 2000) := by
  constructor
  · exact blocks_some
  · rintro ⟨h1, rfl, h3⟩
    exact blocks_cat h1 h3
theorem text_le {b : Blk} (h : b.ok = true) : b.text.length ≤ 74 := by
  have := Blk.ok_all h
  rw [b.text_len]; omega
theorem NumOk_len {bs : List Blk} (h : NumOk 0 bs) : bs.length ≤ 40 := by
  rcases Nat.lt_or_ge 40 bs.length with hlt | hge
  · have := NumOk_at h 40 hlt
    have h2 := (Blk.ok_all this.1).2.1
    rw [this.2] at h2
    omega
  · exact hge
theorem catT_le (bs : List Blk) (h : ∀ b ∈ bs, b.ok = true) : (catT bs).length ≤ 74 * bs.length := by
  induction bs with
  | nil => simp [catT]
  | cons b bs ih =>
    rw [catT_cons, List.length_append, List.length_cons]
    have h1 := text_le (h b (by simp))
    have h2 := ih (fun c hc => h c (by simp [hc]))
    omega
theorem NumOk_mem {bs : List Blk} {n : Nat} (h : NumOk n bs) : ∀ b ∈ bs, b.ok = true := by
  intro b hb
  obtain ⟨i, hi, rfl⟩ := List.getElem_of_mem hb
  exact (NumOk_at h i hi).1
/-- A container is short. -/
theorem blocks_short {l : Bs} {bs : List Blk} (h : blocksB l = some bs) : l.length ≤ 2960 ∧ bs.length ≤ 40 := by
  obtain ⟨h1, rfl, h3⟩ := blocks_some h
  have h4 := NumOk_len h1
  have h5 := catT_le bs (NumOk_mem h1)
  omega
/-! ### Found blocks -/
theorem nextB_here {l : Bs} {a : Int} (h0 : 0 ≤ a) (hl : l.length ≤ 8000) (h : parseOk l a = true) : nextB l a = a := by
  have hp := parse_bd h
  unfold nextB
  rw [if_pos ⟨hl, h0⟩, show (l.length - a).toNat = (l.length - a - 1).toNat + 1 by omega]
  unfold nextGo
  rw [if_pos h]
theorem nextB_end {l : Bs} {a : Int} (h : (l.length : Int) ≤ a) : nextB l a = -1 := by
  unfold nextB
  split
  · rw [show (l.length - a).toNat = 0 by omega]; rfl
  · rfl
/-- Blocks with the places where they begin. -/
def withAt : Nat → List Blk → List (Int × Blk)
  | _, [] => []
  | a, b :: bs => ((a : Int), b) :: withAt (a + b.text.length) bs
theorem withAt_length (bs : List Blk) (a : Nat) : (withAt a bs).length = bs.length := by
  induction bs generalizing a with
  | nil => rfl
  | cons b bs ih => simp [withAt, ih]
theorem withAt_snd (bs : List Blk) (a : Nat) : (withAt a bs).map (·.2) = bs := by
  induction bs generalizing a with
  | nil => rfl
  | cons b bs ih => simp [withAt, ih]
theorem findGo_cat (l : Bs) (hl : l.length ≤ 8000) : ∀ (bs : List Blk) (m : Nat) (p : Bs), (∀ b ∈ bs, b.ok = true) → l = p ++ catT bs → bs.length < m →
    findGo l m (nextB l p.length) = withAt p.length bs
  | [], m + 1, p, _, he, _ => by
    have : nextB l p.length = -1 := nextB_end (by rw [he]; simp [catT])
    rw [this]; rfl
  | b :: bs, m + 1, p, hok, he, hm => by
    have hl2 : l = p ++ (b.text ++ catT bs) := by rw [he, catT_cons]
    obtain ⟨h1, h2, h3⟩ := parse_self (hok b (by simp)) p (catT bs) p.length rfl
    rw [← hl2] at h1 h2 h3
    rw [nextB_here (by omega) hl h1]
    unfold findGo
    rw [if_pos (by omega), h2, h3]
    have := findGo_cat l hl bs m (p ++ b.text) (fun c hc => hok c (by simp [hc])) (by rw [hl2]; simp) (by simp at hm; omega)
    rw [show ((p ++ b.text).length : Int) = (p.length : Int) + b.text.length by simp] at this
    rw [this]
    simp [withAt]
theorem find_cat {bs : List Blk} (h : ∀ b ∈ bs, b.ok = true) (hl : (catT bs).length ≤ 8000) : findB (catT bs) = withAt 0 bs := by
  unfold findB
  have := findGo_cat (catT bs) hl bs ((catT bs).length + 1) [] h (by simp) (by have := catT_ge bs; omega)
  simpa using this
end Go.Proofs.YtfonokhafdflcaaGreat
/- Plain: what a check of a container finds; found blocks follow each other. No program. -/
namespace Go.Proofs.YtfonokhafdflcaaGreat
set_option linter.unusedVariables false
/-! ### Checks -/
def ckGo (l : Bs) : Nat → Int → Int → Int → Int × Int
  | 0, _, _, _ => (0, l.length)
  | m + 1, a, n, s => if (l.length : Int) ≤ a then (0, l.length) else if parseOk l a = false then (1, a) else if (blkAt l a).num ≠ n then (2, a) else
    if 2000 < s + (blkAt l a).size then (3, a) else ckGo l m (endAt l a) (n + 1) (s + (blkAt l a).size)
def checkB (l : Bs) : Int × Int := ckGo l (l.length + 1) 0 0 0
theorem blocksGo_much (l : Bs) : ∀ (m : Nat) (a : Int) (acc : List Blk), 2000 < sizesOf acc → blocksGo l m a acc = none
  | 0, _, _, _ => rfl
  | m + 1, a, acc, h => by
    unfold blocksGo
    split
    · rw [if_neg (by omega)]
    · split
      case isTrue h2 =>
        obtain ⟨hp, _⟩ := h2
        have hb := (parse_bd hp).2.2.2
        have hz := (Blk.ok_all hb).2.2.1
        exact blocksGo_much l m _ _ (by rw [sizesOf_app1]; omega)
      case isFalse => rfl
/-- What a check says of a stream of which the blocks acc are read (B: the stream's blocks). -/
def CkF (l : Bs) (B : Option (List Blk)) (x : Int × Int) : Prop :=
  ∃ (k : Nat) (acc : List Blk), x.2 = k ∧ k ≤ l.length ∧ blocksB (l.take k) = some acc ∧
    ((x.1 = 0 ∧ k = l.length ∧ B = some acc) ∨ (x.1 = 1 ∧ B = none ∧ parseOk l k = false) ∨ (x.1 = 2 ∧ B = none ∧ parseOk l k = true ∧ (blkAt l k).num ≠ acc.length) ∨
      (x.1 = 3 ∧ B = none ∧ parseOk l k = true ∧ (blkAt l k).num = acc.length ∧ 2000 < sizesOf acc + (blkAt l k).size))
theorem ckGo_spec (l : Bs) : ∀ (m a : Nat) (acc : List Blk), NumOk 0 acc → catT acc = l.take a → a ≤ l.length → sizesOf acc ≤ 2000 → l.length < m + a →
    CkF l (blocksGo l m a acc) (ckGo l m a acc.length (sizesOf acc))
  | 0, a, acc, _, _, h1, _, h2 => by omega
  | m + 1, a, acc, hn, hc, ha, hs, hm => by
    have hB : blocksB (l.take a) = some acc := by rw [blocks_iff]; exact ⟨hn, hc, hs⟩
    unfold ckGo blocksGo
    by_cases h1 : (l.length : Int) ≤ a
    · rw [if_pos h1, if_pos h1, if_pos hs]
      have : a = l.length := by omega
      subst this
      exact ⟨l.length, acc, rfl, Nat.le_refl _, hB, .inl ⟨rfl, rfl, rfl⟩⟩
    rw [if_neg h1, if_neg h1]
    cases hp : parseOk l a with
    | false =>
      rw [if_pos rfl, if_neg (by simp)]
      exact ⟨a, acc, rfl, ha, hB, .inr (.inl ⟨rfl, rfl, hp⟩)⟩
    | true =>
      rw [if_neg (show ¬ (true = false) by simp)]
      by_cases hq : (blkAt l a).num = acc.length
      · rw [if_neg (show ¬ ((blkAt l a).num ≠ acc.length) from fun h => h hq), if_pos ⟨rfl, hq⟩]
        obtain ⟨p1, p2, p3, p4⟩ := parse_bd hp
        by_cases h2 : 2000 < sizesOf acc + (blkAt l a).size
        · rw [if_pos h2, blocksGo_much _ _ _ _ (by rw [sizesOf_app1]; exact h2)]
          exact ⟨a, acc, rfl, ha, hB, .inr (.inr (.inr ⟨rfl, rfl, hp, hq, h2⟩))⟩
        · rw [if_neg h2]
          have ht := parse_text hp
          obtain ⟨e, he⟩ := Int.eq_ofNat_of_zero_le (by omega : 0 ≤ endAt l a)
          rw [he] at ht p2 p3 ⊢
          have := ckGo_spec l m e (acc ++ [blkAt l a]) (NumOk_snoc hn p4 (by rw [hq]; simp)) (by
            rw [catT_snoc, hc, ht]
            unfold cutAt
            simp only [Int.toNat_natCast]
            rw [show l.take e = l.take (a + (e - a)) by congr 1; omega, List.take_add]) (by omega) (by rw [sizesOf_app1]; omega) (by omega)
          rw [sizesOf_app1, List.length_append] at this
          exact this
      · rw [if_pos (show (blkAt l a).num ≠ acc.length from hq), if_neg (fun h => hq h.2)]
        exact ⟨a, acc, rfl, ha, hB, .inr (.inr (.inl ⟨rfl, rfl, hp, hq⟩))⟩
theorem check_spec (l : Bs) : CkF l (blocksB l) (checkB l) :=
  ckGo_spec l (l.length + 1) 0 [] trivial (by simp [catT]) (by omega) (by decide) (by omega)
/-! ### Found blocks -/
def FdChain (l : Bs) : Int → List (Int × Blk) → Prop
  | at_, [] => nextB l at_ = -1
  | at_, f :: fs => nextB l at_ = f.1 ∧ 0 ≤ f.1 ∧ parseOk l f.1 = true ∧ blkAt l f.1 = f.2 ∧ FdChain l (endAt l f.1) fs
theorem nextB_pos {l : Bs} {a : Int} (h : 0 ≤ nextB l a) : a ≤ nextB l a ∧ parseOk l (nextB l a) = true ∧ l.length ≤ 8000 ∧ 0 ≤ a := by
  unfold nextB at *
  split at h
  case isTrue hc =>
    rw [if_pos hc]
    rcases nextGo_spec l (l.length - a).toNat a with ⟨h1, _⟩ | ⟨h1, h2, h3, _⟩
    · omega
    · exact ⟨h1, h3, hc.1, hc.2⟩
  case isFalse => omega
theorem nextB_neg {l : Bs} {a : Int} (h : ¬ 0 ≤ nextB l a) : nextB l a = -1 := by
  unfold nextB at *
  split at h
  case isTrue hc =>
    rw [if_pos hc]
    rcases nextGo_spec l (l.length - a).toNat a with ⟨h1, _⟩ | ⟨h1, h2, h3, _⟩
    · exact h1
    · omega
  case isFalse hc => rw [if_neg hc]
theorem findGo_chain (l : Bs) : ∀ (m : Nat) (a : Int), 0 ≤ a → (l.length : Int) < m + a → FdChain l a (findGo l m (nextB l a))
  | 0, a, h0, h => by
    show nextB l a = -1
    exact nextB_end (by omega)
  | m + 1, a, h0, h => by
    unfold findGo
    by_cases hc : 0 ≤ nextB l a
    · rw [if_pos hc]
      obtain ⟨h1, h2, h3, h4⟩ := nextB_pos hc
      obtain ⟨p1, p2, p3, p4⟩ := parse_bd h2
      exact ⟨rfl, hc, h2, rfl, findGo_chain l m (endAt l (nextB l a)) (by omega) (by omega)⟩
    · rw [if_neg hc]
      exact nextB_neg hc
theorem find_chain (l : Bs) : FdChain l 0 (findB l) := findGo_chain l (l.length + 1) 0 (by omega) (by omega)
theorem chain_drop {l : Bs} {at_ : Int} {fs : List (Int × Blk)} {k : Nat} (hk : k < fs.length) (h : FdChain l at_ (fs.drop k)) :
    nextB l at_ = fs[k].1 ∧ 0 ≤ fs[k].1 ∧ parseOk l fs[k].1 = true ∧ blkAt l fs[k].1 = fs[k].2 ∧ FdChain l (endAt l fs[k].1) (fs.drop (k + 1)) := by
  rw [List.drop_eq_getElem_cons hk] at h
  exact h
theorem chain_end {l : Bs} {at_ : Int} {fs : List (Int × Blk)} {k : Nat} (hk : ¬ k < fs.length) (h : FdChain l at_ (fs.drop k)) : nextB l at_ = -1 := by
  rw [List.drop_eq_nil_of_le (by omega)] at h
  exact h
theorem chain_len {l : Bs} : ∀ {fs : List (Int × Blk)} {a : Int}, FdChain l a fs → a ≤ l.length → (10 * fs.length : Int) ≤ l.length - a
  | [], a, h, h2 => by simp; omega
  | f :: fs, a, h, h2 => by
    obtain ⟨h1, h2, h3, h4, h5⟩ := h
    obtain ⟨p1, p2, p3, p4⟩ := parse_bd h3
    have := chain_len h5 (by omega)
    have hn := (nextB_pos (by omega : 0 ≤ nextB l a)).1
    simp; omega
/-- No block begins before the next one. -/
theorem next_spec {l : Bs} {a : Int} (hl : l.length ≤ 8000) (ha : 0 ≤ a) : (nextB l a = -1 ∧ ∀ i : Int, a ≤ i → i < l.length → parseOk l i = false) ∨ (a ≤ nextB l a ∧ nextB l a < l.length ∧ parseOk l (nextB l a) = true ∧ ∀ i : Int, a ≤ i → i < nextB l a → parseOk l i = false) := by
  unfold nextB
  rw [if_pos ⟨hl, ha⟩]
  rcases nextGo_spec l (l.length - a).toNat a with ⟨h1, h2⟩ | ⟨h1, h2, h3, h4⟩
  · exact .inl ⟨h1, fun i hi hj => h2 i hi (by omega)⟩
  · exact .inr ⟨h1, by have := (parse_bd h3); omega, h3, h4⟩
end Go.Proofs.YtfonokhafdflcaaGreat
/- Plain: one string of a group is restored from the others and their parity. No program. -/
namespace Go.Proofs.YtfonokhafdflcaaGreat
set_option linter.unusedVariables false
theorem xorAt_cons (x : Bs) (ls : List Bs) (j : Nat) : xorAt (x :: ls) j = (x[j]?.getD 0) ^^^ xorAt ls j := by
  induction ls using snoc_ind with
  | h0 => simp [xorAt]
  | h1 ls t ih => rw [← List.cons_append, xorAt_snoc, xorAt_snoc, ih, UInt8.xor_assoc]
theorem xorAt_app (A C : List Bs) (j : Nat) : xorAt (A ++ C) j = xorAt A j ^^^ xorAt C j := by
  induction A with
  | nil => simp [xorAt]
  | cons x A ih => rw [List.cons_append, xorAt_cons, xorAt_cons, ih, UInt8.xor_assoc]
theorem xorT_at (ls : List Bs) (j : Nat) : (xorT ls)[j]?.getD 0 = xorAt ls j := by
  unfold xorT
  by_cases h : j < longestB ls
  · simp [h]
  · rw [List.getElem?_eq_none (by simp; omega), xorAt_past ls j (by omega)]; rfl
theorem xorT_rest (A C : List Bs) (t : Bs) (j : Nat) : xorAt (xorT (A ++ t :: C) :: (A ++ C)) j = t[j]?.getD 0 := by
  rw [xorAt_cons, xorT_at, xorAt_app, xorAt_cons, xorAt_app]
  have e1 : ∀ a b c : UInt8, a ^^^ (b ^^^ c) ^^^ (a ^^^ c) = b := fun a b c => by
    rw [UInt8.xor_comm b c, ← UInt8.xor_assoc a c b, UInt8.xor_comm, ← UInt8.xor_assoc, UInt8.xor_self, UInt8.zero_xor]
  exact e1 _ _ _
theorem longestB_mid (A C : List Bs) (t : Bs) : longestB (xorT (A ++ t :: C) :: (A ++ C)) = longestB (A ++ t :: C) := by
  apply Nat.le_antisymm
  · refine longestB_le _ _ fun s hs => ?_
    rcases List.mem_cons.1 hs with rfl | hs
    · rw [xorT_length]; exact Nat.le_refl _
    · refine longestB_ge _ _ ?_
      rcases List.mem_append.1 hs with h | h <;> simp [h]
  · have := longestB_ge (xorT (A ++ t :: C) :: (A ++ C)) (xorT (A ++ t :: C)) (by simp)
    rwa [xorT_length] at this
/-- What is left of a sum when all but one are taken off. -/
theorem xorT_back (A C : List Bs) (t : Bs) : (xorT (xorT (A ++ t :: C) :: (A ++ C))).take t.length = t := by
  have hl := longestB_ge (A ++ t :: C) t (by simp)
  apply List.ext_getElem?
  intro j
  by_cases h : j < t.length
  · rw [List.getElem?_take, if_pos h]
    have h2 := xorT_at (xorT (A ++ t :: C) :: (A ++ C)) j
    rw [xorT_rest] at h2
    have hlen : j < (xorT (xorT (A ++ t :: C) :: (A ++ C))).length := by rw [xorT_length, longestB_mid]; omega
    rw [List.getElem?_eq_getElem hlen, List.getElem?_eq_getElem h] at *
    simp at h2
    rw [h2]
  · rw [List.getElem?_take, if_neg h, List.getElem?_eq_none (by omega)]
/-- The parity of strings. -/
def parT (ls : List Bs) : Bs := xorT (ls.map fun t => two t.length) ++ xorT ls
theorem lens2 (ls : List Bs) (h : ls ≠ []) : longestB (ls.map fun t => two t.length) = 2 := by
  apply Nat.le_antisymm
  · refine longestB_le _ _ fun s hs => ?_
    obtain ⟨t, _, rfl⟩ := List.mem_map.1 hs
    exact Nat.le_of_eq rfl
  · obtain ⟨t, r, rfl⟩ := List.exists_cons_of_ne_nil h
    exact longestB_ge _ (two t.length) (by simp)
theorem parT_len (ls : List Bs) (h : ls ≠ []) : (parT ls).length = 2 + longestB ls := by
  unfold parT; rw [List.length_append, xorT_length, xorT_length, lens2 ls h]
theorem rebuild_parity (A C : List Bs) (t : Bs) (hn : (A ++ C).length ≤ 40) (hl : ∀ s ∈ A ++ t :: C, s.length < 65536) : rebuildT (A ++ C) (parT (A ++ t :: C)) = some t := by
  have hne : A ++ t :: C ≠ [] := by simp
  have hpl := parT_len _ hne
  have h2 := lens2 _ hne
  have htl := longestB_ge (A ++ t :: C) t (by simp)
  have etake : (parT (A ++ t :: C)).take 2 = xorT ((A ++ t :: C).map fun t => two t.length) := by
    unfold parT
    rw [List.take_left' (by rw [xorT_length, h2])]
  have edrop : (parT (A ++ t :: C)).drop 2 = xorT (A ++ t :: C) := by
    unfold parT
    rw [List.drop_left' (by rw [xorT_length, h2])]
  have elens : xorT ((parT (A ++ t :: C)).take 2 :: (A ++ C).map fun t => two t.length) = two t.length := by
    rw [etake]
    have hb := xorT_back (A.map fun t => two t.length) (C.map fun t => two t.length) (two t.length)
    have hlen2 : ((A.map fun t => two t.length) ++ two t.length :: (C.map fun t => two t.length)) = (A ++ t :: C).map fun t => two t.length := by simp
    have hlen3 : ((A.map fun t => two t.length) ++ (C.map fun t => two t.length)) = (A ++ C).map fun t => two t.length := by simp
    have hm := longestB_mid (A.map fun t => two t.length) (C.map fun t => two t.length) (two t.length)
    rw [hlen2, hlen3] at hb hm
    rw [List.take_of_length_le (by rw [xorT_length, hm, h2]; exact Nat.le_refl _)] at hb
    exact hb
  have hn0 : numAt (two t.length) 0 = t.length := by
    have := numAt_two [] [] t.length 0 rfl (by omega) (by have := hl t (by simp); omega)
    simpa using this
  unfold rebuildT
  rw [elens, hn0, edrop, if_pos, if_pos (by rw [hpl]; omega)]
  · rw [Int.toNat_natCast, xorT_back]
  · refine ⟨by omega, hn, fun s hs => ?_⟩
    have := longestB_ge (A ++ t :: C) s (by rcases List.mem_append.1 hs with h | h <;> simp [h])
    omega
end Go.Proofs.YtfonokhafdflcaaGreat
/- Plain: shuffled blocks; which blocks of a container survive. No program. -/
namespace Go.Proofs.YtfonokhafdflcaaGreat
set_option linter.unusedVariables false
theorem perm_of_nodup {α : Type} [DecidableEq α] : ∀ (L M : List α), L.Nodup → (∀ x ∈ L, x ∈ M) → M.length ≤ L.length → L.Perm M
  | [], M, _, _, h => by
    have : M = [] := List.eq_nil_of_length_eq_zero (by simpa using h)
    subst this; exact List.Perm.refl _
  | a :: L, M, hn, hs, h => by
    have ha : a ∈ M := hs a (by simp)
    have hp := List.perm_cons_erase ha
    have hn2 := List.nodup_cons.1 hn
    have hlen : (M.erase a).length = M.length - 1 := by rw [List.length_erase, if_pos ha]
    refine (List.Perm.cons a (perm_of_nodup L (M.erase a) hn2.2 (fun x hx => ?_) (by rw [hlen]; simp at h; omega))).trans hp.symm
    have hxa : x ≠ a := fun e => hn2.1 (e ▸ hx)
    exact (List.mem_erase_of_ne hxa).2 (hs x (by simp [hx]))
theorem catT_perm {bs cs : List Blk} (h : bs.Perm cs) : (catT bs).length = (catT cs).length := by
  induction h with
  | nil => rfl
  | cons b _ ih => rw [catT_cons, catT_cons, List.length_append, List.length_append, ih]
  | swap a b l => rw [catT_cons, catT_cons, catT_cons, catT_cons]; simp; omega
  | trans _ _ ih1 ih2 => rw [ih1, ih2]
/-- The first block with a number, of blocks with their places. -/
theorem firstF_withAt : ∀ (bs : List Blk) (a : Nat) (n : Int), firstF (withAt a bs) n = bs.find? fun b => decide (b.num = n)
  | [], _, _ => rfl
  | b :: bs, a, n => by
    have ih := firstF_withAt bs (a + b.text.length) n
    unfold firstF at *
    unfold withAt
    rw [List.find?_cons, List.find?_cons]
    by_cases h : b.num = n
    · simp [h]
    · simp only [h, decide_false]
      exact ih
theorem find_num {bs : List Blk} {b : Blk} (hb : b ∈ bs) (hu : ∀ c ∈ bs, c.num = b.num → c = b) : (bs.find? fun c => decide (c.num = b.num)) = some b := by
  induction bs with
  | nil => cases hb
  | cons c bs ih =>
    rw [List.find?_cons]
    by_cases h : c.num = b.num
    · rw [hu c (by simp) h]; simp
    · simp only [h, decide_false]
      rcases List.mem_cons.1 hb with rfl | hb
      · exact absurd rfl h
      · exact ih hb (fun d hd => hu d (by simp [hd]))
theorem find_no {bs : List Blk} {n : Int} (hu : ∀ c ∈ bs, c.num ≠ n) : (bs.find? fun c => decide (c.num = n)) = none := by
  rw [List.find?_eq_none]
  intro c hc
  simpa using hu c hc
/-- In a numbered list the number tells the block. -/
theorem NumOk_inj {bs : List Blk} (h : NumOk 0 bs) : ∀ b ∈ bs, ∀ c ∈ bs, c.num = b.num → c = b := by
  intro b hb c hc hn
  obtain ⟨i, hi, rfl⟩ := List.getElem_of_mem hb
  obtain ⟨j, hj, rfl⟩ := List.getElem_of_mem hc
  rw [(NumOk_at h i hi).2, (NumOk_at h j hj).2] at hn
  have : j = i := by omega
  subst this; rfl
deriving instance DecidableEq for Blk
/-- The numbers of the blocks that are found whole in another stream. -/
def survL (bs : List Blk) (fs : List (Int × Blk)) : List Int := (bs.filter fun b => decide (firstF fs b.num = some b)).map (·.num)
theorem survL_snoc (bs : List Blk) (b : Blk) (fs : List (Int × Blk)) : survL (bs ++ [b]) fs = survL bs fs ++ (if firstF fs b.num = some b then [b.num] else []) := by
  unfold survL
  rw [List.filter_append, List.map_append]
  by_cases h : firstF fs b.num = some b <;> simp [h]
theorem survL_len_le (bs : List Blk) (fs : List (Int × Blk)) : (survL bs fs).length ≤ bs.length := by
  unfold survL; rw [List.length_map]; exact List.length_filter_le _ _
def survB (l d : Bs) : List Int := match blocksB l with
  | some bs => survL bs (findB d)
  | none => []
theorem survL_all {bs : List Blk} {fs : List (Int × Blk)} (h : ∀ b ∈ bs, firstF fs b.num = some b) : (survL bs fs).length = bs.length := by
  unfold survL
  rw [List.length_map]
  rw [List.filter_eq_self.2 (fun b hb => by simp [h b hb])]
/-- An order of n things: each number below n, once. -/
def OrdOk (o : List Int) : Prop := o.Nodup ∧ ∀ x ∈ o, 0 ≤ x ∧ x < o.length
def pickB (bs : List Blk) (o : List Int) : List Blk := o.map fun x => bs[x.toNat]?.getD ⟨0, false, 0, []⟩
theorem pick_perm {bs : List Blk} {o : List Int} (ho : OrdOk o) (hl : o.length = bs.length) : (pickB bs o).Perm bs := by
  obtain ⟨h1, h2⟩ := ho
  have hN : (o.map Int.toNat).Nodup := by
    unfold List.Nodup at h1 ⊢
    rw [List.pairwise_map]
    refine h1.imp_of_mem ?_
    intro x y hx hy hne he
    have := h2 x hx; have := h2 y hy
    omega
  have hp := perm_of_nodup (o.map Int.toNat) (List.range bs.length) hN (fun x hx => by
    obtain ⟨y, hy, rfl⟩ := List.mem_map.1 hx
    have := h2 y hy
    rw [List.mem_range]; omega) (by simp; omega)
  have hm := hp.map fun i => bs[i]?.getD ⟨0, false, 0, []⟩
  rw [List.map_map] at hm
  have e : (List.range bs.length).map (fun i => bs[i]?.getD ⟨0, false, 0, []⟩) = bs := by
    apply List.ext_getElem?
    intro i
    rw [List.getElem?_map]
    by_cases hi : i < bs.length
    · rw [List.getElem?_range hi, List.getElem?_eq_getElem hi]; simp [List.getElem?_eq_getElem hi]
    · rw [List.getElem?_eq_none (by simp; omega), List.getElem?_eq_none (by omega)]; rfl
  rw [e] at hm
  exact hm
/-- The text of a container with its blocks in another order. -/
theorem shuffle_spec {l : Bs} {bs : List Blk} {o : List Int} (hb : blocksB l = some bs) (ho : OrdOk o) (hl : o.length = bs.length) :
    (catT (pickB bs o)).length = l.length ∧ findB (catT (pickB bs o)) = withAt 0 (pickB bs o) ∧ (survL bs (findB (catT (pickB bs o)))).length = o.length ∧
    (∀ (i : Nat) (h : i < o.length), ∃ b, (pickB bs o)[i]? = some b ∧ b.num = o[i]) := by
  obtain ⟨h1, h2, h3⟩ := blocks_some hb
  have hshort := blocks_short hb
  have hp := pick_perm ho hl
  have hlen := catT_perm hp
  rw [h2] at hlen
  have hok : ∀ b ∈ pickB bs o, b.ok = true := fun b hb => NumOk_mem h1 b (hp.mem_iff.1 hb)
  have hf := find_cat hok (by omega)
  refine ⟨hlen, hf, ?_, fun i hi => ?_⟩
  · rw [hf, survL_all, hl]
    intro b hb
    rw [firstF_withAt]
    exact find_num (hp.mem_iff.2 hb) (fun c hc => NumOk_inj h1 b hb c (hp.mem_iff.1 hc))
  · have hx := ho.2 o[i] (List.getElem_mem hi)
    obtain ⟨k, hk⟩ := Int.eq_ofNat_of_zero_le hx.1
    have hkb : k < bs.length := by omega
    refine ⟨bs[k], ?_, ?_⟩
    · unfold pickB
      rw [List.getElem?_map, List.getElem?_eq_getElem hi, Option.map_some, hk, Int.toNat_natCast, List.getElem?_eq_getElem hkb]; rfl
    · rw [(NumOk_at h1 k hkb).2, hk]; simp
theorem withAt_at (bs : List Blk) (a i : Nat) (h : i < bs.length) : ∃ x : Int, (withAt a bs)[i]? = some (x, bs[i]) := by
  induction bs generalizing a i with
  | nil => simp at h
  | cons b bs ih =>
    cases i with
    | zero => exact ⟨a, rfl⟩
    | succ i =>
      obtain ⟨x, hx⟩ := ih (a + b.text.length) i (by simpa using h)
      exact ⟨x, by simpa [withAt] using hx⟩
end Go.Proofs.YtfonokhafdflcaaGreat
/- Plain: a changed byte of a container costs one block. No program. -/
namespace Go.Proofs.YtfonokhafdflcaaGreat
open Go.RowKit
/-! ### Sums of strings with a changed byte -/
def totB : Bs → Int
  | [] => 0
  | c :: l => c.toNat + totB l
theorem totB_app (l m : Bs) : totB (l ++ m) = totB l + totB m := by
  induction l with
  | nil => simp [totB]
  | cons c l ih => simp only [List.cons_append, totB, ih]; omega
theorem sumP_tot : ∀ (l : Bs) (p : Int × Int), (l.foldl sumStep p).1 % 255 = (p.1 + totB l) % 255
  | [], p => by simp [totB]
  | c :: l, p => by
    rw [List.foldl_cons, sumP_tot l]
    simp only [sumStep, totB]
    omega
theorem sumOf_tot (l m : Bs) (h : sumOf l = sumOf m) : (totB l - totB m) % 255 = 0 := by
  have h1 := sumP_tot l (0, 0)
  have h2 := sumP_tot m (0, 0)
  have b1 := sumP_bd l
  have b2 := sumP_bd m
  unfold sumOf at h
  unfold sumP at *
  simp only at h1 h2
  omega
theorem sum_change (A C : Bs) (c d : UInt8) (h : sumOf (A ++ c :: C) = sumOf (A ++ d :: C)) : ((c.toNat : Int) - d.toNat) % 255 = 0 := by
  have := sumOf_tot _ _ h
  rw [totB_app, totB_app] at this
  simp only [totB] at this
  rw [← this]; congr 1; omega
/-! ### A block with a changed byte is none -/
theorem byteAt_mid (p t s : Bs) (k : Nat) (hk : k < t.length) : byteAt (p ++ (t ++ s)) ((p.length : Int) + k) = byteAt t k := by
  rw [byteAt_app, byteAt_pre _ _ _ hk]
theorem byteAt_get (t : Bs) (k : Nat) (hk : k < t.length) : byteAt t k = (t[k].toNat : Int) := byteAt_nat t k hk
theorem set_ne (t : Bs) (k j : Nat) (c : UInt8) (hj : j ≠ k) : byteAt (t.set k c) j = byteAt t j := by
  unfold byteAt
  rw [show ((j : Int)).toNat = j by omega, List.getElem?_set_ne (by omega)]
theorem set_split (t : Bs) (k : Nat) (c : UInt8) (hk : k < t.length) : t.set k c = t.take k ++ c :: t.drop (k + 1) := by
  rw [List.set_eq_take_append_cons_drop, if_pos hk]
theorem numAt_bytes (l : Bs) (a : Int) : numAt l a = byteAt l a * 256 + byteAt l (a + 1) := rfl
theorem changed_no {b : Blk} (h : b.ok = true) (p s : Bs) (k : Nat) (c : UInt8) (hk : k < b.text.length) (h6 : k ≠ 6) (h7 : k ≠ 7) (hc : ((c.toNat : Int) - b.text[k].toNat) % 255 ≠ 0) :
    parseOk (p ++ (b.text.set k c ++ s)) p.length = false := by
  rw [Bool.eq_false_iff]
  intro hp
  obtain ⟨h0, h1, h2⟩ := parse_self h p s p.length rfl
  have hlen := b.text_len
  have e6 : numAt (p ++ (b.text.set k c ++ s)) ((p.length : Int) + 6) = numAt (p ++ (b.text ++ s)) ((p.length : Int) + 6) := by
    rw [numAt_bytes, numAt_bytes]
    have a6 := byteAt_mid p (b.text.set k c) s 6 (by simp; omega)
    have a7 := byteAt_mid p (b.text.set k c) s 7 (by simp; omega)
    have c6 := byteAt_mid p b.text s 6 (by omega)
    have c7 := byteAt_mid p b.text s 7 (by omega)
    rw [set_ne _ _ _ _ (by omega)] at a6 a7
    rw [show ((p.length : Int) + 6 + 1) = (p.length : Int) + (7 : Nat) by omega, show ((p.length : Int) + 6) = (p.length : Int) + (6 : Nat) by omega, a6, a7, c6, c7]
  have he : endAt (p ++ (b.text.set k c ++ s)) p.length = p.length + b.text.length := by
    rw [← h2]; unfold endAt; rw [e6]
  have ht := parse_text hp
  rw [he, cutAt_mid _ _ _ _ _ rfl (by simp)] at ht
  generalize blkAt (p ++ (b.text.set k c ++ s)) p.length = b' at ht
  clear e6 he hp h0 h1 h2
  have hl' := b'.text_len
  have hll : b'.text.length = b.text.length := by rw [ht]; simp
  have hi := b.inner_len
  have hi' := b'.inner_len
  have hN : b'.inner.length = b.inner.length := by omega
  by_cases hk0 : k = 0
  · subst hk0
    have hb : b.text[0] = 181 := by simp [Blk.text]
    have hc0 : c = 181 := by
      have := congrArg (fun z : Bs => z[0]?) ht
      simp [Blk.text] at this
      exact this.symm
    rw [hb, hc0] at hc
    exact hc (by simp)
  · obtain ⟨j, rfl⟩ : ∃ j, k = j + 1 := ⟨k - 1, by omega⟩
    have ht2 : b'.inner ++ two (sumOf b'.inner) = (b.inner ++ two (sumOf b.inner)).set j c := by
      have := ht
      unfold Blk.text at this
      rw [List.set_cons_succ] at this
      exact (List.cons.inj this).2
    have hg : b.text[j + 1] = (b.inner ++ two (sumOf b.inner))[j]'(by simp [two_length]; omega) := by
      simp [Blk.text]
    rw [hg] at hc
    by_cases hj : j < b.inner.length
    · rw [List.set_append_left _ _ hj] at ht2
      obtain ⟨e1, e2⟩ := List.append_inj ht2 (by simp [hN])
      have b1 := sumOf_bd b.inner
      have b2 := sumOf_bd b'.inner
      have es := two_inj (by omega) (by omega) e2
      rw [e1, set_split _ _ _ hj] at es
      have := sum_change (b.inner.take j) (b.inner.drop (j + 1)) c b.inner[j] (by rw [es, ← List.drop_eq_getElem_cons hj, List.take_append_drop])
      rw [List.getElem_append_left hj] at hc
      exact hc this
    · rw [List.set_append_right _ _ (by omega)] at ht2
      obtain ⟨e1, e2⟩ := List.append_inj ht2 (by simp [hN])
      rw [e1] at e2
      rw [List.getElem_append_right (by omega)] at hc
      have hj2 : j - b.inner.length < (two (sumOf b.inner)).length := by rw [two_length]; omega
      have : (two (sumOf b.inner))[j - b.inner.length] = c := by
        have h9 := congrArg (fun z : Bs => z[j - b.inner.length]?) e2
        simp only [List.getElem?_set_self hj2] at h9
        rw [List.getElem?_eq_getElem hj2] at h9
        exact Option.some.inj h9
      rw [this] at hc
      exact hc (by simp)
/-! ### Found blocks -/
theorem nextB_skip {l : Bs} : ∀ (n : Nat) (a : Nat), (∀ i : Int, a ≤ i → i < a + n → parseOk l i = false) → a + n ≤ l.length → nextB l a = nextB l ((a + n : Nat) : Int)
  | 0, a, _, _ => rfl
  | n + 1, a, h, hl => by
    have h1 : nextB l a = nextB l ((a + 1 : Nat) : Int) := by
      unfold nextB
      by_cases h8 : l.length ≤ 8000
      · rw [if_pos ⟨h8, by omega⟩, if_pos ⟨h8, by omega⟩, show ((l.length : Int) - (a : Int)).toNat = ((l.length : Int) - ((a + 1 : Nat) : Int)).toNat + 1 by omega, nextGo, if_neg (by rw [h a (by omega) (by omega)]; simp)]
        rfl
      · rw [if_neg (by omega), if_neg (by omega)]
    rw [h1, nextB_skip n (a + 1) (fun i h0 h2 => h i (by omega) (by omega)) (by omega)]
    congr 2; omega
theorem findGo_app (l : Bs) (hl : l.length ≤ 8000) : ∀ (bs : List Blk) (m : Nat) (p s : Bs), (∀ b ∈ bs, b.ok = true) → l = p ++ (catT bs ++ s) →
    findGo l (bs.length + m) (nextB l p.length) = withAt p.length bs ++ findGo l m (nextB l ((p.length + (catT bs).length : Nat) : Int))
  | [], m, p, s, _, he => by simp [withAt, catT]
  | b :: bs, m, p, s, hok, he => by
    have hl2 : l = p ++ (b.text ++ (catT bs ++ s)) := by rw [he, catT_cons]; simp
    obtain ⟨h1, h2, h3⟩ := parse_self (hok b (by simp)) p (catT bs ++ s) p.length rfl
    rw [← hl2] at h1 h2 h3
    rw [nextB_here (by omega) hl h1, show (b :: bs).length + m = (bs.length + m) + 1 by simp; omega]
    rw [findGo, if_pos (by omega), h2, h3]
    have := findGo_app l hl bs m (p ++ b.text) s (fun c hc => hok c (by simp [hc])) (by rw [hl2]; simp)
    rw [show ((p ++ b.text).length : Int) = (p.length : Int) + b.text.length by simp] at this
    rw [this, catT_cons]
    simp [withAt, Nat.add_assoc]
theorem firstF_map (fs : List (Int × Blk)) (n : Int) : firstF fs n = (fs.map (·.2)).find? fun b => decide (b.num = n) := by
  unfold firstF
  induction fs with
  | nil => rfl
  | cons f fs ih =>
    rw [List.map_cons, List.find?_cons, List.find?_cons]
    split
    · rfl
    · exact ih
theorem withAt_fst : ∀ (bs : List Blk) (a i : Nat) (h : i < (withAt a bs).length), (withAt a bs)[i].1 = ((a + (catT (bs.take i)).length : Nat) : Int)
  | [], a, i, h => by simp [withAt] at h
  | b :: bs, a, 0, h => by simp [withAt, catT]
  | b :: bs, a, i + 1, h => by
    simp only [withAt, List.getElem_cons_succ, List.take_succ_cons]
    rw [withAt_fst bs _ i, catT_cons, List.length_append]
    congr 1; omega
theorem catT_split (bs : List Blk) (n : Nat) (h : n < bs.length) : catT bs = catT (bs.take n) ++ (bs[n].text ++ catT (bs.drop (n + 1))) := by
  rw [← catT_cons, ← catT_app]
  congr 1
  rw [List.getElem_cons_drop, List.take_append_drop]
theorem catT_mono (bs : List Blk) (i j : Nat) (h : i ≤ j) : (catT (bs.take i)).length ≤ (catT (bs.take j)).length := by
  have : bs.take j = bs.take i ++ (bs.drop i).take (j - i) := by
    rw [show j = i + (j - i) by omega, List.take_add]; simp
  rw [this, catT_app, List.length_append]; omega
structure ChlF (bs : List Blk) (n : Nat) (fs : List (Int × Blk)) : Prop where
  len : fs.length + 1 = bs.length
  at_ : ∀ (i : Nat) (h : i < fs.length), fs[i].1 = ((catT (bs.take (if n ≤ i then i + 1 else i))).length : Int)
  surv : (survL bs fs).length = fs.length
/-- All blocks but the changed one are found. -/
theorem change_local {l : Bs} {bs : List Blk} (hB : blocksB l = some bs) {n k : Nat} (hn : n < bs.length) {c : UInt8} (hk : k < bs[n].text.length) (h6 : k ≠ 6) (h7 : k ≠ 7)
    (hc : ((c.toNat : Int) - byteAt l (((catT (bs.take n)).length + k : Nat) : Int)) % 255 ≠ 0)
    (hm : ∀ i : Nat, (catT (bs.take n)).length < i → i < (catT (bs.take n)).length + bs[n].text.length → byteAt (l.set ((catT (bs.take n)).length + k) c) i ≠ 181) :
    ChlF bs n (findB (l.set ((catT (bs.take n)).length + k) c)) := by
  obtain ⟨hN, hl, hS⟩ := blocks_some hB
  have hsh := (blocks_short hB).1
  have hok := NumOk_mem hN
  have hbok := hok _ (List.getElem_mem hn)
  have hsp := catT_split bs n hn
  rw [hl] at hsp
  generalize hp : catT (bs.take n) = p at *
  generalize hs : catT (bs.drop (n + 1)) = s at *
  have hx : l.set (p.length + k) c = p ++ (bs[n].text.set k c ++ s) := by
    rw [hsp, List.set_append_right _ _ (by omega), List.set_append_left _ _ (by simpa using hk)]
    simp
  have hb0 : byteAt l ((p.length + k : Nat) : Int) = (bs[n].text[k].toNat : Int) := by
    rw [hsp, show ((p.length + k : Nat) : Int) = (p.length : Int) + k by omega, byteAt_mid _ _ _ _ hk, byteAt_get _ _ hk]
  rw [hb0] at hc
  have hno := changed_no hbok p s k c hk h6 h7 hc
  rw [hx] at hm ⊢
  generalize hL : p ++ (bs[n].text.set k c ++ s) = x at *
  have hxl : x.length = p.length + bs[n].text.length + s.length := by rw [← hL]; simp; omega
  have hll : l.length = x.length := by rw [hsp, hxl]; simp; omega
  have htl := text_le hbok
  have hskip : nextB x p.length = nextB x ((p.length + bs[n].text.length : Nat) : Int) := by
    refine nextB_skip bs[n].text.length p.length (fun i h0 h1 => ?_) (by omega)
    obtain ⟨j, rfl⟩ := Int.eq_ofNat_of_zero_le (show 0 ≤ i by omega)
    by_cases hj : j = p.length
    · rw [hj]; exact hno
    · have := hm j (by omega) (by omega)
      unfold parseOk headOk
      simp [this]
  have hlt : (bs.take n).length = n := by simp; omega
  have hf1 := findGo_app x (by omega) (bs.take n) (x.length + 1 - n) [] (bs[n].text.set k c ++ s) (fun b hb => hok b (List.mem_of_mem_take hb)) (by rw [hp, ← hL]; simp)
  have hge := catT_ge bs
  rw [hl] at hge
  have hf2 := findGo_app x (by omega) (bs.drop (n + 1)) (x.length + 1 - n - (bs.drop (n + 1)).length) (p ++ bs[n].text.set k c) [] (fun b hb => hok b (List.mem_of_mem_drop hb)) (by rw [hs, ← hL]; simp)
  have hend : findGo x (x.length + 1 - n - (bs.drop (n + 1)).length) (nextB x (((p ++ bs[n].text.set k c).length + (catT (bs.drop (n + 1))).length : Nat) : Int)) = [] := by
    rw [nextB_end (by rw [hs]; simp; omega)]
    cases x.length + 1 - n - (bs.drop (n + 1)).length <;> rfl
  have hF : findB x = withAt 0 (bs.take n) ++ withAt (p.length + bs[n].text.length) (bs.drop (n + 1)) := by
    unfold findB
    have e1 : (bs.take n).length + (x.length + 1 - n) = x.length + 1 := by rw [hlt]; omega
    have e2 : (bs.drop (n + 1)).length + (x.length + 1 - n - (bs.drop (n + 1)).length) = x.length + 1 - n := by simp; omega
    have e3 : (p ++ bs[n].text.set k c).length = p.length + bs[n].text.length := by simp
    rw [e1] at hf1
    rw [e2, hend, List.append_nil, e3] at hf2
    rw [hp] at hf1
    simp only [List.length_nil, Nat.zero_add] at hf1
    rw [show ((0 : Nat) : Int) = 0 from rfl] at hf1
    rw [hf1, hskip, hf2]
  have hFl : (findB x).length + 1 = bs.length := by rw [hF]; simp [withAt_length]; omega
  refine ⟨hFl, ?_, ?_⟩
  · intro i hi
    have hw1 : (withAt 0 (bs.take n)).length = n := by rw [withAt_length, hlt]
    rw [List.getElem_of_eq hF hi]
    by_cases hni : n ≤ i
    · rw [List.getElem_append_right (by omega), if_pos hni, withAt_fst]
      simp only [hw1]
      have e : bs.take (i + 1) = bs.take n ++ (bs[n] :: (bs.drop (n + 1)).take (i - n)) := by
        rw [show i + 1 = n + (i - n + 1) by omega, List.take_add, List.drop_eq_getElem_cons hn, List.take_succ_cons]
      rw [e, catT_app, catT_cons, hp]
      simp only [List.length_append]
      omega
    · rw [List.getElem_append_left (by omega), if_neg hni, withAt_fst, List.take_take, Nat.min_eq_left (by omega), Nat.zero_add]
  · have hmap : (findB x).map (·.2) = bs.take n ++ bs.drop (n + 1) := by rw [hF, List.map_append, withAt_snd, withAt_snd]
    have hin : ∀ c ∈ bs.take n ++ bs.drop (n + 1), c ∈ bs := by
      intro c hc
      rcases List.mem_append.1 hc with h | h
      · exact List.mem_of_mem_take h
      · exact List.mem_of_mem_drop h
    have hyes : ∀ b ∈ bs.take n ++ bs.drop (n + 1), firstF (findB x) b.num = some b := by
      intro b hb
      rw [firstF_map, hmap]
      exact find_num hb (fun c hc h => NumOk_inj hN b (hin b hb) c (hin c hc) h)
    have hnn := (NumOk_at hN n hn).2
    have hbno : firstF (findB x) bs[n].num = none := by
      rw [firstF_map, hmap]
      refine find_no (fun c hc => ?_)
      rcases List.mem_append.1 hc with h | h
      · obtain ⟨j, hj, rfl⟩ := List.getElem_of_mem h
        rw [List.getElem_take]
        have hj2 : j < n := by simp at hj; omega
        have := (NumOk_at hN j (by omega)).2
        rw [this, hnn]; omega
      · obtain ⟨j, hj, rfl⟩ := List.getElem_of_mem h
        rw [List.getElem_drop]
        have hj2 : n + 1 + j < bs.length := by simp at hj; omega
        have := (NumOk_at hN (n + 1 + j) hj2).2
        rw [this, hnn]; omega
    unfold survL
    rw [List.length_map]
    have e : bs = bs.take n ++ (bs[n] :: bs.drop (n + 1)) := by rw [List.getElem_cons_drop, List.take_append_drop]
    have hfil : ∀ M : List Blk, (∀ b ∈ M, firstF (findB x) b.num = some b) → (M.filter fun b => decide (firstF (findB x) b.num = some b)) = M := by
      intro M hM
      rw [List.filter_eq_self]
      intro b hb
      simp [hM b hb]
    have : bs.filter (fun b => decide (firstF (findB x) b.num = some b)) = bs.take n ++ bs.drop (n + 1) := by
      conv => lhs; rw [e]
      rw [List.filter_append, List.filter_cons, hfil _ (fun b hb => hyes b (List.mem_append_left _ hb)), hfil _ (fun b hb => hyes b (List.mem_append_right _ hb)), hbno]
      simp
    rw [this, List.length_append, hlt]
    simp; omega
end Go.Proofs.YtfonokhafdflcaaGreat
/- Plain: the parities of the groups of a container's blocks. No program. -/
namespace Go.Proofs.YtfonokhafdflcaaGreat
set_option linter.unusedVariables false
/-- The texts of g many blocks from number f on. -/
def grpT (bs : List Blk) (f g : Nat) : List Bs := ((bs.drop f).take g).map Blk.text
theorem grpT_snoc (bs : List Blk) (f j : Nat) (h : f + j < bs.length) : grpT bs f (j + 1) = grpT bs f j ++ [bs[f + j].text] := by
  unfold grpT
  rw [List.take_succ_eq_append_getElem (by simp; omega), List.map_append]
  simp
theorem grpT_zero (bs : List Blk) (f : Nat) : grpT bs f 0 = [] := by simp [grpT]
theorem grpT_length (bs : List Blk) (f g : Nat) : (grpT bs f g).length = min g (bs.length - f) := by simp [grpT]
theorem grpT_end (bs : List Blk) (f j g : Nat) (h : j ≤ g) (he : bs.length ≤ f + j) : grpT bs f j = grpT bs f g := by
  unfold grpT
  rw [List.take_of_length_le (by simp; omega), List.take_of_length_le (by simp; omega)]
theorem grpT_mem {bs : List Blk} {f g : Nat} {t : Bs} (h : t ∈ grpT bs f g) : ∃ b ∈ bs, b.text = t := by
  unfold grpT at h
  obtain ⟨b, hb, rfl⟩ := List.mem_map.1 h
  exact ⟨b, List.mem_of_mem_drop (List.mem_of_mem_take hb), rfl⟩
theorem grpT_le {bs : List Blk} {f g : Nat} (hok : ∀ b ∈ bs, b.ok = true) : ∀ t ∈ grpT bs f g, t.length ≤ 74 := by
  intro t ht
  obtain ⟨b, hb, rfl⟩ := grpT_mem ht
  exact text_le (hok b hb)
def parL (bs : List Blk) (g m : Nat) : List Bs := (List.range m).map fun i => parT (grpT bs (i * g) g)
theorem parL_snoc (bs : List Blk) (g m : Nat) : parL bs g (m + 1) = parL bs g m ++ [parT (grpT bs (m * g) g)] := by
  unfold parL; rw [List.range_succ, List.map_append]; rfl
theorem parL_length (bs : List Blk) (g m : Nat) : (parL bs g m).length = m := by simp [parL]
theorem parL_at (bs : List Blk) (g m i : Nat) (h : i < m) : (parL bs g m)[i]? = some (parT (grpT bs (i * g) g)) := by
  unfold parL; rw [List.getElem?_map, List.getElem?_range h]; rfl
def cnt (n g : Nat) : Nat := (n + g - 1) / g
theorem cnt_is {n g m : Nat} (hg : 1 ≤ g) (h1 : n ≤ m * g) (h2 : m = 0 ∨ (m - 1) * g < n) : m = cnt n g := by
  unfold cnt
  symm
  rcases h2 with rfl | h2
  · have : n = 0 := by omega
    subst this
    exact Nat.div_eq_of_lt (by omega)
  · obtain ⟨k, rfl⟩ : ∃ k, m = k + 1 := ⟨m - 1, by rcases m with _ | m <;> simp_all <;> omega⟩
    simp only [Nat.add_sub_cancel] at h2
    rw [Nat.add_mul] at h1
    exact Nat.div_eq_of_lt_le (by rw [Nat.add_mul]; omega) (by rw [Nat.add_mul, Nat.add_mul]; omega)
theorem cnt_lt {n g i : Nat} (hg : 1 ≤ g) (h : i < cnt n g) : i * g < n := by
  unfold cnt at h
  have := (Nat.le_div_iff_mul_le (by omega)).1 (show i + 1 ≤ (n + g - 1) / g from h)
  rw [Nat.add_mul] at this
  omega
theorem lt_cnt {n g i : Nat} (hg : 1 ≤ g) (h : i < n) : i / g < cnt n g := by
  unfold cnt
  have : i / g + 1 ≤ (n + g - 1) / g := by
    rw [Nat.le_div_iff_mul_le (by omega), Nat.add_mul]
    have := Nat.div_mul_le_self i g
    omega
  omega
theorem cnt_le {n g : Nat} (hg : 1 ≤ g) : cnt n g ≤ n := by
  rcases Nat.eq_zero_or_pos (cnt n g) with h | h
  · omega
  · have h1 := cnt_lt hg (show cnt n g - 1 < cnt n g by omega)
    have h2 : (cnt n g - 1) * 1 ≤ (cnt n g - 1) * g := Nat.mul_le_mul_left _ hg
    omega
theorem parT_bd {bs : List Blk} {f g : Nat} (hok : ∀ b ∈ bs, b.ok = true) : (parT (grpT bs f g)).length ≤ 76 := by
  have h := longestB_le _ 74 (grpT_le (f := f) (g := g) hok)
  by_cases hn : grpT bs f g = []
  · rw [hn]; decide
  · rw [parT_len _ hn]; omega
theorem parL_bd {bs : List Blk} {g m : Nat} (hok : ∀ b ∈ bs, b.ok = true) : ∀ t ∈ parL bs g m, t.length ≤ 76 := by
  intro t ht
  unfold parL at ht
  obtain ⟨i, _, rfl⟩ := List.mem_map.1 ht
  exact parT_bd hok
theorem parL_ge {bs : List Blk} {g : Nat} (hok : ∀ b ∈ bs, b.ok = true) (hg : 1 ≤ g) : ∀ t ∈ parL bs g (cnt bs.length g), 2 ≤ t.length := by
  intro t ht
  unfold parL at ht
  obtain ⟨i, hi, rfl⟩ := List.mem_map.1 ht
  have hi := cnt_lt hg (List.mem_range.1 hi)
  rw [parT_len _ (by intro h; have := grpT_length bs (i * g) g; rw [h] at this; simp at this; omega)]
  omega
def parB (l : Bs) (g : Int) : Option (List Bs) := if 1 ≤ g ∧ g ≤ 40 then (blocksB l).map (fun bs => parL bs g.toNat (cnt bs.length g.toNat)) else none
/-! ### the others of a group -/
def oth (bs : List Blk) (f i j : Nat) : List Bs := if f + j ≤ i then grpT bs f j else grpT bs f (i - f) ++ grpT bs (i + 1) (f + j - (i + 1))
theorem oth_zero (bs : List Blk) {f i : Nat} (h : f ≤ i) : oth bs f i 0 = [] := by unfold oth; rw [if_pos (by omega)]; exact grpT_zero bs f
theorem oth_self (bs : List Blk) {f i j : Nat} (h : f + j = i) : oth bs f i (j + 1) = oth bs f i j := by
  unfold oth
  rw [if_neg (by omega), if_pos (by omega), show i - f = j by omega, show f + (j + 1) - (i + 1) = 0 by omega, grpT_zero]
  simp
theorem oth_next (bs : List Blk) {f i j : Nat} (h : f + j ≠ i) (hl : f + j < bs.length) : oth bs f i (j + 1) = oth bs f i j ++ [bs[f + j].text] := by
  unfold oth
  by_cases h1 : f + j < i
  · rw [if_pos (by omega), if_pos (by omega), grpT_snoc bs f j hl]
  · rw [if_neg (by omega), if_neg (by omega), List.append_assoc]
    obtain ⟨m, hm⟩ : ∃ m, f + j = i + 1 + m := ⟨f + j - (i + 1), by omega⟩
    have e1 : f + (j + 1) - (i + 1) = m + 1 := by omega
    have e2 : f + j - (i + 1) = m := by omega
    rw [e1, e2, grpT_snoc bs (i + 1) m (by omega)]
    simp only [hm]
theorem oth_len (bs : List Blk) {f i : Nat} (j : Nat) (h : f ≤ i) : (oth bs f i j).length ≤ j := by
  unfold oth
  split
  · rw [grpT_length]; omega
  · rw [List.length_append, grpT_length, grpT_length]; omega
theorem oth_le {bs : List Blk} {f i j : Nat} (hok : ∀ b ∈ bs, b.ok = true) : ∀ t ∈ oth bs f i j, t.length ≤ 74 := by
  intro t ht
  unfold oth at ht
  split at ht
  · exact grpT_le hok t ht
  · rcases List.mem_append.1 ht with h | h <;> exact grpT_le hok t h
theorem grpT_split (bs : List Blk) {f i g : Nat} (h0 : f ≤ i) (h1 : i < f + g) (h2 : i < bs.length) : grpT bs f g = grpT bs f (i - f) ++ bs[i].text :: grpT bs (i + 1) (f + g - (i + 1)) := by
  have e1 : grpT bs f g = ((bs.drop f).take (i - f)).map Blk.text ++ (((bs.drop f).drop (i - f)).take (g - (i - f))).map Blk.text := by
    unfold grpT
    rw [← List.map_append, ← List.take_add, show i - f + (g - (i - f)) = g by omega]
  rw [e1]
  unfold grpT
  congr 1
  rw [List.drop_drop, show f + (i - f) = i by omega, List.drop_eq_getElem_cons h2, show g - (i - f) = (f + g - (i + 1)) + 1 by omega, List.take_succ_cons, List.map_cons]
theorem rebuild_grp {bs : List Blk} {f i j g : Nat} (hok : ∀ b ∈ bs, b.ok = true) (hlen : bs.length ≤ 40) (h0 : f ≤ i) (h1 : i < f + j) (h2 : f + j ≤ bs.length) (hj : j ≤ g) (he : j = g ∨ f + j = bs.length) :
    rebuildT (oth bs f i j) (parT (grpT bs f g)) = some (bs[i]'(by omega)).text := by
  have hg : grpT bs f g = grpT bs f j := by
    rcases he with rfl | he
    · rfl
    · exact (grpT_end bs f j g hj (by omega)).symm
  rw [hg, grpT_split bs h0 h1 (by omega)]
  unfold oth
  rw [if_neg (by omega)]
  refine rebuild_parity _ _ _ ?_ ?_
  · rw [List.length_append, grpT_length, grpT_length]; omega
  · intro s hs
    have : s.length ≤ 74 := by
      rcases List.mem_append.1 hs with h | h
      · exact grpT_le hok s h
      · rcases List.mem_cons.1 h with rfl | h
        · exact text_le (hok _ (List.getElem_mem _))
        · exact grpT_le hok s h
    omega
end Go.Proofs.YtfonokhafdflcaaGreat
/- Plain: a container restored from the blocks that are found and the parities of groups. No program. -/
namespace Go.Proofs.YtfonokhafdflcaaGreat
set_option linter.unusedVariables false
/-- The texts of the found blocks with numbers from a on, k many numbers. -/
def foundTo (fs : List (Int × Blk)) (a : Int) : Nat → List Bs
  | 0 => []
  | j + 1 => foundTo fs a j ++ (match firstF fs (a + j) with
    | some b => [b.text]
    | none => [])
/-- The numbers that are not found. -/
def lostTo (fs : List (Int × Blk)) (a : Int) : Nat → List Int
  | 0 => []
  | j + 1 => lostTo fs a j ++ (match firstF fs (a + j) with
    | some _ => []
    | none => [a + (j : Int)])
def builtOf (ls : List Bs) (p : Bs) (n : Int) : Option Bs := match rebuildT ls p with
  | some t => if parseOk t 0 = true ∧ (blkAt t 0).num = n ∧ endAt t 0 = t.length then some t else none
  | none => none
/-- The bytes of the block with number n, of a group of k from a on. -/
def txtN (fs : List (Int × Blk)) (p : Bs) (a : Int) (k : Nat) (n : Int) : Option Bs := match firstF fs n with
  | some b => some b.text
  | none => if lostTo fs a k = [n] then builtOf (foundTo fs a k) p n else none
def catTo (f : Nat → Option Bs) : Nat → Option Bs
  | 0 => some []
  | n + 1 => match catTo f n with
    | some x => (match f n with
      | some t => some (x ++ t)
      | none => none)
    | none => none
theorem catTo_step {f : Nat → Option Bs} {n : Nat} {x t : Bs} (h : catTo f n = some x) (h1 : f n = some t) : catTo f (n + 1) = some (x ++ t) := by
  unfold catTo; rw [h]; simp only; rw [h1]
theorem catTo_stop {f : Nat → Option Bs} {n : Nat} (h : f n = none) : ∀ k, n < k → catTo f k = none := by
  intro k
  induction k with
  | zero => intro hk; omega
  | succ k ih =>
    intro hk
    unfold catTo
    by_cases e : n = k
    · subst e
      cases catTo f n with
      | none => rfl
      | some x => simp only; rw [h]
    · rw [ih (by omega)]
theorem catTo_add (f : Nat → Option Bs) (a : Nat) (x : Bs) (h : catTo f a = some x) : ∀ k, catTo f (a + k) = (catTo (fun j => f (a + j)) k).map (x ++ ·)
  | 0 => by simp [catTo, h]
  | k + 1 => by
    have ih := catTo_add f a x h k
    show catTo f (a + k + 1) = _
    unfold catTo
    rw [ih]
    cases catTo (fun j => f (a + j)) k with
    | none => rfl
    | some y =>
      simp only [Option.map_some]
      cases f (a + k) with
      | none => rfl
      | some t => simp
theorem catTo_congr {f g : Nat → Option Bs} : ∀ k, (∀ j, j < k → f j = g j) → catTo f k = catTo g k
  | 0, _ => rfl
  | k + 1, h => by
    unfold catTo
    rw [catTo_congr k (fun j hj => h j (by omega)), h k (by omega)]
theorem catTo_none {f : Nat → Option Bs} {n k : Nat} (h : catTo f n = none) (hk : n ≤ k) : catTo f k = none := by
  induction k with
  | zero => have : n = 0 := by omega
            subst this; exact h
  | succ k ih =>
    by_cases e : n = k + 1
    · subst e; exact h
    · unfold catTo; rw [ih (by omega)]
theorem lostTo_mem (fs : List (Int × Blk)) (a : Int) : ∀ (k : Nat) (n : Int), n ∈ lostTo fs a k → ∃ j : Nat, j < k ∧ n = a + j ∧ firstF fs n = none
  | 0, n, h => by cases h
  | k + 1, n, h => by
    unfold lostTo at h
    rcases List.mem_append.1 h with h | h
    · obtain ⟨j, h1, h2, h3⟩ := lostTo_mem fs a k n h
      exact ⟨j, by omega, h2, h3⟩
    · split at h
      · cases h
      · rename_i hn
        simp at h
        subst h
        exact ⟨k, by omega, rfl, hn⟩
theorem lostTo_of (fs : List (Int × Blk)) (a : Int) : ∀ (k j : Nat), j < k → firstF fs (a + j) = none → a + (j : Int) ∈ lostTo fs a k
  | 0, j, h, _ => by omega
  | k + 1, j, h, hn => by
    unfold lostTo
    by_cases e : j = k
    · subst e; rw [hn]; simp
    · exact List.mem_append_left _ (lostTo_of fs a k j (by omega) hn)
theorem lostTo_step_some {fs : List (Int × Blk)} {a : Int} {j : Nat} {b : Blk} (h : firstF fs (a + j) = some b) : lostTo fs a (j + 1) = lostTo fs a j ∧ foundTo fs a (j + 1) = foundTo fs a j ++ [b.text] := by
  constructor
  · rw [lostTo, h]; simp
  · rw [foundTo, h]
theorem lostTo_step_none {fs : List (Int × Blk)} {a : Int} {j : Nat} (h : firstF fs (a + j) = none) : lostTo fs a (j + 1) = lostTo fs a j ++ [a + (j : Int)] ∧ foundTo fs a (j + 1) = foundTo fs a j := by
  constructor
  · rw [lostTo, h]
  · rw [foundTo, h]; simp
theorem lostTo_prefix (fs : List (Int × Blk)) (a : Int) (j : Nat) : ∀ k, ∃ r, lostTo fs a (j + k) = lostTo fs a j ++ r
  | 0 => ⟨[], by simp⟩
  | k + 1 => by
    obtain ⟨r, h⟩ := lostTo_prefix fs a j k
    refine ⟨r ++ (match firstF fs (a + (j + k : Nat)) with | some _ => [] | none => [a + ((j + k : Nat) : Int)]), ?_⟩
    show lostTo fs a (j + k + 1) = _
    conv => lhs; unfold lostTo
    rw [h, List.append_assoc]
/-- Two numbers of a group are lost: none of its bytes. -/
theorem group_two {fs : List (Int × Blk)} {p : Bs} {a : Int} {k : Nat} {n m : Int} {r : List Int} (h : lostTo fs a k = n :: m :: r) : catTo (fun j => txtN fs p a k (a + (j : Int))) k = none := by
  obtain ⟨j, h1, h2, h3⟩ := lostTo_mem fs a k n (by rw [h]; simp)
  refine catTo_stop (n := j) ?_ k h1
  show txtN fs p a k (a + (j : Int)) = none
  rw [← h2]
  unfold txtN
  rw [h3]
  simp only
  rw [if_neg (by rw [h]; simp)]
theorem foundTo_length (fs : List (Int × Blk)) (a : Int) : ∀ k, (foundTo fs a k).length ≤ k
  | 0 => by simp [foundTo]
  | k + 1 => by
    have := foundTo_length fs a k
    unfold foundTo
    rw [List.length_append]
    split <;> simp <;> omega
/-- Where the group of number n begins, and how many it has. -/
def grpA (g : Int) (n : Nat) : Int := (n : Int) / g * g
def grpK (g c : Int) (n : Nat) : Nat := (min (((n : Int) / g + 1) * g) c - (n : Int) / g * g).toNat
def repTxt (fs : List (Int × Blk)) (par : List Bs) (g c : Int) (n : Nat) : Option Bs := txtN fs (par.getD ((n : Int) / g).toNat []) (grpA g n) (grpK g c n) n
def repairB (l : Bs) (par : List Bs) (g c : Int) : Option Bs :=
  if l.length ≤ 8000 ∧ 1 ≤ g ∧ g ≤ 40 ∧ 0 ≤ c ∧ c ≤ 40 ∧ (par.length : Int) = (c + g - 1) / g then
    match catTo (repTxt (findB l) par g c) c.toNat with
    | some x => if (blocksB x).isSome = true then some x else none
    | none => none
  else none
/-- The numbers of group i. -/
theorem grp_of {g c i : Int} (hg : 1 ≤ g) (hi : 0 ≤ i) {j : Nat} (hj : (j : Int) < g) : ((i * g).toNat + j : Nat) / g = i ∧ (((i * g).toNat + j : Nat) : Int) = i * g + j := by
  have h0 : 0 ≤ i * g := Int.mul_nonneg hi (by omega)
  have h1 : (((i * g).toNat + j : Nat) : Int) = i * g + j := by omega
  refine ⟨?_, h1⟩
  rw [h1, Int.add_comm, Int.add_mul_ediv_right _ _ (by omega), Int.ediv_eq_zero_of_lt (by omega) hj]
  omega
theorem repTxt_grp {fs : List (Int × Blk)} {par : List Bs} {g c i : Int} (hg : 1 ≤ g) (hi : 0 ≤ i) {j : Nat} (hj : (j : Int) < g) :
    repTxt fs par g c ((i * g).toNat + j) = txtN fs (par.getD i.toNat []) (i * g) (min ((i + 1) * g) c - i * g).toNat (i * g + j) := by
  have h := grp_of (c := c) hg hi hj
  unfold repTxt grpA grpK
  rw [h.1, h.2]
end Go.Proofs.YtfonokhafdflcaaGreat
/- Plain: what a restored container is made of. No program. -/
namespace Go.Proofs.YtfonokhafdflcaaGreat
set_option linter.unusedVariables false
theorem catT_nil {bs : List Blk} (h : catT bs = []) : bs = [] := by
  cases bs with
  | nil => rfl
  | cons b bs =>
    rw [catT_cons] at h
    have := congrArg List.length h
    rw [List.length_append, b.text_len] at this
    simp at this
theorem catT_inj : ∀ (bs cs : List Blk), (∀ b ∈ bs, b.ok = true) → (∀ c ∈ cs, c.ok = true) → catT bs = catT cs → bs = cs
  | [], cs, _, _, h => (catT_nil h.symm).symm
  | b :: bs, [], _, _, h => by rw [catT_nil h]
  | b :: bs, c :: cs, hb, hc, h => by
    rw [catT_cons, catT_cons] at h
    have h1 := (parse_self (hb b (by simp)) [] (catT bs) 0 rfl).2.1
    have h2 := (parse_self (hc c (by simp)) [] (catT cs) 0 rfl).2.1
    simp only [List.nil_append] at h1 h2
    rw [h, h2] at h1
    subst h1
    have h3 := List.append_cancel_left h
    rw [catT_inj bs cs (fun b hb' => hb b (by simp [hb'])) (fun c hc' => hc c (by simp [hc'])) h3]
theorem firstF_num {fs : List (Int × Blk)} {n : Int} {b : Blk} (h : firstF fs n = some b) : b.num = n := by
  unfold firstF at h
  cases hf : fs.find? fun f => decide (f.2.num = n) with
  | none => rw [hf] at h; cases h
  | some f =>
    rw [hf] at h
    have := List.find?_some hf
    simp at h this
    rw [← h]; exact this
/-- The number n stands for a found block's bytes, or for those of one that is built. -/
theorem txtN_is {fs : List (Int × Blk)} {p : Bs} {a : Int} {k : Nat} {n : Int} {t : Bs} (hok : ∀ n b, firstF fs n = some b → b.ok = true) (h : txtN fs p a k n = some t) :
    ∃ b : Blk, b.ok = true ∧ b.num = n ∧ t = b.text ∧ ∀ b', firstF fs n = some b' → b' = b := by
  unfold txtN at h
  cases hf : firstF fs n with
  | some b =>
    rw [hf] at h
    simp only at h
    injection h with h
    exact ⟨b, hok n b hf, firstF_num hf, h.symm, fun b' e => by injection e with e; exact e.symm⟩
  | none =>
    rw [hf] at h
    simp only at h
    split at h
    · unfold builtOf at h
      split at h
      · split at h
        · rename_i t' _ hc
          injection h with h
          subst h
          have h1 := parse_text hc.1
          have h2 := parse_bd hc.1
          refine ⟨blkAt t' 0, h2.2.2.2, hc.2.1, ?_, fun b' e => by cases e⟩
          rw [h1, hc.2.2]
          unfold cutAt
          simp
        · cases h
      · cases h
    · cases h
/-- How many of the first k numbers are found. -/
def fcount (fs : List (Int × Blk)) : Nat → Nat
  | 0 => 0
  | k + 1 => fcount fs k + if (firstF fs (k : Int)).isSome = true then 1 else 0
theorem fcount_succ (fs : List (Int × Blk)) (k : Nat) : fcount fs (k + 1) = fcount fs k + if (firstF fs (k : Int)).isSome = true then 1 else 0 := rfl
theorem fcount_le (fs : List (Int × Blk)) : ∀ k, fcount fs k ≤ k
  | 0 => Nat.le_refl _
  | k + 1 => by
    have := fcount_le fs k
    unfold fcount; split <;> omega
theorem fcount_lost (fs : List (Int × Blk)) (a : Nat) : ∀ j, fcount fs (a + j) + (lostTo fs (a : Int) j).length = fcount fs a + j
  | 0 => by simp [lostTo]
  | j + 1 => by
    have ih := fcount_lost fs a j
    show fcount fs (a + j + 1) + _ = _
    rw [fcount_succ]
    unfold lostTo
    rw [List.length_append, show ((a : Int) + (j : Int)) = ((a + j : Nat) : Int) by omega]
    cases firstF fs ((a + j : Nat) : Int) with
    | none => simp; omega
    | some b => simp; omega
theorem catTo_all {f : Nat → Option Bs} {n : Nat} {x : Bs} (h : catTo f n = some x) : ∀ j, j < n → ∃ t, f j = some t := by
  intro j hj
  cases hf : f j with
  | some t => exact ⟨t, rfl⟩
  | none => rw [catTo_stop hf n hj] at h; cases h
theorem catTo_cat {f : Nat → Option Bs} : ∀ {n : Nat} {x : Bs}, catTo f n = some x → (∀ j, j < n → ∀ t, f j = some t → ∃ b : Blk, b.ok = true ∧ b.num = (j : Int) ∧ t = b.text) → ∃ bs : List Blk, NumOk 0 bs ∧ catT bs = x ∧ bs.length = n ∧ ∀ j (hj : j < bs.length), f j = some bs[j].text
  | 0, x, h, _ => by
    unfold catTo at h
    injection h with h
    exact ⟨[], trivial, by rw [← h]; rfl, rfl, fun j hj => by simp at hj⟩
  | n + 1, x, h, hb => by
    unfold catTo at h
    cases hc : catTo f n with
    | none => rw [hc] at h; cases h
    | some y =>
      rw [hc] at h
      simp only at h
      cases hf : f n with
      | none => rw [hf] at h; cases h
      | some t =>
        rw [hf] at h
        simp only at h
        injection h with h
        obtain ⟨bs, h1, h2, h3, h4⟩ := catTo_cat hc (fun j hj t ht => hb j (by omega) t ht)
        obtain ⟨b, hbo, hbn, rfl⟩ := hb n (by omega) t hf
        refine ⟨bs ++ [b], NumOk_snoc h1 hbo (by rw [hbn, h3]; simp), by rw [catT_snoc, h2, h], by simp [h3], fun j hj => ?_⟩
        by_cases hjn : j < bs.length
        · rw [List.getElem_append_left hjn]; exact h4 j hjn
        · have : j = n := by simp at hj; omega
          subst this
          rw [hf, List.getElem_append_right (by omega)]
          simp [h3]
theorem rep_all {fs : List (Int × Blk)} {par : List Bs} {g : Int} {n m : Nat} (hg : 1 ≤ g) (hm : (n : Int) ≤ m * g) {x : Bs} (h : catTo (repTxt fs par g n) n = some x) : ∀ i : Nat, i ≤ m → ∃ a : Nat, (a : Int) = min ((i : Int) * g) n ∧ a ≤ fcount fs a + i
  | 0, _ => ⟨0, by omega, by simp⟩
  | i + 1, hi => by
    obtain ⟨a, ha, hf⟩ := rep_all hg hm h i (by omega)
    have hs : ((i + 1 : Nat) : Int) * g = (i : Int) * g + g := by rw [Int.natCast_add, Int.add_mul]; simp
    have h0 : 0 ≤ (i : Int) * g := Int.mul_nonneg (by omega) (by omega)
    rcases Int.lt_or_le ((i : Int) * g) n with hlt | hge
    · have ha2 : (a : Int) = (i : Int) * g := by omega
      obtain ⟨k, hk⟩ : ∃ k : Nat, (k : Int) = min (((i : Int) + 1) * g) n - (i : Int) * g := ⟨(min (((i : Int) + 1) * g) n - (i : Int) * g).toNat, by
        have : ((i : Int) + 1) * g = (i : Int) * g + g := by rw [Int.add_mul]; simp
        omega⟩
      have hs2 : ((i : Int) + 1) * g = (i : Int) * g + g := by rw [Int.add_mul]; simp
      have hkg : (k : Int) ≤ g := by omega
      refine ⟨a + k, by rw [hs]; omega, ?_⟩
      have hfl := fcount_lost fs a k
      have hlost : (lostTo fs (a : Int) k).length ≤ 1 := by
        cases hL : lostTo fs (a : Int) k with
        | nil => simp
        | cons n1 r =>
          cases r with
          | nil => simp
          | cons n2 r =>
            exfalso
            obtain ⟨j, hj, hn, hnone⟩ := lostTo_mem fs (a : Int) k n1 (by rw [hL]; simp)
            have hrt := repTxt_grp (fs := fs) (par := par) (g := g) (c := n) (i := i) hg (by omega) (j := j) (by omega)
            obtain ⟨t, ht⟩ := catTo_all h (((i : Int) * g).toNat + j) (by omega)
            rw [hrt] at ht
            unfold txtN at ht
            rw [show ((i : Int) * g + (j : Int)) = n1 by omega, hnone] at ht
            simp only at ht
            rw [show (min (((i : Int) + 1) * g) (n : Int) - (i : Int) * g).toNat = k by omega, ← ha2, hL, if_neg (by simp)] at ht
            cases ht
      omega
    · exact ⟨a, by rw [hs]; omega, by omega⟩
structure RepF (l x : Bs) (par : List Bs) (n : Nat) (bs : List Blk) : Prop where
  blk : blocksB x = some bs
  len : bs.length = n
  surv : ∀ k, k ≤ n → (survL (bs.take k) (findB l)).length = fcount (findB l) k
  lost : n ≤ fcount (findB l) n + par.length
theorem repair_true {l x : Bs} {par : List Bs} {g c : Int} (hok : ∀ n b, firstF (findB l) n = some b → b.ok = true) (h : repairB l par g c = some x) : ∃ (n : Nat) (bs : List Blk), c = n ∧ RepF l x par n bs := by
  unfold repairB at h
  split at h
  case isFalse => cases h
  case isTrue hc =>
  obtain ⟨h1, h2, h3, h4, h5, h6⟩ := hc
  obtain ⟨n, rfl⟩ := Int.eq_ofNat_of_zero_le h4
  rw [Int.toNat_natCast] at h
  cases hcat : catTo (repTxt (findB l) par g n) n with
  | none => rw [hcat] at h; cases h
  | some y =>
    rw [hcat] at h
    simp only at h
    split at h
    case isFalse => cases h
    case isTrue hsome =>
    injection h with h
    subst h
    have hbk : ∀ j, j < n → ∀ t, repTxt (findB l) par g n j = some t → ∃ b : Blk, b.ok = true ∧ b.num = (j : Int) ∧ t = b.text := fun j _ t ht => by
      unfold repTxt at ht
      obtain ⟨b, hb1, hb2, hb3, _⟩ := txtN_is hok ht
      exact ⟨b, hb1, hb2, hb3⟩
    obtain ⟨bs, b1, b2, b3, b4⟩ := catTo_cat hcat hbk
    obtain ⟨cs, hcs⟩ := Option.isSome_iff_exists.1 hsome
    obtain ⟨c1, c2, c3⟩ := blocks_some hcs
    have hbc : bs = cs := catT_inj bs cs (NumOk_mem b1) (NumOk_mem c1) (by rw [b2, c2])
    subst hbc
    have hmem : ∀ j (hj : j < bs.length), ∀ b', firstF (findB l) (j : Int) = some b' → b' = bs[j] := fun j hj b' hb' => by
      have ht := b4 j hj
      unfold repTxt at ht
      obtain ⟨b, hb1, hb2, hb3, hb4⟩ := txtN_is hok ht
      have e1 := hb4 b' hb'
      subst e1
      have hcat1 : catT [b'] = catT [bs[j]] := by
        show b'.text ++ [] = bs[j].text ++ []
        rw [hb3]
      have := catT_inj [b'] [bs[j]] (fun b hb => by simp at hb; rw [hb]; exact hb1) (fun b hb => by simp at hb; rw [hb]; exact (NumOk_at b1 j hj).1) hcat1
      injection this
    refine ⟨n, bs, rfl, hcs, b3, ?_, ?_⟩
    · intro k
      induction k with
      | zero => intro _; simp [survL, fcount]
      | succ k ih =>
        intro hk
        have hkl : k < bs.length := by omega
        have hnum := (NumOk_at b1 k hkl).2
        rw [List.take_succ_eq_append_getElem hkl, survL_snoc, List.length_append, ih (by omega)]
        rw [fcount_succ, hnum]
        simp only [Nat.zero_add]
        cases hf : firstF (findB l) (k : Int) with
        | none => simp
        | some b' => rw [← hmem k hkl b' hf]; simp
    · have hm : (n : Int) ≤ par.length * g := by
        rw [h6]
        have e1 := Int.lt_mul_ediv_self_add (x := (n : Int) + g - 1) (k := g) (by omega)
        rw [Int.mul_comm] at e1
        omega
      obtain ⟨a, ha, hf⟩ := rep_all h2 hm hcat par.length (Nat.le_refl _)
      have : a = n := by omega
      subst this
      exact hf
end Go.Proofs.YtfonokhafdflcaaGreat
