/- Plain: bytes without markers between blocks do not matter. -/
import Derived.Test.YtfonokhafdflcaaGreatP15
import Derived.Test.YtfonokhafdflcaaGreatGU1
namespace Go.Proofs.YtfonokhafdflcaaGreat
open Go.RowKit
set_option linter.unusedSimpArgs false
set_option linter.unusedVariables false
def jk (q : Nat) : Bs := List.replicate q 120
def jx (q : Nat) (bs : List Blk) : Bs := bs.flatMap fun b => jk q ++ b.text
theorem jk_length (q : Nat) : (jk q).length = q := by simp [jk]
theorem jx_cons (q : Nat) (b : Blk) (bs : List Blk) : jx q (b :: bs) = jk q ++ (b.text ++ jx q bs) := by simp [jx]
theorem jx_snoc (q : Nat) (b : Blk) (bs : List Blk) : jx q (bs ++ [b]) = jx q bs ++ jk q ++ b.text := by simp [jx]
theorem jx_len (q : Nat) (bs : List Blk) (h : ∀ b ∈ bs, b.ok = true) : (jx q bs).length ≤ (74 + q) * bs.length := by
  induction bs with
  | nil => simp [jx]
  | cons b bs ih =>
    rw [jx_cons, List.length_append, List.length_append, jk_length, List.length_cons]
    have h1 := text_le (h b (by simp))
    have h2 := ih (fun c hc => h c (by simp [hc]))
    rw [Nat.mul_add]
    omega
theorem jx_ge (q : Nat) (bs : List Blk) : bs.length ≤ (jx q bs).length := by
  induction bs with
  | nil => simp
  | cons b bs ih => rw [jx_cons, List.length_append, List.length_append, b.text_len, List.length_cons]; omega
def withJ (q : Nat) : Nat → List Blk → List (Int × Blk)
  | _, [] => []
  | a, b :: bs => (((a + q : Nat) : Int), b) :: withJ q (a + q + b.text.length) bs
theorem withJ_length (q : Nat) (bs : List Blk) (a : Nat) : (withJ q a bs).length = bs.length := by
  induction bs generalizing a with
  | nil => rfl
  | cons b bs ih => simp [withJ, ih]
theorem withJ_snd (q : Nat) (bs : List Blk) (a : Nat) : (withJ q a bs).map (·.2) = bs := by
  induction bs generalizing a with
  | nil => rfl
  | cons b bs ih => simp [withJ, ih]
theorem withJ_at (q : Nat) (bs : List Blk) (a i : Nat) (h : i < (withJ q a bs).length) : (withJ q a bs)[i].1 = (a : Int) + ((catT (bs.take i)).length : Int) + ((i : Int) + 1) * q := by
  induction bs generalizing a i with
  | nil => simp [withJ] at h
  | cons b bs ih =>
    cases i with
    | zero => simp [withJ, catT]
    | succ i =>
      have := ih (a + q + b.text.length) i (by simp [withJ] at h; exact h)
      simp only [withJ, List.getElem_cons_succ, List.take_succ_cons, catT_cons, List.length_append]
      have e : ((i + 1 : Nat) : Int) + 1 = ((i : Int) + 1) + 1 := by omega
      rw [this, e, Int.add_mul ((i : Int) + 1) 1]
      generalize ((i : Int) + 1) * (q : Int) = z
      omega
theorem nextB_one {l : Bs} {a : Nat} (h : byteAt l a ≠ 181) : nextB l a = nextB l ((a + 1 : Nat) : Int) := by
  unfold nextB
  by_cases hl : l.length ≤ 8000
  · rw [if_pos ⟨hl, by omega⟩, if_pos ⟨hl, by omega⟩]
    by_cases ha : a < l.length
    · rw [show ((l.length : Int) - (a : Int)).toNat = ((l.length : Int) - ((a + 1 : Nat) : Int)).toNat + 1 by omega]
      conv => lhs; unfold nextGo
      rw [if_neg (by unfold parseOk headOk; simp [h])]
      simp
    · rw [show ((l.length : Int) - (a : Int)).toNat = 0 by omega, show ((l.length : Int) - ((a + 1 : Nat) : Int)).toNat = 0 by omega]
      rfl
  · rw [if_neg (fun h => hl h.1), if_neg (fun h => hl h.1)]
theorem nextB_skipJ {l : Bs} (q : Nat) : ∀ (a : Nat), (∀ i : Nat, a ≤ i → i < a + q → byteAt l i ≠ 181) → nextB l a = nextB l ((a + q : Nat) : Int) := by
  induction q with
  | zero => intro a _; rfl
  | succ q ih =>
    intro a h
    rw [nextB_one (h a (by omega) (by omega)), ih (a + 1) (fun i h0 h1 => h i (by omega) (by omega)), show a + 1 + q = a + (q + 1) by omega]
theorem byteAt_jk (p s : Bs) (q i : Nat) (h0 : p.length ≤ i) (h1 : i < p.length + q) : byteAt (p ++ (jk q ++ s)) i ≠ 181 := by
  have hl : i < (p ++ (jk q ++ s)).length := by simp [jk_length]; omega
  rw [byteAt_get _ i hl, List.getElem_append_right h0, List.getElem_append_left (by rw [jk_length]; omega)]
  unfold jk
  rw [List.getElem_replicate]
  decide
theorem findGo_junk (q : Nat) (l : Bs) (hl : l.length ≤ 8000) : ∀ (bs : List Blk) (m : Nat) (p : Bs), (∀ b ∈ bs, b.ok = true) → l = p ++ (jx q bs ++ jk q) → bs.length < m →
    findGo l m (nextB l p.length) = withJ q p.length bs
  | [], m + 1, p, _, he, _ => by
    have h1 : nextB l p.length = nextB l ((p.length + q : Nat) : Int) := nextB_skipJ q _ (fun i h0 h1 => by
      have he2 : l = p ++ (jk q ++ []) := by rw [he]; simp [jx]
      rw [he2]; exact byteAt_jk p [] q i h0 h1)
    have : nextB l p.length = -1 := by rw [h1]; exact nextB_end (by rw [he]; simp [jx, jk_length])
    rw [this]; rfl
  | b :: bs, m + 1, p, hok, he, hm => by
    have hj : l = p ++ (jk q ++ (b.text ++ (jx q bs ++ jk q))) := by rw [he, jx_cons]; simp
    have hl2 : l = (p ++ jk q) ++ (b.text ++ (jx q bs ++ jk q)) := by rw [hj]; simp
    have h1 : nextB l p.length = nextB l ((p.length + q : Nat) : Int) := nextB_skipJ q _ (fun i h0 h1 => by rw [hj]; exact byteAt_jk p _ q i h0 h1)
    have hpq : (p ++ jk q).length = p.length + q := by simp [jk_length]
    obtain ⟨h2, h3, h4⟩ := parse_self (hok b (by simp)) (p ++ jk q) (jx q bs ++ jk q) (p ++ jk q).length rfl
    rw [← hl2, hpq] at h2 h3 h4
    rw [h1, nextB_here (by omega) hl h2]
    unfold findGo
    rw [if_pos (by omega), h3, h4]
    have := findGo_junk q l hl bs m (p ++ jk q ++ b.text) (fun c hc => hok c (by simp [hc])) (by rw [hl2]; simp) (by simp at hm; omega)
    have e : (p ++ jk q ++ b.text).length = p.length + q + b.text.length := by simp [jk_length]; omega
    rw [e] at this
    rw [show ((p.length + q : Nat) : Int) + b.text.length = ((p.length + q + b.text.length : Nat) : Int) by omega, this]
    rfl
theorem find_junk (q : Nat) {bs : List Blk} (h : ∀ b ∈ bs, b.ok = true) (hl : (jx q bs ++ jk q).length ≤ 8000) : findB (jx q bs ++ jk q) = withJ q 0 bs := by
  unfold findB
  have := findGo_junk q (jx q bs ++ jk q) hl bs ((jx q bs ++ jk q).length + 1) [] h (by simp) (by have := jx_ge q bs; simp; omega)
  simpa using this
theorem firstF_snd {fs gs : List (Int × Blk)} (h : fs.map (·.2) = gs.map (·.2)) (n : Int) : firstF fs n = firstF gs n := by
  have key : ∀ fs : List (Int × Blk), firstF fs n = (fs.map (·.2)).find? (fun b => decide (b.num = n)) := by
    intro fs
    unfold firstF
    induction fs with
    | nil => rfl
    | cons f fs ih =>
      rw [List.find?_cons, List.map_cons, List.find?_cons]
      split
      · rfl
      · exact ih
  rw [key, key, h]
theorem pcsB_snd (o l m : Int) (dict t u : Bs) (h : (findB t).map (·.2) = (findB u).map (·.2)) : pcsB o l m dict t = pcsB o l m dict u := by
  unfold pcsB pcTo
  have : (fun n : Nat => pcOf (startW o l m dict) (findB t) (n : Int)) = fun n : Nat => pcOf (startW o l m dict) (findB u) (n : Int) := by
    funext n
    unfold pcOf
    rw [firstF_snd h]
  rw [this]
theorem pcsB_junk (o l m : Int) (dict : Bs) (q : Nat) (hq : q ≤ 100) {t : Bs} {bs : List Blk} (hB : blocksB t = some bs) : pcsB o l m dict (jx q bs ++ jk q) = pcsB o l m dict t ∧ findB (jx q bs ++ jk q) = withJ q 0 bs := by
  have hok := NumOk_mem (blocks_some hB).1
  have hsh := blocks_short hB
  have hlen := jx_len q bs hok
  have hl : (jx q bs ++ jk q).length ≤ 8000 := by
    rw [List.length_append, jk_length]
    have : (74 + q) * bs.length ≤ 174 * 40 := Nat.mul_le_mul (by omega) hsh.2
    omega
  have h1 := find_junk q hok hl
  refine ⟨pcsB_snd o l m dict _ _ ?_, h1⟩
  have h2 := find_cat hok (by rw [(blocks_some hB).2.1]; omega)
  rw [(blocks_some hB).2.1] at h2
  rw [h1, h2, withJ_snd, withAt_snd]
end Go.Proofs.YtfonokhafdflcaaGreat
