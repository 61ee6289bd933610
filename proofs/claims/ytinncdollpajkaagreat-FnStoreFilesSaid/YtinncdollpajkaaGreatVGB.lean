import Derived.Test.YtinncdollpajkaaGreatVGA
set_option linter.unusedVariables false
set_option linter.unusedSimpArgs false
namespace Go.Proofs.YtinncdollpajkaaGreat
def Blk.inner (b : Blk) : Bs := (if b.raw then 0 else 1) :: (two b.num ++ two b.size ++ two b.body.length ++ b.body)
def Blk.text (b : Blk) : Bs := 181 :: (b.inner ++ two (sumOf b.inner))
theorem Blk.iF (b : Blk) : b.inner.length = 7 + b.body.length := by simp [Blk.inner, two]; omega
theorem Blk.nI (b : Blk) : b.text.length = 10 + b.body.length := by simp [Blk.text, b.iF, two]; omega
theorem Blk.OI {b : Blk} (h : b.ok = true) : 1 ≤ b.body.length ∧ b.body.length ≤ 64 := by
 simp only [Blk.ok, decide_eq_true_eq] at h
 obtain ⟨_, _, h1, h2, h3⟩ := h
 split at h3 <;> omega
def cutAt (l : Bs) (i j : Int) : Bs := (l.drop i.toNat).take (j.toNat - i.toNat)
def y9 (l : Bs) (a : Int) : Blk := ⟨numAt l (a + 2), decide (byteAt l (a + 1) = 0), numAt l (a + 4), cutAt l (a + 8) (a + 8 + numAt l (a + 6))⟩
def yP (l : Bs) (a : Int) : Int := a + 8 + numAt l (a + 6) + 2
def ui (l : Bs) (a : Int) : Bool := decide (0 ≤ a ∧ a + 10 ≤ l.length) && (decide (byteAt l a = 181) && decide (byteAt l (a + 1) ≤ 1))
def yF (l : Bs) (a : Int) : Bool := ui l a && (decide (yP l a ≤ l.length) && ((y9 l a).ok && decide (sumOf (cutAt l (a + 1) (yP l a - 2)) = numAt l (yP l a - 2))))
theorem eu (l : Bs) (i : Int) (h0 : 0 ≤ i) (h1 : i + 2 ≤ l.length) : two (numAt l i) = cutAt l i (i + 2) := by
 obtain ⟨k, rfl⟩ := Int.eq_ofNat_of_zero_le h0
 have hk : k + 1 < l.length := by omega
 unfold cutAt
 rw [show ((k : Int) + 2).toNat - (k : Int).toNat = 2 by omega, Int.toNat_natCast, List.drop_eq_getElem_cons (by omega : k < l.length), List.drop_eq_getElem_cons hk]
 simp only [List.take_succ_cons, List.take_zero]
 unfold two numAt
 have e : ((k : Int) + 1) = ((k + 1 : Nat) : Int) := by omega
 rw [e, zV l k (by omega), zV l (k + 1) hk]
 have h2 := l[k].toNat_lt
 have h3 := l[k + 1].toNat_lt
 congr 1
 ·apply UInt8.toNat_inj.1
  rw [UInt8.toNat_ofNat']; omega
 ·congr 1
  apply UInt8.toNat_inj.1
  rw [UInt8.toNat_ofNat']; omega
theorem SC (l : Bs) (i j : Int) (h0 : 0 ≤ i) (h1 : i ≤ j) (h2 : j ≤ l.length) : ((cutAt l i j).length : Int) = j - i := by
 unfold cutAt; simp; omega
theorem vO (l : Bs) (i j k : Int) (h0 : 0 ≤ i) (h1 : i ≤ j) (h2 : j ≤ k) : cutAt l i j ++ cutAt l j k = cutAt l i k := by
 unfold cutAt
 have e : l.drop j.toNat = (l.drop i.toNat).drop (j.toNat - i.toNat) := by rw [List.drop_drop]; congr 1; omega
 rw [e]
 generalize l.drop i.toNat = m
 have : k.toNat - i.toNat = (j.toNat - i.toNat) + (k.toNat - j.toNat) := by omega
 rw [this, List.take_add]
theorem ZB (l : Bs) (i : Int) (h0 : 0 ≤ i) (h1 : i < l.length) : cutAt l i (i + 1) = [UInt8.ofNat (byteAt l i).toNat] := by
 obtain ⟨k, rfl⟩ := Int.eq_ofNat_of_zero_le h0
 unfold cutAt
 rw [show ((k : Int) + 1).toNat - (k : Int).toNat = 1 by omega, Int.toNat_natCast, List.drop_eq_getElem_cons (by omega : k < l.length)]
 simp only [List.take_succ_cons, List.take_zero]
 rw [zV l k (by omega)]
 simp
theorem QX {l : Bs} {a : Int} (hh : ui l a = true) (he : yP l a ≤ l.length) : (y9 l a).inner = cutAt l (a + 1) (yP l a - 2) := by
 simp only [ui, Bool.and_eq_true, decide_eq_true_eq] at hh
 obtain ⟨⟨h0, h1⟩, h2, h3⟩ := hh
 have hn := xB l (a + 6)
 unfold yP at *
 have e1 : cutAt l (a + 1) (a + 2) = [if decide (byteAt l (a + 1) = 0) = true then 0 else 1] := by
  rw [show a + 2 = a + 1 + 1 by omega, ZB l (a + 1) (by omega) (by omega)]
  have hb := zM l (a + 1)
  by_cases hz : byteAt l (a + 1) = 0
  ·rw [hz]; simp
  ·have : byteAt l (a + 1) = 1 := by omega
   rw [this]; simp
 have e2 := eu l (a + 2) (by omega) (by omega)
 have e3 := eu l (a + 4) (by omega) (by omega)
 have e4 := eu l (a + 6) (by omega) (by omega)
 have hl : (((y9 l a).body.length : Nat) : Int) = numAt l (a + 6) := by
  show (((cutAt l (a + 8) (a + 8 + numAt l (a + 6))).length : Nat) : Int) = _
  rw [SC _ _ _ (by omega) (by omega) (by omega)]; omega
 unfold Blk.inner
 rw [hl]
 show (if decide (byteAt l (a + 1) = 0) = true then 0 else 1) :: (two (numAt l (a + 2)) ++ two (numAt l (a + 4)) ++ two (numAt l (a + 6)) ++ cutAt l (a + 8) (a + 8 + numAt l (a + 6))) = _
 rw [e2, e3, e4]
 rw [show a + 2 + 2 = a + 4 by omega, show a + 4 + 2 = a + 6 by omega, show a + 6 + 2 = a + 8 by omega]
 rw [vO _ _ _ _ (by omega) (by omega) (by omega), vO _ _ _ _ (by omega) (by omega) (by omega), vO _ _ _ _ (by omega) (by omega) (by omega)]
 rw [show ∀ (x : UInt8) (r : Bs), x :: r = [x] ++ r from fun _ _ => rfl, ← e1, vO _ _ _ _ (by omega) (by omega) (by omega)]
 congr 1; omega
theorem PN {a b : Int} (ha : 0 ≤ a ∧ a < 65536) (hb : 0 ≤ b ∧ b < 65536) (h : two a = two b) : a = b := by
 unfold two at h
 injection h with h1 h2
 injection h2 with h2 _
 have h1 := congrArg UInt8.toNat h1
 have h2 := congrArg UInt8.toNat h2
 simp only [UInt8.toNat_ofNat'] at h1 h2
 omega
theorem UW {l : Bs} {a : Int} (hh : ui l a = true) (he : yP l a ≤ l.length) : ((y9 l a).text = cutAt l a (yP l a)) ↔ sumOf (cutAt l (a + 1) (yP l a - 2)) = numAt l (yP l a - 2) := by
 have hi := QX hh he
 simp only [ui, Bool.and_eq_true, decide_eq_true_eq] at hh
 obtain ⟨⟨h0, h1⟩, h2, h3⟩ := hh
 have hn := xB l (a + 6)
 have hen : yP l a = a + 8 + numAt l (a + 6) + 2 := rfl
 unfold Blk.text
 rw [hi]
 have e1 : cutAt l a (a + 1) = [181] := by rw [ZB l a h0 (by omega), h2]; rfl
 have e2 := eu l (yP l a - 2) (by omega) (by omega)
 rw [show yP l a - 2 + 2 = yP l a by omega] at e2
 have e3 : cutAt l a (yP l a) = 181 :: (cutAt l (a + 1) (yP l a - 2) ++ two (numAt l (yP l a - 2))) := by
  rw [e2, vO _ _ _ _ (by omega) (by omega) (by omega)]
  rw [show ∀ (x : UInt8) (r : Bs), x :: r = [x] ++ r from fun _ _ => rfl, ← e1, vO _ _ _ _ (by omega) (by omega) (by omega)]
 rw [e3]
 constructor
 ·intro h
  injection h with _ h
  have h := List.append_cancel_left h
  exact PN (rO _) (by have := xB l (yP l a - 2); omega) h
 ·intro h; rw [h]
theorem VK {l : Bs} {a : Int} (h : yF l a = true) : (y9 l a).text = cutAt l a (yP l a) := by
 simp only [yF, Bool.and_eq_true, decide_eq_true_eq] at h
 exact (UW h.1 h.2.1).2 h.2.2.2
theorem jo {l : Bs} {a : Int} (h : yF l a = true) : 0 ≤ a ∧ a + 10 ≤ yP l a ∧ yP l a ≤ l.length ∧ (y9 l a).ok = true := by
 simp only [yF, ui, Bool.and_eq_true, decide_eq_true_eq] at h
 have hn := xB l (a + 6)
 have hen : yP l a = a + 8 + numAt l (a + 6) + 2 := rfl
 exact ⟨h.1.1.1, by omega, h.2.1, h.2.2.1⟩
def Wx (l : Bs) : Nat → Int → Int
 | 0, _ => -1
 | n + 1, a => if yF l a = true then a else Wx l n (a + 1)
def gG (l : Bs) (a : Int) : Int := if l.length ≤ 8000 ∧ 0 ≤ a then Wx l (l.length - a).toNat a else -1
def YD (l : Bs) : Nat → Int → List (Int × Blk)
 | 0, _ => []
 | n + 1, a => if 0 ≤ a then (a, y9 l a) :: YD l n (gG l (yP l a)) else []
def jL (l : Bs) : List (Int × Blk) := YD l (l.length + 1) (gG l 0)
def zt (bs : List Blk) : Int := bs.foldl (fun n b => n + b.size) 0
def yY (l : Bs) : Nat → Int → List Blk → Option (List Blk)
  | 0, _, _ => none
  | n + 1, a, acc => if (l.length : Int) ≤ a then (if zt acc ≤ 2000 then some acc else none) else
    if yF l a = true ∧ (y9 l a).num = acc.length then yY l n (yP l a) (acc ++ [y9 l a]) else none
def zT (l : Bs) : Option (List Blk) := yY l (l.length + 1) 0 []
def kD (fs : List (Int × Blk)) (n : Int) : Option Blk := (fs.find? fun f => decide (f.2.num = n)).map (·.2)
theorem Wy (p t : Bs) (k : Nat) : byteAt (p ++ t) ((p.length : Int) + k) = byteAt t k := by
 unfold byteAt
 rw [show ((p.length : Int) + k).toNat = p.length + k by omega, show ((k : Int)).toNat = k by omega, List.getElem?_append_right (by omega), Nat.add_sub_cancel_left]
theorem qg (p s : Bs) (c : UInt8) (a : Int) (h : a = p.length) : byteAt (p ++ c :: s) a = c.toNat := by
 subst h
 have := Wy p (c :: s) 0
 simp at this
 rw [this]
 simp [byteAt]
theorem mG (p s : Bs) (n a : Int) (h : a = p.length) (h0 : 0 ≤ n) (h1 : n < 65536) : numAt (p ++ (two n ++ s)) a = n := by
 unfold numAt
 have e1 : p ++ (two n ++ s) = p ++ UInt8.ofNat (n / 256 % 256).toNat :: (UInt8.ofNat (n % 256).toNat :: s) := rfl
 have e2 : p ++ (two n ++ s) = (p ++ [UInt8.ofNat (n / 256 % 256).toNat]) ++ UInt8.ofNat (n % 256).toNat :: s := by simp [two]
 have e3 : byteAt (p ++ (two n ++ s)) (a + 1) = ((UInt8.ofNat (n % 256).toNat).toNat : Int) := by
  rw [e2]; exact qg _ _ _ _ (by subst h; simp)
 have e4 : byteAt (p ++ (two n ++ s)) a = ((UInt8.ofNat (n / 256 % 256).toNat).toNat : Int) := by
  rw [e1]; exact qg _ _ _ _ h
 rw [e3, e4]
 simp only [UInt8.toNat_ofNat']
 omega
theorem ZF (p m s : Bs) (i j : Int) (hi : i = p.length) (hj : j = p.length + m.length) : cutAt (p ++ (m ++ s)) i j = m := by
 subst hi hj
 unfold cutAt
 rw [show ((p.length : Int)).toNat = p.length by omega, List.drop_left' rfl, show ((p.length : Int) + m.length).toNat - p.length = m.length by omega, List.take_left' rfl]
theorem Tu (b : Blk) : b.text = 181 :: (if b.raw then (0 : UInt8) else 1) :: (two b.num ++ (two b.size ++ (two b.body.length ++ (b.body ++ two (sumOf b.inner))))) := by
 simp [Blk.text, Blk.inner]
theorem pR (n : Int) : (two n).length = 2 := rfl
theorem Blk.VN {b : Blk} (h : b.ok = true) : 0 ≤ b.num ∧ b.num < 40 ∧ 1 ≤ b.size ∧ b.size ≤ 64 ∧ 1 ≤ b.body.length ∧ b.body.length ≤ 64 := by
 have h2 := Blk.OI h
 simp only [Blk.ok, decide_eq_true_eq] at h
 exact ⟨h.1, h.2.1, h.2.2.1, h.2.2.2.1, h2.1, h2.2⟩
theorem bQ {b : Blk} (h : b.ok = true) (p s : Bs) (a : Int) (ha : a = p.length) :
  yF (p ++ (b.text ++ s)) a = true ∧ y9 (p ++ (b.text ++ s)) a = b ∧ yP (p ++ (b.text ++ s)) a = p.length + b.text.length := by
 have hb := Blk.VN h
 obtain ⟨hn0, hn1, hs0, hs1, hl0, hl1⟩ := hb
 have hsum := rO b.inner
 generalize hK : (if b.raw then (0 : UInt8) else 1) = K
 have hF : b.text = 181 :: K :: (two b.num ++ (two b.size ++ (two b.body.length ++ (b.body ++ two (sumOf b.inner))))) := by rw [← hK]; exact Tu b
 have hlen := b.nI
 generalize hL : p ++ (b.text ++ s) = l
 have hll : l.length = p.length + (10 + b.body.length) + s.length := by rw [← hL]; simp [hlen]; omega
 have b0 : byteAt l a = 181 := by
  rw [← hL, hF, show p ++ ((181 :: K :: (two b.num ++ (two b.size ++ (two b.body.length ++ (b.body ++ two (sumOf b.inner)))))) ++ s) = p ++ 181 :: (K :: (two b.num ++ (two b.size ++ (two b.body.length ++ (b.body ++ two (sumOf b.inner))))) ++ s) by simp, qg _ _ _ _ ha]; rfl
 have b1 : byteAt l (a + 1) = K.toNat := by
  rw [← hL, hF, show p ++ ((181 :: K :: (two b.num ++ (two b.size ++ (two b.body.length ++ (b.body ++ two (sumOf b.inner)))))) ++ s) = (p ++ [181]) ++ K :: ((two b.num ++ (two b.size ++ (two b.body.length ++ (b.body ++ two (sumOf b.inner))))) ++ s) by simp, qg _ _ _ _ (by simp; omega)]
 have n2 : numAt l (a + 2) = b.num := by
  rw [← hL, hF, show p ++ ((181 :: K :: (two b.num ++ (two b.size ++ (two b.body.length ++ (b.body ++ two (sumOf b.inner)))))) ++ s) = (p ++ [181, K]) ++ (two b.num ++ ((two b.size ++ (two b.body.length ++ (b.body ++ two (sumOf b.inner)))) ++ s)) by simp, mG _ _ _ _ (by simp; omega) (by omega) (by omega)]
 have n4 : numAt l (a + 4) = b.size := by
  rw [← hL, hF, show p ++ ((181 :: K :: (two b.num ++ (two b.size ++ (two b.body.length ++ (b.body ++ two (sumOf b.inner)))))) ++ s) = (p ++ ([181, K] ++ two b.num)) ++ (two b.size ++ ((two b.body.length ++ (b.body ++ two (sumOf b.inner))) ++ s)) by simp, mG _ _ _ _ (by simp [pR]; omega) (by omega) (by omega)]
 have n6 : numAt l (a + 6) = b.body.length := by
  rw [← hL, hF, show p ++ ((181 :: K :: (two b.num ++ (two b.size ++ (two b.body.length ++ (b.body ++ two (sumOf b.inner)))))) ++ s) = (p ++ ([181, K] ++ (two b.num ++ two b.size))) ++ (two b.body.length ++ ((b.body ++ two (sumOf b.inner)) ++ s)) by simp, mG _ _ _ _ (by simp [pR]; omega) (by omega) (by omega)]
 have c8 : cutAt l (a + 8) (a + 8 + b.body.length) = b.body := by
  rw [← hL, hF, show p ++ ((181 :: K :: (two b.num ++ (two b.size ++ (two b.body.length ++ (b.body ++ two (sumOf b.inner)))))) ++ s) = (p ++ ([181, K] ++ (two b.num ++ (two b.size ++ two b.body.length)))) ++ (b.body ++ (two (sumOf b.inner) ++ s)) by simp, ZF _ _ _ _ _ (by simp [pR]; omega) (by simp [pR]; omega)]
 have he : yP l a = a + 10 + b.body.length := by unfold yP; rw [n6]; omega
 have ci : cutAt l (a + 1) (yP l a - 2) = b.inner := by
  rw [he, ← hL, show p ++ (b.text ++ s) = (p ++ [181]) ++ (b.inner ++ (two (sumOf b.inner) ++ s)) by simp [Blk.text]]
  exact ZF _ _ _ _ _ (by simp; omega) (by simp [b.iF]; omega)
 have ns : numAt l (yP l a - 2) = sumOf b.inner := by
  rw [he, ← hL, show p ++ (b.text ++ s) = (p ++ ([181] ++ b.inner)) ++ (two (sumOf b.inner) ++ s) by simp [Blk.text]]
  exact mG _ _ _ _ (by simp [b.iF]; omega) (by omega) (by omega)
 have hB : y9 l a = b := by
  unfold y9
  rw [n2, n4, n6, b1, c8]
  obtain ⟨num, raw, size, body⟩ := b
  simp only at hK ⊢
  subst hK
  cases raw <;> rfl
 refine ⟨?_, hB, by rw [he, hlen]; omega⟩
 unfold yF ui
 rw [hB, ci, ns, h, b0, b1]
 simp only [decide_true, Bool.and_true, Bool.true_and, Bool.and_eq_true, decide_eq_true_eq]
 refine ⟨⟨by omega, by rw [← hK]; split <;> decide⟩, by omega⟩
def wV (bs : List Blk) : Bs := (bs.map Blk.text).flatten
theorem qX (b : Blk) (bs : List Blk) : wV (b :: bs) = b.text ++ wV bs := rfl
theorem Z7 (bs : List Blk) (b : Blk) : wV (bs ++ [b]) = wV bs ++ b.text := by simp [wV]
theorem Uz (bs : List Blk) : 10 * bs.length ≤ (wV bs).length := by
 induction bs with
 | nil => simp [wV]
 | cons b bs ih => rw [qX, List.length_append, b.nI, List.length_cons]; omega
theorem ji (bs : List Blk) (b : Blk) : zt (bs ++ [b]) = zt bs + b.size := by unfold zt; rw [List.foldl_append]; rfl
theorem tN (b : Blk) (bs : List Blk) : zt (b :: bs) = b.size + zt bs := by
 induction bs using yS with
 | h0 => simp [zt]
 | h1 bs c ih => rw [← List.cons_append, ji, ji, ih]; omega
def qi (n : Nat) : List Blk → Prop
 | [] => True
 | b :: bs => b.ok = true ∧ b.num = n ∧ qi (n + 1) bs
theorem jF (l : Bs) : ∀ (bs : List Blk) (m : Nat) (p : Bs) (acc : List Blk), qi acc.length bs → l = p ++ wV bs → bs.length < m →
    yY l m p.length acc = if zt (acc ++ bs) ≤ 2000 then some (acc ++ bs) else none
  | [], m + 1, p, acc, _, hl, _ => by
    unfold yY
    rw [if_pos (by rw [hl]; simp [wV]), List.append_nil]
  | b :: bs, m + 1, p, acc, ⟨hok, hnum, hn⟩, hl, hm => by
    have hl2 : l = p ++ (b.text ++ wV bs) := by rw [hl, qX]
    obtain ⟨h1, h2, h3⟩ := bQ hok p (wV bs) p.length rfl
    rw [← hl2] at h1 h2 h3
    have hpos : ¬ (l.length : Int) ≤ p.length := by rw [hl2]; simp [b.nI]; omega
    unfold yY
    rw [if_neg hpos, if_pos ⟨h1, by rw [h2, hnum]⟩, h2, h3]
    have := jF l bs m (p ++ b.text) (acc ++ [b]) (by simpa using hn) (by rw [hl2]; simp) (by simp at hm; omega)
    rw [show ((p ++ b.text).length : Int) = (p.length : Int) + b.text.length by simp] at this
    rw [this]
    simp
theorem aF {bs : List Blk} (h : qi 0 bs) (hs : zt bs ≤ 2000) : zT (wV bs) = some bs := by
 unfold zT
 have := jF (wV bs) bs ((wV bs).length + 1) [] [] (by simpa using h) (by simp) (by have := Uz bs; omega)
 simp only [List.length_nil, List.nil_append] at this
 rw [show ((0 : Int)) = ((0 : Nat) : Int) from rfl, this, if_pos hs]
theorem WC {bs : List Blk} {b : Blk} {n : Nat} (h : qi n bs) (hb : b.ok = true) (hn : b.num = ((n + bs.length : Nat) : Int)) : qi n (bs ++ [b]) := by
  induction bs generalizing n with
  | nil => exact ⟨hb, by simpa using hn, trivial⟩
  | cons c bs ih =>
    obtain ⟨h1, h2, h3⟩ := h
    exact ⟨h1, h2, ih h3 (by rw [hn, List.length_cons]; congr 1; omega)⟩
theorem nP {bs : List Blk} {n : Nat} (h : qi n bs) (i : Nat) (hi : i < bs.length) : bs[i].ok = true ∧ bs[i].num = ((n + i : Nat) : Int) := by
  induction bs generalizing n i with
  | nil => simp at hi
  | cons c bs ih =>
    obtain ⟨h1, h2, h3⟩ := h
    cases i with
    | zero => exact ⟨h1, by simpa using h2⟩
    | succ i =>
      have hi2 : i < bs.length := by simpa using hi
      have := ih h3 i hi2
      refine ⟨this.1, ?_⟩
      show (bs[i]'hi2).num = _
      rw [this.2]; congr 1; omega
theorem lI (l : Bs) : ∀ (m : Nat) (a : Nat) (acc bs : List Blk), qi 0 acc → wV acc = l.take a → a ≤ l.length → yY l m a acc = some bs → qi 0 bs ∧ wV bs = l ∧ zt bs ≤ 2000
  | 0, _, _, _, _, _, _, h => by unfold yY at h; cases h
  | m + 1, a, acc, bs, hn, hc, ha, h => by
    unfold yY at h
    split at h
    case isTrue h1 =>
      split at h
      case isTrue h2 =>
        injection h with h
        subst h
        exact ⟨hn, by rw [hc, List.take_of_length_le (by omega)], h2⟩
      case isFalse => cases h
    case isFalse h1 =>
      split at h
      case isTrue h2 =>
        obtain ⟨hp, hq⟩ := h2
        obtain ⟨p1, p2, p3, p4⟩ := jo hp
        have ht := VK hp
        obtain ⟨e, he⟩ := Int.eq_ofNat_of_zero_le (by omega : 0 ≤ yP l a)
        rw [he] at h ht p2 p3
        refine lI l m e _ bs (WC hn p4 (by rw [hq]; simp)) ?_ (by omega) h
        rw [Z7, hc, ht]
        unfold cutAt
        simp only [Int.toNat_natCast]
        rw [show l.take e = l.take (a + (e - a)) by congr 1; omega, List.take_add]
      case isFalse => cases h
theorem oU {l : Bs} {bs : List Blk} (h : zT l = some bs) : qi 0 bs ∧ wV bs = l ∧ zt bs ≤ 2000 :=
 lI l _ 0 [] bs trivial (by simp [wV]) (by omega) h
theorem Un {b : Blk} (h : b.ok = true) : b.text.length ≤ 74 := by
 have := Blk.VN h
 rw [b.nI]; omega
theorem U1 {bs : List Blk} (h : qi 0 bs) : bs.length ≤ 40 := by
 rcases Nat.lt_or_ge 40 bs.length with hlt | hge
 ·have := nP h 40 hlt
  have h2 := (Blk.VN this.1).2.1
  rw [this.2] at h2
  omega
 ·exact hge
theorem Oc (bs : List Blk) (h : ∀ b ∈ bs, b.ok = true) : (wV bs).length ≤ 74 * bs.length := by
  induction bs with
  | nil => simp [wV]
  | cons b bs ih =>
    rw [qX, List.length_append, List.length_cons]
    have h1 := Un (h b (by simp))
    have h2 := ih (fun c hc => h c (by simp [hc]))
    omega
theorem iT {bs : List Blk} {n : Nat} (h : qi n bs) : ∀ b ∈ bs, b.ok = true := by
 intro b hb
 obtain ⟨i, hi, rfl⟩ := List.getElem_of_mem hb
 exact (nP h i hi).1
theorem wE {l : Bs} {bs : List Blk} (h : zT l = some bs) : l.length ≤ 2960 ∧ bs.length ≤ 40 := by
 obtain ⟨h1, rfl, h3⟩ := oU h
 have h4 := U1 h1
 have h5 := Oc bs (iT h1)
 omega
theorem Va {l : Bs} {a : Int} (h0 : 0 ≤ a) (hl : l.length ≤ 8000) (h : yF l a = true) : gG l a = a := by
 have hp := jo h
 unfold gG
 rw [if_pos ⟨hl, h0⟩, show (l.length - a).toNat = (l.length - a - 1).toNat + 1 by omega]
 unfold Wx
 rw [if_pos h]
theorem U5 {l : Bs} {a : Int} (h : (l.length : Int) ≤ a) : gG l a = -1 := by
 unfold gG
 split
 ·rw [show (l.length - a).toNat = 0 by omega]; rfl
 ·rfl
def kP : Nat → List Blk → List (Int × Blk)
 | _, [] => []
 | a, b :: bs => ((a : Int), b) :: kP (a + b.text.length) bs
theorem dm (l : Bs) (hl : l.length ≤ 8000) : ∀ (bs : List Blk) (m : Nat) (p : Bs), (∀ b ∈ bs, b.ok = true) → l = p ++ wV bs → bs.length < m →
    YD l m (gG l p.length) = kP p.length bs
  | [], m + 1, p, _, he, _ => by
    have : gG l p.length = -1 := U5 (by rw [he]; simp [wV])
    rw [this]; rfl
  | b :: bs, m + 1, p, hok, he, hm => by
    have hl2 : l = p ++ (b.text ++ wV bs) := by rw [he, qX]
    obtain ⟨h1, h2, h3⟩ := bQ (hok b (by simp)) p (wV bs) p.length rfl
    rw [← hl2] at h1 h2 h3
    rw [Va (by omega) hl h1]
    unfold YD
    rw [if_pos (by omega), h2, h3]
    have := dm l hl bs m (p ++ b.text) (fun c hc => hok c (by simp [hc])) (by rw [hl2]; simp) (by simp at hm; omega)
    rw [show ((p ++ b.text).length : Int) = (p.length : Int) + b.text.length by simp] at this
    rw [this]
    simp [kP]
theorem Qv {bs : List Blk} (h : ∀ b ∈ bs, b.ok = true) (hl : (wV bs).length ≤ 8000) : jL (wV bs) = kP 0 bs := by
 unfold jL
 have := dm (wV bs) hl bs ((wV bs).length + 1) [] h (by simp) (by have := Uz bs; omega)
 simpa using this
theorem lC : ∀ (bs : List Blk) (a : Nat) (n : Int), kD (kP a bs) n = bs.find? fun b => decide (b.num = n)
  | [], _, _ => rfl
  | b :: bs, a, n => by
    have ih := lC bs (a + b.text.length) n
    unfold kD at *
    unfold kP
    rw [List.find?_cons, List.find?_cons]
    by_cases h : b.num = n
    · simp [h]
    · simp only [h, decide_false]
      exact ih
deriving instance DecidableEq for Blk
def dN (bs : List Blk) (fs : List (Int × Blk)) : List Int := (bs.filter fun b => decide (kD fs b.num = some b)).map (·.num)
theorem VC (bs : List Blk) (b : Blk) (fs : List (Int × Blk)) : dN (bs ++ [b]) fs = dN bs fs ++ (if kD fs b.num = some b then [b.num] else []) := by
 unfold dN
 rw [List.filter_append, List.map_append]
 by_cases h : kD fs b.num = some b <;> simp [h]
def Oj (l d : Bs) : List Int := match zT l with
 | some bs => dN bs (jL d)
 | none => []
end Go.Proofs.YtinncdollpajkaaGreat
namespace Go.Proofs.YtinncdollpajkaaGreat
open Go.RowKit
structure Nk (bs : List Blk) (n : Nat) (fs : List (Int × Blk)) : Prop where
 len : fs.length + 1 = bs.length
 at_ : ∀ (i : Nat) (h : i < fs.length), fs[i].1 = ((wV (bs.take (if n ≤ i then i + 1 else i))).length : Int)
 O5 : (dN bs fs).length = fs.length
end Go.Proofs.YtinncdollpajkaaGreat
namespace Go.Proofs.YtinncdollpajkaaGreat
def WR (fs : List (Int × Blk)) : Nat → Nat
 | 0 => 0
 | k + 1 => WR fs k + if (kD fs (k : Int)).isSome = true then 1 else 0
structure Nl (l x : Bs) (par : List Bs) (n : Nat) (bs : List Blk) : Prop where
 blk : zT x = some bs
 len : bs.length = n
 O5 : ∀ k, k ≤ n → (dN (bs.take k) (jL l)).length = WR (jL l) k
 lost : n ≤ WR (jL l) n + par.length
end Go.Proofs.YtinncdollpajkaaGreat
