import Derived.Test.YtinncdollpajkaaGreatYQ14
import Derived.Test.YtinncdollpajkaaGreatYGR
import Derived.Lib.ItoaLen
import Derived.Test.YtinncdollpajkaaGreatYGB
set_option linter.unusedVariables false
set_option linter.unusedSimpArgs false
namespace Go.Proofs.YtinncdollpajkaaGreat
open Go.RowKit
theorem XF (x : OpR) : x.fmt.length ≤ 9000 := by
 obtain ⟨k, f, t, s, nm, d⟩ := x
 unfold OpR.fmt xA
 simp only
 split
 ·rename_i h
  obtain ⟨h1, h2, h3⟩ := h
  have a := sV h1
  have b1 := Lib.itoa_length_le s (by omega) (by omega)
  have c := lL d
  have e := lY (sD d)
  split
  ·simp; omega
  split
  ·simp; omega
  split
  ·have b2 := Lib.itoa_length_le f (by omega) (by omega)
   have b3 := Lib.itoa_length_le t (by omega) (by omega)
   simp; omega
  split
  ·simp; omega
  ·simp; omega
 ·simp
theorem VL {x : OpR} (h : x.ok) : xw x.fmt = some x := by
 unfold xw
 rw [OpR.jv h, au 32 _ x.XJ (OpR.OC h), OpR.PS h]
 simp [h]
theorem SL {t : Bs} {x : OpR} (h : xw t = some x) : x.ok ∧ x.fmt = t := by
  unfold xw at h
  cases hi : wM (cut 32 t) with
  | none => rw [hi] at h; cases h
  | some y =>
    rw [hi] at h
    simp only at h
    split at h
    · rename_i hy
      injection h with h
      subst h
      exact ⟨hy, by rw [OpR.jv hy, PY hi, bf]⟩
    · cases h
theorem dV {L : Bs} {a : Nat} {n : Int} (h0 : 0 ≤ n) (h1 : n < 65536) (h : (L.drop a).take 2 = two n) (ha : a + 1 < L.length) : numAt L a = n := by
 have hb := xx L a
 exact Xx (by omega) (by omega) h0 h1 ((two_bytes L a ha).trans h)
def vC (x : OpR) : Bs := vS x.fmt
theorem jP (T : Bs) : (vS T).length = T.length + 4 := by unfold vS; simp [uH]; omega
theorem fU (x : OpR) : 4 ≤ (vC x).length ∧ (vC x).length ≤ 9004 := by
 have := jP x.fmt
 have := XF x
 unfold vC; omega
theorem Zv {x : OpR} (hx : x.ok) (p s : Bs) : yM (p ++ (vC x ++ s)) p.length = some (x, (p.length : Int) + (vC x).length) := by
 have hT := XF x
 have hpx := VL hx
 have hl := jP x.fmt
 unfold vC
 generalize x.fmt = T at *
 have hL : (p ++ (vS T ++ s)).length = p.length + (T.length + 4) + s.length := by simp [hl]; omega
 have hd : (p ++ (vS T ++ s)).drop p.length = vS T ++ s := by simp
 have h2 : ((p ++ (vS T ++ s)).drop p.length).take 2 = two (T.length : Int) := by
  rw [hd]
  unfold vS
  rw [List.append_assoc, List.append_assoc, List.take_append_of_le_length (by rw [uH]; omega), List.take_of_length_le (by rw [uH]; omega)]
 have hn := dV (L := p ++ (vS T ++ s)) (a := p.length) (n := (T.length : Int)) (by omega) (by omega) h2 (by omega)
 have hdr : (p ++ (vS T ++ s)).drop (p.length + 2) = T ++ (two (sumOf T) ++ s) := by
  rw [← List.drop_drop, hd]
  unfold vS
  rw [List.append_assoc, List.append_assoc, List.drop_append_of_le_length (by rw [uH]; omega), List.drop_of_length_le (by rw [uH]; omega)]
  simp
 have hr : oJ (p ++ (vS T ++ s)) p.length = T := by
  unfold oJ
  rw [hn, hdr]
  simp
 have h3 : ((p ++ (vS T ++ s)).drop (p.length + 2 + T.length)).take 2 = two (sumOf T) := by
  rw [← List.drop_drop, hdr, List.drop_left, List.take_append_of_le_length (by rw [uH]; omega), List.take_of_length_le (by rw [uH]; omega)]
 have hsb := ry T
 have hs := dV (L := p ++ (vS T ++ s)) (a := p.length + 2 + T.length) (n := sumOf T) hsb.1 hsb.2 h3 (by omega)
 have e3 : ((p.length + 2 + T.length : Nat) : Int) = (p.length : Int) + 2 + T.length := by omega
 rw [e3] at hs
 unfold yM
 rw [Int.toNat_natCast, hn, hr, hpx, if_pos ⟨by omega, by omega, by omega⟩]
 simp only
 rw [if_pos hs.symm, hl]
 congr 2
 omega
theorem rq {l : Bs} {a : Int} {x : OpR} {e : Int} (h : yM l a = some (x, e)) : ∃ n : Nat, a = n ∧ x.ok ∧ e = (n : Int) + (vC x).length ∧ n + (vC x).length ≤ l.length ∧ (l.drop n).take (vC x).length = vC x := by
  unfold yM at h
  split at h
  · rename_i hc
    obtain ⟨h0, h1, h2⟩ := hc
    obtain ⟨n, rfl⟩ := Int.eq_ofNat_of_zero_le h0
    rw [Int.toNat_natCast] at h
    cases hp : xw (oJ l n) with
    | none => rw [hp] at h; cases h
    | some y =>
      rw [hp] at h
      simp only at h
      split at h
      · rename_i hs
        injection h with h
        injection h with hxy he
        subst hxy
        obtain ⟨hok, hf⟩ := SL hp
        have hb := xx l n
        have hle : n + 4 + (numAt l n).toNat ≤ l.length := by omega
        have hrl := fV l n hle
        have hrt := (Xi l n hle).2 hs
        have hlen : (vC y).length = 4 + (numAt l n).toNat := by unfold vC; rw [jP, hf, hrl]; omega
        refine ⟨n, rfl, hok, by omega, by omega, ?_⟩
        rw [hlen, ← hrt]
        unfold vC
        rw [hf]
      · cases h
  · cases h
theorem iV {l : Bs} {n : Nat} {x : OpR} (hx : x.ok) (hl : n + (vC x).length ≤ l.length) (h : (l.drop n).take (vC x).length = vC x) : yM l n = some (x, (n : Int) + (vC x).length) := by
 have e : l = l.take n ++ (vC x ++ l.drop (n + (vC x).length)) := by
  conv => lhs; rw [← List.take_append_drop n l, ← List.take_append_drop (vC x).length (l.drop n), h, List.drop_drop]
 have hn : (l.take n).length = n := by rw [List.length_take]; omega
 have := Zv hx (l.take n) (l.drop (n + (vC x).length))
 rw [← e, hn] at this
 exact this
theorem pO {l : Bs} {k : Nat} (hk : k ≤ l.length) {a : Int} {x : OpR} {e : Int} : yM (l.take k) a = some (x, e) ↔ yM l a = some (x, e) ∧ e ≤ k := by
 constructor
 ·intro h
  obtain ⟨n, rfl, hok, rfl, h1, h2⟩ := rq h
  rw [List.length_take, Nat.min_eq_left hk] at h1
  refine ⟨iV hok (by omega) ?_, by omega⟩
  rw [List.drop_take, List.take_take, Nat.min_eq_left (by omega)] at h2
  exact h2
 ·rintro ⟨h, hek⟩
  obtain ⟨n, rfl, hok, rfl, h1, h2⟩ := rq h
  refine iV hok (by rw [List.length_take]; omega) ?_
  rw [List.drop_take, List.take_take, Nat.min_eq_left (by omega)]
  exact h2
theorem nO {l : Bs} {a : Int} {x : OpR} {e : Int} (h : yM l a = some (x, e)) : 0 ≤ a ∧ a + 4 ≤ e ∧ e ≤ l.length := by
 obtain ⟨n, rfl, hok, rfl, h1, h2⟩ := rq h
 have := fU x
 omega
def uP : Nat → Sto → Bs → Int → Sto × Int
  | 0, S, _, a => (S, a)
  | n + 1, S, l, a => match yM l a with
    | none => (S, a)
    | some (x, e) => match apO S x with
      | none => (S, a)
      | some T => uP n T l e
theorem ZH {n : Nat} {S : Sto} {l : Bs} {a : Int} (h : yM l a = none) : uP n S l a = (S, a) := by
 cases n with
 | zero => rfl
 | succ n => unfold uP; rw [h]
theorem Zx {n : Nat} {S : Sto} {l : Bs} {a : Int} {x : OpR} {e : Int} (h : yM l a = some (x, e)) (h2 : apO S x = none) : uP n S l a = (S, a) := by
 cases n with
 | zero => rfl
 | succ n => unfold uP; rw [h]; simp only; rw [h2]
theorem YW {n : Nat} {S T : Sto} {l : Bs} {a : Int} {x : OpR} {e : Int} (h : yM l a = some (x, e)) (h2 : apO S x = some T) : uP (n + 1) S l a = uP n T l e := by
 conv => lhs; unfold uP
 rw [h]; simp only; rw [h2]
inductive Chain (l : Bs) : Sto → Nat → List OpR → Sto → Nat → Prop
 | nil (S : Sto) (a : Nat) : Chain l S a [] S a
 | cons {S T U : Sto} {a b c : Nat} {x : OpR} {xs : List OpR} (h1 : yM l a = some (x, (b : Int))) (h2 : apO S x = some T) (h3 : Chain l T b xs U c) : Chain l S a (x :: xs) U c
def Xv (l : Bs) (S : Sto) (a : Nat) : Prop := ∀ x e, yM l a = some (x, e) → apO S x = none
theorem gU : ∀ (n : Nat) (S : Sto) (l : Bs) (a : Nat), (l.length : Int) < (a : Int) + n → ∃ (xs : List OpR) (b : Nat), (uP n S l a).2 = (b : Int) ∧ Chain l S a xs (uP n S l a).1 b ∧ Xv l (uP n S l a).1 b
  | 0, S, l, a, h => ⟨[], a, rfl, .nil S a, fun x e hr => by have := nO hr; omega⟩
  | n + 1, S, l, a, hn => by
    cases hr : yM l a with
    | none => rw [ZH hr]; exact ⟨[], a, rfl, .nil S a, fun x e h => by rw [hr] at h; cases h⟩
    | some p =>
      obtain ⟨x, e⟩ := p
      have hp := nO hr
      cases ha : apO S x with
      | none => rw [Zx hr ha]; exact ⟨[], a, rfl, .nil S a, fun y e' h => by rw [hr] at h; injection h with h; injection h with h; rw [← h]; exact ha⟩
      | some T =>
        rw [YW hr ha]
        obtain ⟨b, rfl⟩ := Int.eq_ofNat_of_zero_le (by omega : 0 ≤ e)
        obtain ⟨xs, c, h1, h2, h3⟩ := gU n T l b (by omega)
        exact ⟨x :: xs, c, h1, .cons hr ha h2, h3⟩
theorem Chain.bd {l : Bs} {S T : Sto} {a b : Nat} {xs : List OpR} (h : Chain l S a xs T b) : a + 4 * xs.length ≤ b ∧ (a ≤ l.length → b ≤ l.length) := by
  induction h with
  | nil => simp
  | cons h1 h2 h3 ih =>
    have := nO h1
    exact ⟨by rw [List.length_cons]; omega, fun _ => ih.2 (by omega)⟩
theorem Chain.append {l : Bs} {S T U : Sto} {a b c : Nat} {xs ys : List OpR} (h : Chain l S a xs T b) (h2 : Chain l T b ys U c) : Chain l S a (xs ++ ys) U c := by
 induction h with
 | nil => exact h2
 | cons h1 h3 h4 ih => exact .cons h1 h3 (ih h2)
theorem Chain.take {l : Bs} {S T : Sto} {a b k : Nat} {xs : List OpR} (h : Chain l S a xs T b) (hk : k ≤ l.length) (hb : b ≤ k) : Chain (l.take k) S a xs T b := by
 induction h with
 | nil S a => exact .nil S a
 | cons h1 h2 h3 ih => exact .cons ((pO hk).2 ⟨h1, by have := h3.bd.1; omega⟩) h2 (ih hb)
theorem Chain.Oq {l : Bs} {S T : Sto} {a b k : Nat} {xs : List OpR} (hk : k ≤ l.length) (h : Chain (l.take k) S a xs T b) : Chain l S a xs T b := by
 induction h with
 | nil S a => exact .nil S a
 | cons h1 h2 h3 ih => exact .cons ((pO hk).1 h1).1 h2 ih
theorem Xv.take {l : Bs} {T : Sto} {b k : Nat} (hk : k ≤ l.length) (h : Xv l T b) : Xv (l.take k) T b := fun x e hr => h x e ((pO hk).1 hr).1
theorem Chain.okS {l : Bs} {S T : Sto} {a b : Nat} {xs : List OpR} (h : Chain l S a xs T b) (hS : S.ok) : T.ok ∧ T.o = S.o ∧ T.l = S.l ∧ T.m = S.m ∧ T.dict = S.dict := by
  induction h with
  | nil => exact ⟨hS, rfl, rfl, rfl, rfl⟩
  | cons h1 h2 h3 ih =>
    obtain ⟨n, _, hok, _⟩ := rq h1
    have hF := Xb hS hok h2
    obtain ⟨i1, i2, i3, i4, i5⟩ := ih hF.ok
    exact ⟨i1, i2.trans hF.o, i3.trans hF.l, i4.trans hF.m, i5.trans hF.dict⟩
def YN (o l m : Int) (dict : Bs) : Sto := ⟨o, l, m, dict, []⟩
theorem Us {o l m : Int} {dict : Bs} (h : fits o l m dict) : (YN o l m dict).ok := ⟨h, by simp [YN], fun i hi => by simp [YN] at hi⟩
def mV (o l m : Int) (dict log : Bs) : Option (Sto × Int) := if fits o l m dict ∧ log.length ≤ 30000 then some (uP (log.length + 1) (YN o l m dict) log 0) else none
structure RpF (o l m : Int) (dict log : Bs) (T : Sto) (b : Nat) (xs : List OpR) : Prop where
 fit : fits o l m dict
 short : log.length ≤ 30000
 chain : Chain log (YN o l m dict) 0 xs T b
 stuck : Xv log T b
 le : b ≤ log.length
theorem Zz {o l m : Int} {dict log : Bs} {T : Sto} {n : Int} (h : mV o l m dict log = some (T, n)) : ∃ (b : Nat) (xs : List OpR), n = b ∧ RpF o l m dict log T b xs := by
 unfold mV at h
 split at h
 ·rename_i hc
  injection h with h
  obtain ⟨xs, b, h1, h2, h3⟩ := gU (log.length + 1) (YN o l m dict) log 0 (by omega)
  rw [show ((0 : Nat) : Int) = 0 from rfl, h] at h1 h2 h3
  simp only at h1 h2 h3
  exact ⟨b, xs, h1, hc.1, hc.2, h2, h3, h2.bd.2 (by omega)⟩
 ·cases h
theorem RpF.ok {o l m : Int} {dict log : Bs} {T : Sto} {b : Nat} {xs : List OpR} (h : RpF o l m dict log T b xs) : T.ok ∧ T.o = o ∧ T.l = l ∧ T.m = m ∧ T.dict = dict := h.chain.okS (Us h.fit)
def UH (a : Nat) : List OpR → List Nat
 | [] => []
 | x :: xs => (a + (vC x).length) :: UH (a + (vC x).length) xs
theorem Chain.next {l : Bs} {S T : Sto} {a b : Nat} {x : OpR} {xs : List OpR} (h : Chain l S a (x :: xs) T b) : ∃ U, yM l a = some (x, ((a + (vC x).length : Nat) : Int)) ∧ apO S x = some U ∧ Chain l U (a + (vC x).length) xs T b := by
  cases h with
  | cons h1 h2 h3 =>
    obtain ⟨n, hn, hok, he, _⟩ := rq h1
    obtain rfl := Int.ofNat_inj.1 hn
    obtain rfl := Int.ofNat_inj.1 (he.trans (by push_cast; rfl))
    exact ⟨_, h1, h2, h3⟩
theorem Chain.split {l : Bs} {S T : Sto} {a b : Nat} {xs : List OpR} (h : Chain l S a xs T b) : ∀ i, i ≤ xs.length → ∃ U c, Chain l S a (xs.take i) U c ∧ Chain l U c (xs.drop i) T b ∧ (a :: UH a xs)[i]? = some c := by
  induction xs generalizing S a with
  | nil => intro i hi; have : i = 0 := by simpa using hi
           subst this; exact ⟨S, a, .nil S a, h, rfl⟩
  | cons x xs ih =>
    intro i hi
    cases i with
    | zero => exact ⟨S, a, .nil S a, h, rfl⟩
    | succ i =>
      obtain ⟨V, h1, h2, h3⟩ := h.next
      obtain ⟨U, c, k1, k2, k3⟩ := ih h3 i (by simpa using hi)
      exact ⟨U, c, .cons h1 h2 k1, k2, by simpa [UH] using k3⟩
theorem Chain.end {l : Bs} {S T : Sto} {a b : Nat} {xs : List OpR} (h : Chain l S a xs T b) : (a :: UH a xs)[xs.length]? = some b := by
 obtain ⟨U, c, k1, k2, k3⟩ := h.split xs.length (Nat.le_refl _)
 rw [List.drop_length] at k2
 cases k2
 exact k3
theorem RpF.upto {o l m : Int} {dict log : Bs} (hf : fits o l m dict) (hs : log.length ≤ 30000) {ys : List OpR} {U : Sto} {c k : Nat} (hC : Chain log (YN o l m dict) 0 ys U c) (hk : k ≤ log.length) (hc : c ≤ k)
  (hst : ∀ x e, yM log c = some (x, e) → e ≤ k → apO U x = none) : RpF o l m dict (log.take k) U c ys where
 fit := hf
 short := by rw [List.length_take]; omega
 chain := hC.take hk hc
 stuck := fun x e hr => by
  obtain ⟨h1, h2⟩ := (pO hk).1 hr
  exact hst x e h1 h2
 le := by rw [List.length_take]; omega
theorem RpF.cut {o l m : Int} {dict log : Bs} {T : Sto} {b : Nat} {xs : List OpR} (h : RpF o l m dict log T b xs) : RpF o l m dict (log.take b) T b xs :=
 RpF.upto h.fit h.short h.chain h.le (Nat.le_refl _) fun x e hr _ => h.stuck x e hr
theorem Chain.ext {l s : Bs} {S T : Sto} {a b : Nat} {xs : List OpR} (h : Chain l S a xs T b) : Chain (l ++ s) S a xs T b :=
 Chain.Oq (k := l.length) (by simp) (by rw [List.take_left]; exact h)
theorem RpF.more {o l m : Int} {dict log : Bs} {T U : Sto} {xs : List OpR} (h : RpF o l m dict log T log.length xs) {x : OpR} (hx : x.ok) (ha : apO T x = some U) (hl : log.length + (vC x).length ≤ 30000) : RpF o l m dict (log ++ vC x) U (log ++ vC x).length (xs ++ [x]) where
 fit := h.fit
 short := by rw [List.length_append]; omega
 chain := by
  refine h.chain.ext.append (.cons (b := (log ++ vC x).length) ?_ ha (.nil _ _))
  have := Zv hx log []
  rw [List.append_nil] at this
  rw [this, List.length_append]
  rfl
 stuck := fun y e hr => by have := nO hr; omega
 le := Nat.le_refl _
def apL (o l m : Int) (dict log : Bs) (x : OpR) : Option Bs := (mV o l m dict log).bind fun p => if p.2 = (log.length : Int) ∧ x.ok ∧ log.length + (vC x).length ≤ 30000 ∧ (apO p.1 x).isSome = true then some (log ++ vC x) else none
end Go.Proofs.YtinncdollpajkaaGreat
