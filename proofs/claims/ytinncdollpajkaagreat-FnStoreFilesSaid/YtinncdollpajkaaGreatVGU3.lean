import Derived.Test.YtinncdollpajkaaGreatVGU1
import Derived.Test.YtinncdollpajkaaGreatVGP4
import Derived.Deep.Cut
import Derived.Test.YtinncdollpajkaaGreatVGD2
import Derived.Test.YtinncdollpajkaaGreatVGW
import Derived.Test.YtinncdollpajkaaGreatVGT
import Derived.Test.YtinncdollpajkaaGreatVGB
import Derived.Test.YtinncdollpajkaaGreatVGP2
set_option linter.unusedVariables false
set_option linter.unusedSimpArgs false
namespace Go.Proofs.YtinncdollpajkaaGreat
open Go.RowKit
set_option maxRecDepth 100000
def PV (ps : List Pc) (c : Int) : Prop := 0 ≤ c ∧ c ≤ 40 ∧ Vq ps c
def ak (ps : List Pc) (c : Int) (i : Nat) (h : i < ps.length) : Prop := 0 ≤ ps[i].1 ∧ ps[i].1 < c ∧ 1 ≤ ps[i].2.length ∧ ps[i].2.length ≤ 64 ∧ ∀ h0 : 0 < i, (ps[i - 1]'(by omega)).1 < ps[i].1
theorem Q3 (ps : List Pc) (c : Int) : Vq ps c ↔ ∀ (i : Nat) (h : i < ps.length), ak ps c i h := by
 constructor
 ·intro h i hi
  have h1 := h.1 i hi
  refine ⟨h1.1, h1.2.1, h1.2.2.1, h1.2.2.2, fun h0 => ?_⟩
  have h2 := h.2 (i - 1) (by omega)
  simpa [show i - 1 + 1 = i by omega] using h2
 ·intro h
  refine ⟨fun i hi => ?_, fun i hi => ?_⟩
  ·have h1 := h i hi
   exact ⟨h1.1, h1.2.1, h1.2.2.1, h1.2.2.2.1⟩
  ·have h1 := (h (i + 1) hi).2.2.2.2 (by omega)
   simpa using h1
theorem dY {ps : List Pc} {c : Int} (h : Vq ps c) : ∀ (j i : Nat) (hj : j < ps.length) (hi : i < j), (ps[i]'(by omega)).1 < ps[j].1
  | 0, i, hj, hi => by omega
  | j + 1, i, hj, hi => by
    have h1 := h.2 j hj
    by_cases he : i = j
    · subst he; exact h1
    · have := dY h j i (by omega) (by omega); omega
theorem jW {ps : List Pc} {c : Int} {k : Nat} (hA : ∀ (i : Nat) (h : i < ps.length), i < k → ak ps c i h) (hk : k < ps.length) (hf : ak ps c k hk) : ∀ (i : Nat) (h : i < ps.length), i < k + 1 → ak ps c i h := by
 intro i h hi
 by_cases he : i = k
 ·subst he; exact hf
 ·exact hA i h (by omega)
def iy (ps : List Pc) (n : Int) : Option Bs := (ps.find? fun p => decide (p.1 = n)).map (·.2)
theorem SS {ps : List Pc} {n : Int} (h : ∀ (i : Nat) (hi : i < ps.length), ps[i].1 ≠ n) : iy ps n = none := by
 unfold iy
 rw [Option.map_eq_none_iff, List.find?_eq_none]
 intro p hp
 obtain ⟨i, hi, rfl⟩ := List.getElem_of_mem hp
 simpa using h i hi
theorem ZK {ps : List Pc} {n : Int} {i : Nat} (hi : i < ps.length) (he : ps[i].1 = n) (hb : ∀ (j : Nat) (hj : j < i), (ps[j]'(by omega)).1 ≠ n) : iy ps n = some ps[i].2 := by
 unfold iy
 have h : ps.find? (fun p => decide (p.1 = n)) = some ps[i] := by
  rw [List.find?_eq_some_iff_getElem]
  exact ⟨by simpa using he, i, hi, rfl, fun j hj => by simpa using hb j hj⟩
 rw [h]; rfl
def AtN (ps : List Pc) (at_ : Nat) (n : Int) : Prop := at_ ≤ ps.length ∧ (∀ (i : Nat) (h : i < ps.length), i < at_ → ps[i].1 < n) ∧ ∀ (i : Nat) (h : i < ps.length), at_ ≤ i → n ≤ ps[i].1
theorem RH {ps : List Pc} {c : Int} (h : Vq ps c) : AtN ps 0 0 := ⟨by omega, fun i h h' => by omega, fun i hi _ => (h.1 i hi).1⟩
theorem PG {ps : List Pc} {c : Int} (h : Vq ps c) {at_ : Nat} {n : Int} (ha : AtN ps at_ n) (hl : at_ < ps.length) (he : ps[at_].1 = n) : iy ps n = some ps[at_].2 ∧ AtN ps (at_ + 1) (n + 1) := by
 refine ⟨ZK hl he fun j hj => ?_, by omega, fun i hi h' => ?_, fun i hi h' => ?_⟩
 ·have := ha.2.1 j (by omega) hj; omega
 ·by_cases hq : i = at_
  ·subst hq; omega
  ·have := ha.2.1 i hi (by omega); omega
 ·have := dY h i at_ hi (by omega); omega
theorem Qp {ps : List Pc} {c : Int} (h : Vq ps c) {at_ : Nat} {n : Int} (ha : AtN ps at_ n) (hm : ∀ hl : at_ < ps.length, ps[at_].1 ≠ n) : iy ps n = none ∧ AtN ps at_ (n + 1) := by
 have key : ∀ (i : Nat) (hi : i < ps.length), at_ ≤ i → n + 1 ≤ ps[i].1 := by
  intro i hi h'
  have h1 := ha.2.2 at_ (by omega) (Nat.le_refl _)
  have h2 := hm (by omega)
  by_cases hq : i = at_
  ·subst hq; omega
  ·have := dY h i at_ hi (by omega); omega
 refine ⟨SS fun i hi e => ?_, ha.1, fun i hi h' => ?_, key⟩
 ·by_cases hq : i < at_
  ·have := ha.2.1 i hi hq; omega
  ·have := key i hi (by omega); omega
 ·have := ha.2.1 i hi h'; omega
def lG (ps : List Pc) (k : Nat) : List Int := ((List.range k).filter fun n : Nat => (iy ps (n : Int)).isNone).map fun n : Nat => (n : Int)
theorem TS {ps : List Pc} {k : Nat} {d : Bs} (h : iy ps k = some d) : lG ps (k + 1) = lG ps k := by
 unfold lG; rw [List.range_succ, List.filter_append]; simp [h]
theorem Vz {ps : List Pc} {k : Nat} (h : iy ps k = none) : lG ps (k + 1) = lG ps k ++ [(k : Int)] := by
 unfold lG; rw [List.range_succ, List.filter_append]; simp [h]
open Classical in
noncomputable def Qd (ps : List Pc) (c : Int) : List Int := if PV ps c then lG ps c.toNat else []
theorem TD {ps : List Pc} {c : Int} (h : PV ps c) : Qd ps c = lG ps c.toNat := by unfold Qd; rw [if_pos h]
def lW (ps : List Pc) (s : Nat) (f : UInt8) (k : Nat) : Bs := (List.range k).flatMap fun n : Nat => (iy ps (n : Int)).getD (List.replicate s f)
theorem XX (ps : List Pc) (s : Nat) (f : UInt8) (k : Nat) : lW ps s f (k + 1) = lW ps s f k ++ (iy ps (k : Int)).getD (List.replicate s f) := by
 unfold lW; rw [List.range_succ, List.flatMap_append]; simp
def WQ (ps : List Pc) (c s f : Int) : Prop := PV ps c ∧ 1 ≤ s ∧ s ≤ 64 ∧ 0 ≤ f ∧ f ≤ 255
open Classical in
noncomputable def QD (ps : List Pc) (c s f : Int) : Option Bs := if WQ ps c s f then some (lW ps s.toNat (UInt8.ofNat f.toNat) c.toNat) else none
theorem TB {ps : List Pc} {c s f : Int} (h : WQ ps c s f) : QD ps c s f = some (lW ps s.toNat (UInt8.ofNat f.toNat) c.toNat) := by unfold QD; rw [if_pos h]
theorem eY {ps : List Pc} {c : Int} (ho : Vq ps c) : ∀ k : Nat, ∃ a : Nat, AtN ps a k ∧ (lG ps k).length + a = k
  | 0 => ⟨0, RH ho, rfl⟩
  | k + 1 => by
    obtain ⟨a, ha, hl⟩ := eY ho k
    by_cases h : ∃ hl : a < ps.length, ps[a].1 = (k : Int)
    · obtain ⟨h1, h2⟩ := h
      obtain ⟨h3, h4⟩ := PG ho ha h1 h2
      exact ⟨a + 1, h4, by rw [TS h3]; omega⟩
    · obtain ⟨h3, h4⟩ := Qp ho ha fun h1 h2 => h ⟨h1, h2⟩
      exact ⟨a, h4, by rw [Vz h3]; simp; omega⟩
theorem Qw {ps : List Pc} {c : Int} (h : PV ps c) : (lG ps c.toNat).length + ps.length = c.toNat := by
 obtain ⟨a, ha, hl⟩ := eY h.2.2 c.toNat
 have e : a = ps.length := by
  by_cases hq : a < ps.length
  ·have h1 := ha.2.2 a hq (Nat.le_refl _)
   have h2 := (h.2.2.1 a hq).2.1
   have := h.1
   omega
  ·have := ha.1; omega
 omega
end Go.Proofs.YtinncdollpajkaaGreat
namespace Go.Proofs.YtinncdollpajkaaGreat
open Go.RowKit
set_option maxRecDepth 100000
attribute [local go_sem high] zA zu zy zO zK zX zx zk zn zq zi zo yQ zC yf zD
end Go.Proofs.YtinncdollpajkaaGreat
namespace Go.Proofs.YtinncdollpajkaaGreat
open Go.RowKit
theorem jV {K : Kn} (hk : K.ok) (n : Int) {d : Bs} (hd : d.length ≤ 64) : (wX K n d).dat K = some d := by
  cases hc : uH K d with
  | none => rw [ZP hc]; unfold Blk.dat; rw [if_pos rfl]
  | some s =>
    rw [ZO hc]
    split
    · rename_i hs
      have hf : fits K.o K.l K.m d := by
        by_cases hf : fits K.o K.l K.m d
        · exact hf
        · unfold uH at hc; rw [if_neg hf] at hc; cases hc
      have hsc : s = K.comp d := by unfold uH at hc; rw [if_pos hf] at hc; injection hc with hc; exact hc.symm
      subst hsc
      have h := QU hk hf.2.2 hf.2.1 (by have := WZ K d hk.base0 hf.2.1; omega) (by omega)
      unfold Blk.dat
      rw [if_neg (by simp), h, if_neg (by simp)]
    · unfold Blk.dat; rw [if_pos rfl]
structure Made (K : Kn) (X d : Bs) (size : Nat) (bs : List Blk) (cs : List Bs) : Prop where
 num : qi 0 bs
 cat : wV bs = X
 siz : zt bs = (d.length : Int)
 len : bs.length = cs.length
 dat : ∀ (i : Nat) (h : i < bs.length) (h' : i < cs.length), bs[i].dat K = some cs[i] ∧ bs[i].size = (cs[i].length : Int)
 bd : ∀ x ∈ cs, 1 ≤ x.length ∧ x.length ≤ size
 flat : cs.flatten = d
 most : bs.length ≤ 40
 small : d.length ≤ 2000
theorem P6 (f : Nat) (bs : List Blk) (i : Nat) (h : i < (vV f bs).length) (h' : i < bs.length) : (vV f bs)[i] = { bs[i] with num := ((f + i : Nat) : Int) } := by
  induction bs generalizing f i with
  | nil => simp at h'
  | cons b bs ih =>
    cases i with
    | zero => simp [vV]
    | succ i =>
      simp only [vV, List.getElem_cons_succ]
      have := ih (f + 1) i (by simpa [vV] using h) (by simpa using h')
      rw [this, show f + 1 + i = f + (i + 1) by omega]
theorem UL (f : Nat) (bs : List Blk) (h : ∀ b ∈ bs, b.ok = true) (hl : f + bs.length ≤ 40) : qi f (vV f bs) := by
  induction bs generalizing f with
  | nil => trivial
  | cons b bs ih =>
    rw [List.length_cons] at hl
    exact ⟨Rw (h b (by simp)) (by omega) (by omega), rfl, ih (f + 1) (fun c hc => h c (by simp [hc])) (by omega)⟩
theorem P9 {o l m : Int} {dict d X : Bs} {size : Int} (h : mkC o l m dict d size = some X) :
  ∃ (n : Nat) (bs : List Blk) (cs : List Bs), size = n ∧ 1 ≤ n ∧ n ≤ 64 ∧ fits o l m dict ∧ (zI o l m dict).ok ∧ Made (zI o l m dict) X d n bs cs := by
 unfold mkC at h
 split at h
 ·rename_i hc
  obtain ⟨hf, h1, h2, h3, h4⟩ := hc
  injection h with h
  obtain ⟨n, rfl⟩ := Int.eq_ofNat_of_zero_le (by omega : 0 ≤ size)
  rw [Int.toNat_natCast] at h
  have hk := x9 hf
  have hl : (mks (zI o l m dict) n d.length d).length = (chunks n d.length d).length := by unfold mks; rw [List.length_map]
  have h40 : (chunks n d.length d).length ≤ 40 := rY n (by omega) 40 _ d (by omega)
  refine ⟨n, vV 0 (mks (zI o l m dict) n d.length d), chunks n d.length d, rfl, by omega, by omega, hf, hk, ?_, ?_, ?_, ?_, ?_, ?_, ?_, ?_, h4⟩
  ·exact UL 0 _ (Yb hk n _ (by omega) (by omega) d) (by omega)
  ·rw [← h]; unfold mkB; rw [XH]
  ·rw [ah, Tc _ _ _ (by omega) d (Nat.le_refl _)]
  ·rw [gJ, hl]
  ·intro i hi hi'
   have hx := qP n (by omega) d.length d (chunks n d.length d)[i] (List.getElem_mem hi')
   rw [P6 0 _ i hi (by omega)]
   have e : (mks (zI o l m dict) n d.length d)[i]'(by omega) = wX (zI o l m dict) 0 (chunks n d.length d)[i] := by unfold mks; rw [List.getElem_map]
   rw [e, Xp]
   exact ⟨jV hk _ (by omega), iD _ _ _⟩
  ·exact fun x hx => qP n (by omega) d.length d x hx
  ·exact pX n (by omega) d.length d (Nat.le_refl _)
  ·rw [gJ, hl]; exact h40
 ·cases h
section
variable {K : Kn} {X d : Bs} {n : Nat} {bs : List Blk} {cs : List Bs}
theorem Made.blocks (h : Made K X d n bs cs) : zT X = some bs := by
 rw [← h.cat]
 exact aF h.num (by have := h.siz; have := h.small; omega)
theorem Made.ok (h : Made K X d n bs cs) : ∀ b ∈ bs, b.ok = true := iT h.num
theorem Made.short (h : Made K X d n bs cs) : X.length ≤ 2960 := (wE h.blocks).1
theorem Made.find (h : Made K X d n bs cs) : jL X = kP 0 bs := by
 have h1 := Qv h.ok (by rw [h.cat]; have := h.short; omega)
 rw [h.cat] at h1
 exact h1
theorem Ri {f : Nat} {bs : List Blk} (h : qi f bs) (i : Nat) (hi : i < bs.length) : (bs.find? fun b => decide (b.num = ((f + i : Nat) : Int))) = some bs[i] := by
 rw [List.find?_eq_some_iff_getElem]
 refine ⟨by simpa using (nP h i hi).2, i, hi, rfl, fun j hj => ?_⟩
 have := (nP h j (by omega)).2
 simp only [Bool.not_eq_true', decide_eq_false_iff_not]
 omega
theorem Made.first (h : Made K X d n bs cs) (i : Nat) (hi : i < bs.length) : kD (jL X) (i : Int) = some bs[i] := by
 rw [h.find, lC]
 have := Ri h.num i hi
 rwa [Nat.zero_add] at this
def qZ (cs : List Bs) (k : Nat) : List Pc := (List.range k).filterMap fun i : Nat => cs[i]?.map fun x => ((i : Int), x)
theorem lV (cs : List Bs) (k : Nat) (h : k < cs.length) : qZ cs (k + 1) = qZ cs k ++ [((k : Int), cs[k])] := by
 unfold qZ; rw [List.range_succ, List.filterMap_append]; simp [List.getElem?_eq_getElem h]
theorem uI (cs : List Bs) (k : Nat) (h : k ≤ cs.length) : (qZ cs k).length = k := by
 induction k with
 | zero => rfl
 | succ k ih => rw [lV cs k (by omega), List.length_append, ih (by omega)]; rfl
theorem jQ (cs : List Bs) (k i : Nat) (h : k ≤ cs.length) (hi : i < (qZ cs k).length) : ∃ h' : i < cs.length, (qZ cs k)[i] = ((i : Int), cs[i]) := by
  induction k with
  | zero => simp [qZ] at hi
  | succ k ih =>
    have hl := uI cs (k + 1) h
    have hl2 := uI cs k (by omega)
    by_cases he : i < k
    · obtain ⟨h1, h2⟩ := ih (by omega) (by omega)
      refine ⟨h1, ?_⟩
      simp only [lV cs k (by omega)]
      rw [List.getElem_append_left (by omega)]
      exact h2
    · have : i = k := by omega
      subst this
      refine ⟨by omega, ?_⟩
      simp only [lV cs i (by omega)]
      rw [List.getElem_append_right (by omega)]
      simp [hl2]
theorem Made.has (h : Made K X d n bs cs) (i : Nat) (hi : i < cs.length) : iy (qZ cs cs.length) (i : Int) = some cs[i] := by
 have hl := uI cs cs.length (Nat.le_refl _)
 have hi2 : i < (qZ cs cs.length).length := by omega
 obtain ⟨_, e⟩ := jQ cs cs.length i (Nat.le_refl _) hi2
 rw [ZK hi2 (by rw [e]) (fun j hj => by
  obtain ⟨_, e2⟩ := jQ cs cs.length j (Nat.le_refl _) (by omega)
  rw [e2]; simp; omega), e]
theorem Made.pv (h : Made K X d n bs cs) (hn : n ≤ 64) : PV (qZ cs cs.length) cs.length := by
 have hl := uI cs cs.length (Nat.le_refl _)
 have hm := h.most
 have he := h.len
 refine ⟨by omega, by omega, (Q3 _ _).2 fun i hi => ?_⟩
 obtain ⟨h1, e⟩ := jQ cs cs.length i (Nat.le_refl _) hi
 have hb := h.bd cs[i] (List.getElem_mem h1)
 unfold ak
 rw [e]
 refine ⟨by simp, by simp; omega, hb.1, by simp; omega, fun h0 => ?_⟩
 obtain ⟨_, e2⟩ := jQ cs cs.length (i - 1) (Nat.le_refl _) (by omega)
 rw [e2]; simp; omega
theorem Made.lost (h : Made K X d n bs cs) (hn : n ≤ 64) : Qd (qZ cs cs.length) cs.length = [] := by
 have hp := h.pv hn
 have hl := uI cs cs.length (Nat.le_refl _)
 rw [TD hp]
 have := Qw hp
 rw [Int.toNat_natCast] at this ⊢
 exact List.eq_nil_of_length_eq_zero (by omega)
theorem Zx (cs : List Bs) (ps : List Pc) (s : Nat) (f : UInt8) (hh : ∀ i (hi : i < cs.length), iy ps (i : Int) = some cs[i]) : ∀ k, k ≤ cs.length → lW ps s f k = (cs.take k).flatten
  | 0, _ => by simp [lW]
  | k + 1, h => by
    have e : cs.take (k + 1) = cs.take k ++ [cs[k]] := List.take_succ_eq_append_getElem (by omega)
    rw [XX, Zx cs ps s f hh k (by omega), hh k (by omega), e, List.flatten_append]
    simp only [Option.getD_some, List.flatten_cons, List.flatten_nil, List.append_nil]
theorem Made.join (h : Made K X d n bs cs) (hn1 : 1 ≤ n) (hn : n ≤ 64) : QD (qZ cs cs.length) cs.length n 0 = some d := by
 have hp := h.pv hn
 rw [TB (show WQ (qZ cs cs.length) cs.length n 0 from ⟨hp, by omega, by omega, by omega, by omega⟩), Int.toNat_natCast, Int.toNat_natCast, Zx cs _ _ _ (fun i hi => h.has i hi) cs.length (Nat.le_refl _), List.take_length, h.flat]
theorem Y7 {X : Bs} (h : Made K X d n bs cs) : ∀ k, k ≤ bs.length → (dN (bs.take k) (jL X)).length = k
  | 0, _ => rfl
  | k + 1, hk => by
    have hf := h.first k (by omega)
    have hn := (nP h.num k (by omega)).2
    rw [Nat.zero_add] at hn
    rw [List.take_succ_eq_append_getElem (by omega), VC, if_pos (by rw [hn]; exact hf), List.length_append, Y7 h k (by omega)]
    rfl
theorem Made.O5 (h : Made K X d n bs cs) : (Oj X X).length = bs.length := by
 unfold Oj
 rw [h.blocks]
 have := Y7 h bs.length (Nat.le_refl _)
 rwa [List.take_length] at this
end
end Go.Proofs.YtinncdollpajkaaGreat
