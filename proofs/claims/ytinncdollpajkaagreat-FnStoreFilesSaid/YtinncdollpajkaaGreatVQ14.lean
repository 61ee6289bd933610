import Derived.Test.YtinncdollpajkaaGreatVQ13
import Derived.Test.YtinncdollpajkaaGreatVGU1
import Derived.Test.YtinncdollpajkaaGreatVGR
set_option linter.unusedVariables false
set_option linter.unusedSimpArgs false
namespace Go.Proofs.YtinncdollpajkaaGreat
open Go.RowKit
def OW (fs : List Fl) (n : Bs) : Nat := (fs.takeWhile fun f => ltS f.1 n).length
def rP (fs : List Fl) (n X : Bs) : List Fl := fs.takeWhile (fun f => ltS f.1 n) ++ (n, X) :: (fs.dropWhile fun f => ltS f.1 n).filter fun f => decide (f.1 ≠ n)
def uS (fs : List Fl) (n : Bs) : List Fl := fs.filter fun f => decide (f.1 ≠ n)
theorem PT {fs : List Fl} {n : Bs} {p : Nat} (hp : p ≤ fs.length) (h : ∀ (j : Nat) (hj : j < p), ltS (fs[j]'(by omega)).1 n = true) (h2 : ∀ h : p < fs.length, ltS fs[p].1 n = false) : OW fs n = p := by
  unfold OW
  induction fs generalizing p with
  | nil => simp at hp; simp [hp]
  | cons f fs ih =>
    cases p with
    | zero =>
      have := h2 (by simp)
      simp only [List.getElem_cons_zero] at this
      rw [List.takeWhile_cons_of_neg (p := fun f : Fl => ltS f.1 n) (by rw [this]; simp)]; rfl
    | succ p =>
      have h0 := h 0 (by omega)
      simp only [List.getElem_cons_zero] at h0
      rw [List.takeWhile_cons_of_pos (p := fun f : Fl => ltS f.1 n) h0, List.length_cons, ih (p := p) (by simpa using hp) (fun j hj => by have := h (j + 1) (by omega); simpa using this) (fun hh => by have := h2 (by simpa using hh); simpa using this)]
def yM (n X : Bs) (a : Bool × List Fl) (f : Fl) : Bool × List Fl :=
 let a' := if a.1 = false ∧ ltS f.1 n = false then (true, a.2 ++ [(n, X)]) else a
 (a'.1, if f.1 ≠ n then a'.2 ++ [f] else a'.2)
theorem jm (n X : Bs) : ∀ (fs : List Fl) (out : List Fl), fs.foldl (yM n X) (true, out) = (true, out ++ fs.filter fun f => decide (f.1 ≠ n))
  | [], out => by simp
  | f :: fs, out => by
    rw [List.foldl_cons]
    have : yM n X (true, out) f = (true, if f.1 ≠ n then out ++ [f] else out) := by unfold yM; simp
    rw [this, jm n X fs, List.filter_cons]
    by_cases h : f.1 = n
    · simp [h]
    · simp [h]
def qN (n X : Bs) (r : Bool × List Fl) : List Fl := if r.1 = true then r.2 else r.2 ++ [(n, X)]
theorem lK (n X : Bs) : ∀ (fs : List Fl) (out : List Fl), qN n X (fs.foldl (yM n X) (false, out)) = out ++ rP fs n X
  | [], out => by simp [rP, qN]
  | f :: fs, out => by
    rw [List.foldl_cons]
    by_cases h : ltS f.1 n = true
    · have hne : f.1 ≠ n := oh h
      have e : yM n X (false, out) f = (false, out ++ [f]) := by unfold yM; simp [h, hne]
      rw [e, lK n X fs (out ++ [f])]
      unfold rP
      rw [List.takeWhile_cons_of_pos (p := fun f : Fl => ltS f.1 n) h, List.dropWhile_cons_of_pos (p := fun f : Fl => ltS f.1 n) h]
      simp
    · have h' : ltS f.1 n = false := by simpa using h
      have e : yM n X (false, out) f = (true, if f.1 ≠ n then out ++ [(n, X)] ++ [f] else out ++ [(n, X)]) := by unfold yM; simp [h']
      rw [e, jm]
      unfold qN
      simp only [if_true]
      unfold rP
      rw [List.takeWhile_cons_of_neg (p := fun f : Fl => ltS f.1 n) h, List.dropWhile_cons_of_neg (p := fun f : Fl => ltS f.1 n) h, List.filter_cons]
      by_cases h2 : f.1 = n
      · simp [h2]
      · simp [h2]
theorem Oe (fs : List Fl) (n X : Bs) : qN n X (fs.foldl (yM n X) (false, [])) = rP fs n X := by
 have := lK n X fs []
 simpa using this
theorem fB (n X : Bs) (a : Bool × List Fl) (f : Fl) : (yM n X a f).2.length + (if a.1 then 1 else 0) ≤ a.2.length + 1 + (if (yM n X a f).1 then 1 else 0) ∧ (yM n X a f).2.length ≤ a.2.length + 2 := by
 unfold yM
 obtain ⟨d, out⟩ := a
 cases d <;> simp only <;> (repeat' split) <;> simp_all <;> omega
theorem Qe {S : Sto} (hok : S.ok) {n : Bs} {i : Nat} (h : wo S.fs n = some i) : ∃ hi : i < S.fs.length, S.fs[i].1 = n ∧ OW S.fs n = i ∧ (∀ (j : Nat) (hj : j < S.fs.length), j ≠ i → S.fs[j].1 ≠ n) := by
 have hi := ou h
 unfold wo at h
 rw [List.findIdx?_eq_some_iff_getElem] at h
 obtain ⟨_, h1, h2⟩ := h
 have he : S.fs[i].1 = n := by simpa using h1
 refine ⟨hi, he, PT (by omega) (fun j hj => ?_) (fun _ => ?_), fun j hj hne => ?_⟩
 ·rw [← he]; exact Sto.asc hok i j hi hj
 ·rw [he]; exact rW n
 ·by_cases hji : j < i
  ·have := Sto.asc hok i j hi hji
   rw [he] at this
   exact oh this
  ·have := Sto.asc hok j i hj (by omega)
   rw [he] at this
   exact (oh this).symm
def chO (S : Sto) (x : OpR) (X : Bs) : Option Bs :=
 if x.k = 0 then mkC S.o S.l S.m S.dict x.d x.s else
 if x.k = 1 then apD S.o S.l S.m S.dict X x.d x.s else
 if x.k = 2 then rpD S.o S.l S.m S.dict X x.f x.t x.d x.s else mgD S.o S.l S.m S.dict X x.s
theorem Zu {o l m : Int} {dict d X : Bs} {size : Int} (h : mkC o l m dict d size = some X) : X.length ≤ 2960 ∧ cdB o l m dict X = some d := by
  obtain ⟨n, bs, cs, hn, h1, h2, hf, hk, hM⟩ := P9 h
  refine ⟨hM.short, ?_⟩
  rw [uK hf hM.blocks]
  have : ∀ k, k ≤ bs.length → yl (zI o l m dict) (bs.take k) = some (cs.take k).flatten := by
    intro k
    induction k with
    | zero => intro _; rfl
    | succ k ih =>
      intro hk
      have hl := hM.len
      rw [kU (by omega) (ih (by omega)) (hM.dat k (by omega) (by omega)).1, List.take_succ_eq_append_getElem (l := cs) (by omega), List.flatten_append]
      simp
  have e := this bs.length (Nat.le_refl _)
  rw [List.take_length, hM.len, List.take_length, hM.flat] at e
  exact e
def edO (x : OpR) (y : Bs) : Bs := if x.k = 0 then x.d else if x.k = 1 then y ++ x.d else if x.k = 2 then y.take x.f.toNat ++ x.d ++ y.drop x.t.toNat else y
theorem Ql {S : Sto} {x : OpR} {X Y : Bs} (h : chO S x X = some Y) (hX : x.k = 0 ∨ (cdB S.o S.l S.m S.dict X).isSome = true) : cdB S.o S.l S.m S.dict Y = some (edO x ((cdB S.o S.l S.m S.dict X).getD [])) ∧ (x.k = 2 → 0 ≤ x.f ∧ x.f ≤ x.t ∧ x.t ≤ ((cdB S.o S.l S.m S.dict X).getD []).length) := by
 unfold chO at h
 unfold edO
 by_cases h0 : x.k = 0
 ·rw [if_pos h0] at h ⊢
  exact ⟨(Zu h).2, fun h2 => by omega⟩
 rw [if_neg h0] at h ⊢
 have hX : (cdB S.o S.l S.m S.dict X).isSome = true := by rcases hX with hX | hX; exact absurd hX h0; exact hX
 obtain ⟨y, hy⟩ := Option.isSome_iff_exists.1 hX
 by_cases h1 : x.k = 1
 ·rw [if_pos h1] at h ⊢
  rw [hy]
  exact ⟨Pj h hy, fun h2 => by omega⟩
 rw [if_neg h1] at h ⊢
 by_cases h2 : x.k = 2
 ·rw [if_pos h2] at h ⊢
  rw [hy]
  obtain ⟨a, b, c, e⟩ := Qj h hy
  exact ⟨e, fun _ => ⟨a, b, c⟩⟩
 ·rw [if_neg h2] at h ⊢
  obtain ⟨z, hz, e⟩ := Pg h
  rw [hz]
  exact ⟨e, fun h3 => absurd h3 h2⟩
def apO (S : Sto) (x : OpR) : Option Sto :=
 if x.k = 4 then (if (wo S.fs x.nm).isSome = true then some { S with fs := uS S.fs x.nm } else none) else
 (if x.k = 0 then mkC S.o S.l S.m S.dict x.d x.s else (wo S.fs x.nm).bind fun i => chO S x (S.fs[i]?.getD ([], [])).2).bind fun X =>
  if (rP S.fs x.nm X).length ≤ 6 then some { S with fs := rP S.fs x.nm X } else none
theorem Ry {S : Sto} (hok : S.ok) (n : Bs) (i : Nat) : wo S.fs n = some i ↔ ∃ h : i < S.fs.length, S.fs[i].1 = n := by
 constructor
 ·intro h
  obtain ⟨hi, he, _⟩ := Qe hok h
  exact ⟨hi, he⟩
 ·rintro ⟨hi, he⟩
  exact ik hi he fun j hj => by
   have := Sto.asc hok i j hi hj
   rw [he] at this
   exact oh this
theorem Sto.Ov {S : Sto} (hok : S.ok) {gs : List Fl} (hl : gs.length ≤ 6) (h : ∀ f ∈ gs, xZ f.1 = true ∧ (cdB S.o S.l S.m S.dict f.2).isSome = true) (hs : gs.Pairwise fun a b => ltS a.1 b.1 = true) : ({ S with fs := gs } : Sto).ok := by
 refine ⟨hok.1, hl, fun i hi => ⟨(h _ (List.getElem_mem hi)).1, (h _ (List.getElem_mem hi)).2, fun h0 => ?_⟩⟩
 have hi' : i < gs.length := hi
 exact List.pairwise_iff_getElem.1 hs (i - 1) i (by omega) hi' (by omega)
theorem Sto.pw {S : Sto} (hok : S.ok) : S.fs.Pairwise fun a b => ltS a.1 b.1 = true := by
 rw [List.pairwise_iff_getElem]
 exact fun i j hi hj hij => Sto.asc hok j i hj hij
theorem Sto.mem {S : Sto} (hok : S.ok) : ∀ f ∈ S.fs, xZ f.1 = true ∧ (cdB S.o S.l S.m S.dict f.2).isSome = true := by
 intro f hf
 obtain ⟨i, hi, rfl⟩ := List.getElem_of_mem hf
 exact ⟨(hok.2.2 i hi).1, (hok.2.2 i hi).2.1⟩
theorem PK {fs : List Fl} {n X : Bs} (h : fs.Pairwise fun a b => ltS a.1 b.1 = true) : (rP fs n X).Pairwise fun a b => ltS a.1 b.1 = true := by
  induction fs with
  | nil => simp [rP]
  | cons f fs ih =>
    have h' := List.pairwise_cons.1 h
    unfold rP
    by_cases hl : ltS f.1 n = true
    · rw [List.takeWhile_cons_of_pos (p := fun f : Fl => ltS f.1 n) hl, List.dropWhile_cons_of_pos (p := fun f : Fl => ltS f.1 n) hl, List.cons_append, List.pairwise_cons]
      refine ⟨fun g hg => ?_, ih h'.2⟩
      rcases List.mem_append.1 hg with hg | hg
      · exact h'.1 g (List.takeWhile_subset _ hg)
      · rcases List.mem_cons.1 hg with rfl | hg
        · exact hl
        · exact h'.1 g (List.dropWhile_subset _ (List.mem_filter.1 hg).1)
    · rw [List.takeWhile_cons_of_neg (p := fun f : Fl => ltS f.1 n) hl, List.dropWhile_cons_of_neg (p := fun f : Fl => ltS f.1 n) hl, List.nil_append, List.pairwise_cons]
      refine ⟨fun g hg => ?_, List.Pairwise.sublist List.filter_sublist h⟩
      have hm := List.mem_filter.1 hg
      have hne : g.1 ≠ n := by simpa using hm.2
      have hlt : f = g ∨ ltS f.1 g.1 = true := by
        rcases List.mem_cons.1 hm.1 with rfl | h3
        · exact .inl rfl
        · exact .inr (h'.1 g h3)
      have hfn : n = f.1 ∨ ltS n f.1 = true := by
        cases h4 : ltS n f.1 with
        | true => exact .inr rfl
        | false => exact .inl (nY _ _ h4 (by simpa using hl))
      rcases hlt with rfl | hlt
      · rcases hfn with h5 | h5
        · exact absurd h5.symm hne
        · exact h5
      · rcases hfn with h5 | h5
        · show ltS n g.1 = true; rw [h5]; exact hlt
        · exact pg _ _ _ h5 hlt
theorem RY {α : Type} {p : α → Bool} {x : α} : ∀ {l : List α}, x ∈ l.takeWhile p → p x = true
  | [], h => by cases h
  | a :: l, h => by
    by_cases ha : p a = true
    · rw [List.takeWhile_cons_of_pos ha] at h
      rcases List.mem_cons.1 h with rfl | h2
      · exact ha
      · exact RY h2
    · rw [List.takeWhile_cons_of_neg ha] at h; cases h
theorem XZ {fs : List Fl} {n X : Bs} {f : Fl} (h : f ∈ rP fs n X) : f = (n, X) ∨ (f ∈ fs ∧ f.1 ≠ n) := by
 unfold rP at h
 rcases List.mem_append.1 h with h | h
 ·refine .inr ⟨List.takeWhile_subset _ h, ?_⟩
  exact oh (RY (p := fun f : Fl => ltS f.1 n) h)
 ·rcases List.mem_cons.1 h with h | h
  ·exact .inl h
  ·have := List.mem_filter.1 h
   exact .inr ⟨List.dropWhile_subset _ this.1, by simpa using this.2⟩
theorem QB {fs : List Fl} {n X : Bs} {f : Fl} (h : f ∈ fs) (hn : f.1 ≠ n) : f ∈ rP fs n X := by
 unfold rP
 rw [← List.takeWhile_append_dropWhile (p := fun f : Fl => ltS f.1 n) (l := fs)] at h
 rcases List.mem_append.1 h with h | h
 ·exact List.mem_append.2 (.inl h)
 ·exact List.mem_append.2 (.inr (List.mem_cons.2 (.inr (List.mem_filter.2 ⟨h, by simpa using hn⟩))))
structure ApF (S : Sto) (x : OpR) (T : Sto) : Prop where
 o : T.o = S.o
 l : T.l = S.l
 m : T.m = S.m
 dict : T.dict = S.dict
 ok : T.ok
 kind : x.k = 4 ∧ (∃ i, wo S.fs x.nm = some i) ∧ T.fs = uS S.fs x.nm ∨ x.k ≠ 4 ∧ ∃ X, T.fs = rP S.fs x.nm X ∧ (x.k = 0 ∧ mkC S.o S.l S.m S.dict x.d x.s = some X ∨ ∃ (i : Nat) (h : i < S.fs.length), wo S.fs x.nm = some i ∧ chO S x S.fs[i].2 = some X)
theorem XL {S T : Sto} {x : OpR} (hok : S.ok) (hx : x.ok) (h : apO S x = some T) : ApF S x T := by
 have hnm : xZ x.nm = true := hx.1
 unfold apO at h
 by_cases h4 : x.k = 4
 ·rw [if_pos h4] at h
  split at h
  ·rename_i hi
   injection h with h
   subst h
   obtain ⟨i, hi⟩ := Option.isSome_iff_exists.1 hi
   refine ⟨rfl, rfl, rfl, rfl, Sto.Ov hok ?_ (fun f hf => Sto.mem hok f (List.mem_filter.1 hf).1) (List.Pairwise.sublist List.filter_sublist (Sto.pw hok)), .inl ⟨h4, ⟨i, hi⟩, rfl⟩⟩
   have := List.length_filter_le (fun f : Fl => decide (f.1 ≠ x.nm)) S.fs
   have := hok.2.1
   unfold uS; omega
  ·cases h
 ·rw [if_neg h4] at h
  obtain ⟨X, hX, h⟩ := y5 h
  split at h
  ·rename_i h6
   injection h with h
   subst h
   have key : (cdB S.o S.l S.m S.dict X).isSome = true ∧ (x.k = 0 ∧ mkC S.o S.l S.m S.dict x.d x.s = some X ∨ ∃ (i : Nat) (h : i < S.fs.length), wo S.fs x.nm = some i ∧ chO S x S.fs[i].2 = some X) := by
    split at hX
    ·rename_i h0
     rw [(Zu hX).2]
     exact ⟨rfl, .inl ⟨h0, hX⟩⟩
    ·rename_i h0
     obtain ⟨i, hi, hX⟩ := y5 hX
     have hl := ou hi
     rw [List.getElem?_eq_getElem hl] at hX
     simp only [Option.getD_some] at hX
     have hc := (Ql hX (.inr (Sto.mem hok _ (List.getElem_mem hl)).2)).1
     rw [hc]
     exact ⟨rfl, .inr ⟨i, hl, hi, hX⟩⟩
   refine ⟨rfl, rfl, rfl, rfl, Sto.Ov hok h6 (fun f hf => ?_) (PK (Sto.pw hok)), .inr ⟨h4, X, rfl, key.2⟩⟩
   rcases XZ hf with rfl | ⟨hf, _⟩
   ·exact ⟨hnm, key.1⟩
   ·exact Sto.mem hok f hf
  ·cases h
theorem ApF.others {S T : Sto} {x : OpR} (hok : S.ok) (h : ApF S x T) {n X : Bs} (hn : n ≠ x.nm) : (n, X) ∈ T.fs ↔ (n, X) ∈ S.fs := by
 rcases h.kind with ⟨_, _, e⟩ | ⟨_, Y, e, _⟩
 ·rw [e]; unfold uS; rw [List.mem_filter]; simp [hn]
 ·rw [e]
  constructor
  ·intro h2
   rcases XZ h2 with h3 | h3
   ·injection h3 with h3; exact absurd h3 hn
   ·exact h3.1
  ·exact fun h2 => QB h2 hn
theorem jH (gs hs : List Fl) : yj (gs ++ hs) = yj gs ++ yj hs := by unfold yj; rw [List.flatMap_append]
theorem Qs (fs : List Fl) (p : Nat) (hp : p < fs.length) (Y : Bs) : (yj fs).set (p * 2 + 1) (.string ⟨Y.toArray⟩) = yj (fs.set p (fs[p].1, Y)) := by
 have e : fs = fs.take p ++ (fs[p] :: fs.drop (p + 1)) := by rw [List.getElem_cons_drop, List.take_append_drop]
 have e2 : fs.set p (fs[p].1, Y) = fs.take p ++ ((fs[p].1, Y) :: fs.drop (p + 1)) := by rw [List.set_eq_take_append_cons_drop, if_pos hp]
 rw [e2]
 conv => lhs; rw [e]
 rw [jH, jH, List.set_append_right _ _ (by rw [tX, List.length_take]; omega), tX, List.length_take, Nat.min_eq_left (by omega), show p * 2 + 1 - p * 2 = 1 by omega]
 rfl
theorem Vj {o l m : Int} {dict t : Bs} (h : (cdB o l m dict t).isSome = true) : t.length ≤ 2960 := by
 unfold cdB at h
 split at h
 ·cases hb : zT t with
  | none => rw [hb] at h; cases h
  | some bs => exact (wE hb).1
 ·cases h
end Go.Proofs.YtinncdollpajkaaGreat
