import Derived.Test.YtinncdollpajkaaGreatVGA
set_option linter.unusedVariables false
set_option linter.unusedSimpArgs false
namespace Go.Proofs.YtinncdollpajkaaGreat
abbrev Pr := Int × Int
def wAt (cl : Int) (ws : List Bs) (c : Int) : Bs := if c < cl then [UInt8.ofNat c.toNat] else ws.getD (c - cl - 2).toNat []
def words (cl : Int) (ps : List Pr) : List Bs := ps.foldl (fun ws p => ws ++ [wAt cl ws p.1 ++ [UInt8.ofNat p.2.toNat]]) []
theorem pW (cl : Int) (ps : List Pr) (p : Pr) : words cl (ps ++ [p]) = words cl ps ++ [wAt cl (words cl ps) p.1 ++ [UInt8.ofNat p.2.toNat]] := by
 unfold words; rw [List.foldl_append]; rfl
theorem xu (cl : Int) (ps : List Pr) : (words cl ps).length = ps.length := by
 induction ps using yS with
 | h0 => rfl
 | h1 ps p ih => rw [pW, List.length_append, ih, List.length_append]; rfl
def codeOk (cl : Int) (n : Nat) (c : Int) : Prop := (0 ≤ c ∧ c < cl) ∨ (cl + 1 < c ∧ c ≤ cl + 1 + n)
instance (cl : Int) (n : Nat) (c : Int) : Decidable (codeOk cl n c) := by unfold codeOk; infer_instance
def bG (cl : Int) (ps : List Pr) : Prop := ∀ i (h : i < ps.length), codeOk cl i ps[i].1 ∧ 0 ≤ ps[i].2 ∧ ps[i].2 < cl
theorem Rk {cl : Int} {ps : List Pr} {p : Pr} (h : bG cl ps) (h1 : codeOk cl ps.length p.1) (h2 : 0 ≤ p.2) (h3 : p.2 < cl) : bG cl (ps ++ [p]) := by
 intro i hi
 by_cases hlt : i < ps.length
 ·rw [List.getElem_append_left hlt]; exact h i hlt
 ·have : i = ps.length := by simp at hi; omega
  subst this
  simp [h1, h2, h3]
theorem mF {cl : Int} {ps : List Pr} (h : bG cl ps) (k : Nat) : bG cl (ps.take k) := by
 intro i hi
 rw [List.getElem_take]
 exact h i (by simp at hi; omega)
theorem WH {cl : Int} {ws : List Bs} {n : Nat} {c : Int} (h : codeOk cl n c) (hn : n ≤ ws.length) (vs : List Bs) : wAt cl (ws ++ vs) c = wAt cl ws c := by
 unfold wAt
 split
 ·rfl
 ·rcases h with h | h
  ·omega
  ·rw [List.getD_eq_getElem?_getD, List.getD_eq_getElem?_getD, List.getElem?_append_left (by omega)]
theorem YL (cl : Int) (ps qs : List Pr) : ∃ vs, words cl (ps ++ qs) = words cl ps ++ vs := by
  induction qs using yS with
  | h0 => exact ⟨[], by simp⟩
  | h1 qs q ih =>
    obtain ⟨vs, h⟩ := ih
    rw [← List.append_assoc, pW, h, List.append_assoc]
    exact ⟨_, rfl⟩
theorem bg (cl : Int) (ps : List Pr) (k : Nat) : words cl (ps.take k) = (words cl ps).take k := by
 obtain ⟨vs, h⟩ := YL cl (ps.take k) (ps.drop k)
 rw [List.take_append_drop] at h
 by_cases hk : k ≤ ps.length
 ·rw [h, List.take_append_of_le_length (by rw [xu]; simp; omega), List.take_of_length_le (l := words cl (ps.take k)) (by rw [xu]; simp; omega)]
 ·have hl := congrArg List.length h
  rw [xu, List.length_append, xu, List.length_take] at hl
  have : vs = [] := List.eq_nil_of_length_eq_zero (by omega)
  subst this
  rw [List.append_nil] at h
  rw [← h, List.take_of_length_le (by rw [xu]; omega)]
theorem TR {cl : Int} {ps : List Pr} (h : bG cl ps) (i : Nat) (hi : i < ps.length) :
  (words cl ps)[i]? = some (wAt cl (words cl ps) ps[i].1 ++ [UInt8.ofNat ps[i].2.toNat]) := by
 have e : words cl (ps.take (i + 1)) = words cl (ps.take i) ++ [wAt cl (words cl (ps.take i)) ps[i].1 ++ [UInt8.ofNat ps[i].2.toNat]] := by
  rw [List.take_succ_eq_append_getElem hi, pW]
 rw [bg] at e
 have h1 : ((words cl ps).take (i + 1))[i]? = (words cl ps)[i]? := by rw [List.getElem?_take, if_pos (by omega)]
 rw [← h1, e, List.getElem?_append_right (by rw [xu]; simp; omega)]
 have h2 : (words cl (ps.take i)).length = i := by rw [xu]; simp; omega
 rw [h2]
 simp only [Nat.sub_self, List.getElem?_cons_zero]
 congr 2
 rw [bg]
 have h3 : words cl ps = (words cl ps).take i ++ (words cl ps).drop i := (List.take_append_drop _ _).symm
 conv => rhs; rw [h3]
 exact (WH (h i hi).1 (by rw [List.length_take, xu]; omega) _).symm
theorem nZ (cl : Int) (ws : List Bs) (c : Int) (h : c < cl) : wAt cl ws c = [UInt8.ofNat c.toNat] := by unfold wAt; rw [if_pos h]
theorem jB {cl : Int} {ps : List Pr} (h : bG cl ps) (c : Int) (h0 : cl + 1 < c) (h1 : c ≤ cl + 1 + ps.length) :
  ∃ hi : (c - cl - 2).toNat < ps.length, wAt cl (words cl ps) c = wAt cl (words cl ps) (ps[(c - cl - 2).toNat]'hi).1 ++ [UInt8.ofNat (ps[(c - cl - 2).toNat]'hi).2.toNat] := by
 refine ⟨by omega, ?_⟩
 conv => lhs; unfold wAt
 rw [if_neg (by omega), List.getD_eq_getElem?_getD, TR h _ (by omega)]; rfl
theorem jJ {cl : Int} {ps : List Pr} (h : bG cl ps) : ∀ (n : Nat) (c : Int), n ≤ ps.length → codeOk cl n c → 1 ≤ (wAt cl (words cl ps) c).length ∧ (wAt cl (words cl ps) c).length ≤ n + 1 := by
  intro n
  induction n using Nat.strongRecOn with
  | ind n ih =>
    intro c hn hc
    by_cases hlt : c < cl
    · rw [nZ _ _ _ hlt]; simp
    · rcases hc with hc | hc
      · omega
      · obtain ⟨hi, e⟩ := jB h c hc.1 (by omega)
        rw [e]
        have := ih (c - cl - 2).toNat (by omega) _ (by omega) (h _ hi).1
        simp; omega
theorem We {cl : Int} {ps : List Pr} (h : bG cl ps) : ∀ (n : Nat) (c : Int), n ≤ ps.length → codeOk cl n c → ∀ x ∈ wAt cl (words cl ps) c, (x.toNat : Int) < cl := by
  intro n
  induction n using Nat.strongRecOn with
  | ind n ih =>
    intro c hn hc x hx
    have key : ∀ y : Int, 0 ≤ y → y < cl → ((UInt8.ofNat y.toNat).toNat : Int) < cl := by
      intro y h0 h1
      rw [UInt8.toNat_ofNat']
      have := Nat.mod_le y.toNat (2 ^ 8)
      omega
    by_cases hlt : c < cl
    · rw [nZ _ _ _ hlt] at hx
      simp at hx
      subst hx
      rcases hc with hc | hc
      · exact key c hc.1 hc.2
      · omega
    · rcases hc with hc | hc
      · omega
      · obtain ⟨hi, e⟩ := jB h c hc.1 (by omega)
        rw [e] at hx
        rcases List.mem_append.1 hx with hx | hx
        · exact ih (c - cl - 2).toNat (by omega) _ (by omega) (h _ hi).1 x hx
        · simp at hx
          subst hx
          exact key _ (h _ hi).2.1 (h _ hi).2.2
structure Kn where
 o : Int
 l : Int
 m : Int
 ps : List Pr
 base : Int
 last : Int
def Kn.cl (K : Kn) : Int := pow2 K.l
def Kn.nx (K : Kn) : Int := pow2 K.l + 2 + K.ps.length
def Kn.top (K : Kn) : Int := pow2 K.m - 1
def Kn.gr (K : Kn) : Bool := decide (0 ≤ K.last ∧ K.nx ≤ K.top)
def Kn.great (K : Kn) : Int := if K.gr = true then K.nx else K.nx - 1
structure Kn.ok (K : Kn) : Prop where
 st : xH K.o K.l K.m
 pairs : bG K.cl K.ps
 len : K.cl + 1 + K.ps.length ≤ K.top
 base0 : 0 ≤ K.base
 base1 : K.base ≤ K.ps.length
 last : (K.last = -1 ∧ K.base = K.ps.length) ∨ codeOk K.cl K.ps.length K.last
theorem Kn.ok.bd {K : Kn} (h : K.ok) : 2 ≤ K.cl ∧ K.cl ≤ 256 ∧ K.top ≤ 1023 ∧ K.ps.length ≤ 1020 ∧ K.cl + 2 ≤ K.top := by
 obtain ⟨h1, h2, h3, h4, h5⟩ := h.st
 have hl := h.len
 have e1 : 2 ≤ K.cl ∧ K.cl ≤ 256 ∧ K.top ≤ 1023 ∧ K.cl + 2 ≤ K.top := by
  unfold Kn.cl Kn.top pow2
  have ll : K.l = 1 ∨ K.l = 2 ∨ K.l = 3 ∨ K.l = 4 ∨ K.l = 5 ∨ K.l = 6 ∨ K.l = 7 ∨ K.l = 8 := by omega
  have mm : K.m = 3 ∨ K.m = 4 ∨ K.m = 5 ∨ K.m = 6 ∨ K.m = 7 ∨ K.m = 8 ∨ K.m = 9 ∨ K.m = 10 := by omega
  rcases ll with e | e | e | e | e | e | e | e <;> rcases mm with f | f | f | f | f | f | f | f <;> rw [e] at h4 ⊢ <;> rw [f] at h4 ⊢ <;> first | decide | omega
 omega
def Kn.word (K : Kn) (c : Int) : Bs := wAt K.cl (words K.cl K.ps) c
def Kn.any (K : Kn) (c : Int) : Bs := if c = K.nx then K.word K.last ++ (K.word K.last).take 1 else K.word c
def Kn.fol (K : Kn) (c : Int) : Bool := decide (codeOk K.cl K.ps.length c ∨ (K.gr = true ∧ c = K.nx))
theorem Kn.tH {K : Kn} (h : K.ok) (hg : K.gr = true) : codeOk K.cl K.ps.length K.last := by
 unfold Kn.gr at hg
 rcases h.last with h1 | h1
 ·simp at hg; omega
 ·exact h1
theorem Kn.sQ {K : Kn} (h : K.ok) {c : Int} (hc : K.fol c = true) : 1 ≤ (K.any c).length ∧ (K.any c).length ≤ K.ps.length + 2 := by
 unfold Kn.fol at hc
 simp only [decide_eq_true_eq] at hc
 unfold Kn.any
 split
 ·rename_i e
  rcases hc with hc | ⟨hg, _⟩
  ·unfold codeOk at hc; unfold Kn.nx at e; unfold Kn.cl at hc; omega
  ·have := jJ h.pairs _ _ (Nat.le_refl _) (K.tH h hg)
   simp only [List.length_append, List.length_take, Kn.word]; omega
 ·rcases hc with hc | ⟨_, e⟩
  ·have := jJ h.pairs _ _ (Nat.le_refl _) hc
   unfold Kn.word; omega
  ·contradiction
theorem Kn.Xw {K : Kn} (h : K.ok) {c : Int} (hc : K.fol c = true) : ∀ x ∈ K.any c, (x.toNat : Int) < K.cl := by
 unfold Kn.fol at hc
 simp only [decide_eq_true_eq] at hc
 unfold Kn.any
 intro x hx
 split at hx
 ·rename_i e
  rcases hc with hc | ⟨hg, _⟩
  ·unfold codeOk at hc; unfold Kn.nx at e; unfold Kn.cl at hc; omega
  ·have := We h.pairs _ _ (Nat.le_refl _) (K.tH h hg)
   rcases List.mem_append.1 hx with hx | hx
   ·exact this x hx
   ·exact this x (List.mem_of_mem_take hx)
 ·rcases hc with hc | ⟨_, e⟩
  ·exact We h.pairs _ _ (Nat.le_refl _) hc x hx
  ·contradiction
def xW (l : Bs) : Int := ((l.headD 0).toNat : Int)
theorem jG (l : Bs) : 0 ≤ xW l ∧ xW l ≤ 255 := by unfold xW; have := (l.headD 0).toNat_lt; omega
theorem iq {l : Bs} {cl : Int} (hl : 1 ≤ l.length) (h : ∀ x ∈ l, (x.toNat : Int) < cl) : xW l < cl := by
 match l, hl with
 | x :: r, _ => exact h x List.mem_cons_self
def Kn.after (K : Kn) (c : Int) : Kn := { K with ps := if K.gr = true then K.ps ++ [(K.last, xW (K.any c))] else K.ps, last := c }
def Kn.cleared (K : Kn) : Kn := { K with ps := K.ps.take K.base.toNat, last := -1 }
theorem Kn.xU {K : Kn} (h : K.ok) : K.cleared.ok := by
 have h0 := h.base0
 have h1 := h.base1
 have hl := h.len
 refine ⟨h.st, mF h.pairs _, ?_, h0, ?_, .inl ⟨rfl, ?_⟩⟩
 ·show K.cl + 1 + ((K.ps.take K.base.toNat).length : Int) ≤ K.top
  simp; omega
 ·show K.base ≤ ((K.ps.take K.base.toNat).length : Int)
  simp; omega
 ·show K.base = ((K.ps.take K.base.toNat).length : Int)
  simp; omega
theorem nG {cl : Int} {n m : Nat} {c : Int} (h : codeOk cl n c) (hn : n ≤ m) : codeOk cl m c := by
 unfold codeOk at *; omega
theorem Kn.tV {K : Kn} (h : K.ok) {c : Int} (hc : K.fol c = true) : (K.after c).ok := by
 have h0 := h.base0
 have h1 := h.base1
 have hl := h.len
 have hb := h.bd
 have ha := K.sQ h hc
 have hlit := iq ha.1 (K.Xw h hc)
 have hh := jG (K.any c)
 unfold Kn.fol at hc
 simp only [decide_eq_true_eq] at hc
 by_cases hg : K.gr = true
 ·have hg' := hg
  have hgl := K.tH h hg
  unfold Kn.gr at hg'
  simp only [decide_eq_true_eq] at hg'
  have e : (K.after c).ps = K.ps ++ [(K.last, xW (K.any c))] := by unfold Kn.after; simp [hg]
  have el : ((K.after c).ps.length : Int) = K.ps.length + 1 := by rw [e]; simp
  refine ⟨h.st, ?_, ?_, h0, ?_, .inr ?_⟩
  ·rw [e]
   exact Rk h.pairs hgl hh.1 hlit
  ·rw [el]
   show K.cl + 1 + ((K.ps.length : Int) + 1) ≤ K.top
   have := hg'.2; unfold Kn.nx at this; unfold Kn.cl; omega
  ·rw [el]
   show K.base ≤ (K.ps.length : Int) + 1
   omega
  ·show codeOk K.cl (K.after c).ps.length c
   have el' : (K.after c).ps.length = K.ps.length + 1 := by omega
   rw [el']
   rcases hc with hc | ⟨_, e⟩
   ·exact nG hc (by omega)
   ·right; unfold Kn.nx at e; unfold Kn.cl; omega
 ·have e : (K.after c).ps = K.ps := by unfold Kn.after; simp [hg]
  refine ⟨h.st, by rw [e]; exact h.pairs, by rw [e]; exact hl, h0, by rw [e]; exact h1, .inr ?_⟩
  rw [e]
  rcases hc with hc | ⟨hg2, _⟩
  ·exact hc
  ·exact absurd hg2 hg
def Kn.yA (K : Kn) : List Bs := (List.range (K.great - K.cl - 1).toNat).map fun (i : Nat) => K.any (K.cl + 2 + (i : Int))
theorem Kn.uF {K : Kn} (h : K.ok) : K.cl + 1 ≤ K.great ∧ K.great ≤ K.top ∧ K.great ≤ K.cl + 2 + K.ps.length ∧ K.cl + 1 + K.ps.length ≤ K.great := by
 have hl := h.len
 have hb := h.bd
 unfold Kn.great
 by_cases hg : K.gr = true
 ·rw [if_pos hg]
  unfold Kn.gr at hg
  simp only [decide_eq_true_eq] at hg
  have := hg.2
  unfold Kn.nx at *; unfold Kn.cl at *; omega
 ·rw [if_neg hg]; unfold Kn.nx; unfold Kn.cl at *; omega
theorem Kn.wR (K : Kn) : K.yA.length = (K.great - K.cl - 1).toNat := by unfold Kn.yA; simp
theorem Kn.mi {K : Kn} (i : Nat) (hi : i < K.yA.length) : K.fol (K.cl + 2 + i) = true := by
 rw [K.wR] at hi
 unfold Kn.fol
 simp only [decide_eq_true_eq]
 unfold Kn.great at hi
 by_cases hg : K.gr = true
 ·rw [if_pos hg] at hi
  unfold Kn.nx at *; unfold codeOk; unfold Kn.cl at *
  by_cases e : i = K.ps.length
  ·right; exact ⟨hg, by omega⟩
  ·left; right; omega
 ·rw [if_neg hg] at hi
  left; right; unfold Kn.nx at hi; unfold Kn.cl at *; omega
def better (data best w : Bs) : Bs := if best.length < w.length ∧ w.isPrefixOf data = true then w else best
def Kn.longest (K : Kn) (data : Bs) : Bs := K.yA.foldl (better data) (data.take 1)
def Kn.find (K : Kn) (w : Bs) : Int :=
 if w.length = 1 ∧ xW w < K.cl then xW w else match K.yA.findIdx? (fun x => decide (x = w)) with
  | some i => K.cl + 2 + i
  | none => -1
theorem ZH (data : Bs) (ws : List Bs) (b : Bs) : ws.foldl (better data) b = b ∨ (ws.foldl (better data) b ∈ ws ∧ b.length < (ws.foldl (better data) b).length ∧ (ws.foldl (better data) b).isPrefixOf data = true) := by
  induction ws using yS with
  | h0 => exact .inl rfl
  | h1 ws w ih =>
    rw [List.foldl_append]
    simp only [List.foldl_cons, List.foldl_nil]
    unfold better at ih ⊢
    split
    · rename_i hc
      refine .inr ⟨by simp, ?_, hc.2⟩
      rcases ih with e | ⟨_, h2, _⟩
      · rw [e] at hc; exact hc.1
      · have := hc.1; omega
    · rcases ih with e | ⟨h1, h2, h3⟩
      · exact .inl e
      · exact .inr ⟨List.mem_append_left _ h1, h2, h3⟩
theorem Kn.rG (K : Kn) (data : Bs) : K.longest data = data.take 1 ∨ (K.longest data ∈ K.yA ∧ 1 < (K.longest data).length + (if data = [] then 1 else 0) ∧ (K.longest data).isPrefixOf data = true) := by
 unfold Kn.longest
 rcases ZH data K.yA (data.take 1) with h | ⟨h1, h2, h3⟩
 ·exact .inl h
 ·refine .inr ⟨h1, ?_, h3⟩
  cases data <;> simp at h2 ⊢ <;> omega
theorem Kn.yX (K : Kn) (data : Bs) : K.longest data = data.take (K.longest data).length ∧ (K.longest data).length ≤ data.length := by
 rcases K.rG data with h | ⟨_, _, h⟩
 ·rw [h]
  cases data <;> simp
 ·have := List.isPrefixOf_iff_prefix.1 h
  exact ⟨List.prefix_iff_eq_take.1 this, this.length_le⟩
theorem Kn.wB (K : Kn) {data : Bs} (h : data ≠ []) : 1 ≤ (K.longest data).length := by
 rcases K.rG data with e | ⟨_, h2, _⟩
 ·rw [e]; cases data <;> simp at h ⊢
 ·rw [if_neg h] at h2; omega
theorem Kn.pq {K : Kn} (h : K.ok) {data : Bs} (hd : data ≠ []) (hl : data.all (vU K.l) = true) : K.fol (K.find (K.longest data)) = true ∧ K.any (K.find (K.longest data)) = K.longest data ∧ 0 ≤ K.find (K.longest data) := by
 have hb := h.bd
 have hp := K.yX data
 have h1 := K.wB hd
 have hhead : xW (K.longest data) < K.cl := by
  refine iq h1 fun x hx => ?_
  rw [hp.1] at hx
  have := List.all_eq_true.1 hl x (List.mem_of_mem_take hx)
  simpa [vU, Kn.cl] using this
 have hbd := jG (K.longest data)
 unfold Kn.find
 by_cases hone : (K.longest data).length = 1
 ·rw [if_pos ⟨hone, hhead⟩]
  refine ⟨?_, ?_, hbd.1⟩
  ·unfold Kn.fol; simp only [decide_eq_true_eq]; left; left; omega
  ·unfold Kn.any
   rw [if_neg (by unfold Kn.nx; unfold Kn.cl at *; omega)]
   unfold Kn.word
   rw [nZ _ _ _ hhead]
   generalize K.longest data = x at hone
   match x, hone with
   | [c], _ => simp [xW]
 ·rw [if_neg (fun hh => hone hh.1)]
  rcases K.rG data with e | ⟨hm, _, _⟩
  ·exact absurd (by rw [e]; cases data <;> simp at hd ⊢) hone
  ·have hs : (K.yA.findIdx? (fun x => decide (x = K.longest data))).isSome = true := by
    rw [List.findIdx?_isSome, List.any_eq_true]
    exact ⟨_, hm, by simp⟩
   obtain ⟨i, hi⟩ := Option.isSome_iff_exists.1 hs
   rw [hi]
   obtain ⟨hlt, hx, _⟩ := List.findIdx?_eq_some_iff_getElem.1 hi
   have hf := K.mi i hlt
   simp only
   refine ⟨hf, ?_, by omega⟩
   simp only [decide_eq_true_eq] at hx
   rw [← hx]
   simp [Kn.yA]
def xO : Nat → Kn → Bs → Kn
 | 0, K, _ => K
 | n + 1, K, t => if t = [] then K else xO n (K.after (K.find (K.longest t))) (t.drop (K.longest t).length)
def Kn.learn (K : Kn) (t : Bs) : Kn :=
 let K1 := xO t.length K.cleared t
 { K1 with base := K1.ps.length, last := -1 }
def ve (o l m : Int) : Kn := ⟨o, l, m, [], 0, -1⟩
def zI (o l m : Int) (d : Bs) : Kn := (ve o l m).learn d
def yc : Nat → Kn → Bs → List Int
  | 0, _, _ => []
  | n + 1, K, t => if t = [] then [] else
    let c := K.find (K.longest t)
    let K1 := K.after c
    let r := t.drop (K.longest t).length
    if r ≠ [] ∧ K1.top < K1.nx ∧ K1.base < K1.ps.length then c :: K.cl :: yc n K1.cleared r else c :: yc n K1 r
def Kn.yT (K : Kn) (t : Bs) : List Int := K.cl :: (yc t.length K.cleared t ++ [K.cl + 1])
theorem qR (p : UInt8 → Bool) (t : Bs) (n : Nat) (h : t.all p = true) : (t.drop n).all p = true := by
 rw [List.all_eq_true] at h ⊢
 exact fun x hx => h x (List.mem_of_mem_drop hx)
theorem dE : ∀ (n : Nat) (K : Kn) (t : Bs), K.ok → t.all (vU K.l) = true → (xO n K t).ok ∧ (xO n K t).o = K.o ∧ (xO n K t).l = K.l ∧ (xO n K t).m = K.m
  | 0, K, _, h, _ => ⟨h, rfl, rfl, rfl⟩
  | n + 1, K, t, h, hl => by
    unfold xO
    split
    · exact ⟨h, rfl, rfl, rfl⟩
    · rename_i hne
      have hf := K.pq h hne hl
      have := dE n (K.after (K.find (K.longest t))) (t.drop (K.longest t).length) (K.tV h hf.1) (qR _ _ _ hl)
      exact this
theorem Kn.RF {K : Kn} (h : K.ok) {t : Bs} (hl : t.all (vU K.l) = true) : (K.learn t).ok ∧ (K.learn t).o = K.o ∧ (K.learn t).l = K.l ∧ (K.learn t).m = K.m := by
 have h1 := dE t.length K.cleared t (K.xU h) hl
 obtain ⟨hk, h2, h3, h4⟩ := h1
 refine ⟨⟨hk.st, hk.pairs, hk.len, ?_, ?_, .inl ⟨rfl, rfl⟩⟩, h2, h3, h4⟩
 ·show (0 : Int) ≤ ((xO t.length K.cleared t).ps.length : Int); omega
 ·exact Int.le_refl _
theorem nT {o l m : Int} (h : xH o l m) : (ve o l m).ok := by
 have hb : pow2 l + 1 ≤ pow2 m - 1 := by
  obtain ⟨h1, h2, h3, h4, h5⟩ := h
  unfold pow2
  have ll : l = 1 ∨ l = 2 ∨ l = 3 ∨ l = 4 ∨ l = 5 ∨ l = 6 ∨ l = 7 ∨ l = 8 := by omega
  have mm : m = 3 ∨ m = 4 ∨ m = 5 ∨ m = 6 ∨ m = 7 ∨ m = 8 ∨ m = 9 ∨ m = 10 := by omega
  rcases ll with e | e | e | e | e | e | e | e <;> rcases mm with f | f | f | f | f | f | f | f <;> rw [e] at h4 ⊢ <;> rw [f] at h4 ⊢ <;> first | decide | omega
 refine ⟨h, ?_, ?_, Int.le_refl _, Int.le_refl _, .inl ⟨rfl, rfl⟩⟩
 ·intro i hi; exact absurd hi (by simp [ve])
 ·show pow2 l + 1 + ((0 : Nat) : Int) ≤ pow2 m - 1
  omega
def needed (n : Nat) : Nat := if n ≤ 1 then 1 else needed (n / 2) + 1
termination_by n
decreasing_by omega
theorem qc (n : Nat) (h : 1 < n) : needed n = needed (n / 2) + 1 := by rw [needed, if_neg (by omega)]
theorem uP (n : Nat) (h : n ≤ 1) : needed n = 1 := by rw [needed, if_pos h]
theorem ry : ∀ (k n : Nat), n < 2 ^ (k + 1) → 1 ≤ needed n ∧ needed n ≤ k + 1
  | 0, n, h => by rw [uP n (by omega)]; omega
  | k + 1, n, h => by
    by_cases h1 : n ≤ 1
    · rw [uP n h1]; omega
    · rw [qc n (by omega)]
      have := ry k (n / 2) (by rw [Nat.pow_succ] at h; omega)
      omega
theorem Zn : ∀ (k n : Nat), needed n ≤ k → n < 2 ^ k
  | k, n, h => by
    by_cases h1 : n ≤ 1
    · rw [uP n h1] at h
      have : 2 ^ 1 ≤ 2 ^ k := Nat.pow_le_pow_right (by omega) h
      omega
    · rw [qc n (by omega)] at h
      match k, h with
      | k + 1, h =>
        have := Zn k (n / 2) (by omega)
        rw [Nat.pow_succ]; omega
  termination_by k n => n
  decreasing_by omega
def qL (c i : Nat) : UInt8 := UInt8.ofNat (48 + c / 2 ^ i % 2)
def xY (c w : Nat) : Bs := (List.range w).map (qL c)
def zU (o : Int) (c w : Nat) : Bs := if o = 0 then xY c w else (xY c w).reverse
theorem xg (o : Int) (c w : Nat) : (zU o c w).length = w := by unfold zU; split <;> simp [xY]
theorem oH (c w : Nat) : xY c (w + 1) = xY c w ++ [qL c w] := by unfold xY; rw [List.range_succ, List.map_append]; rfl
theorem YW (o : Int) (c w : Nat) (h : o = 0) : zU o c (w + 1) = zU o c w ++ [qL c w] := by
 unfold zU; rw [if_pos h, if_pos h, oH]
theorem Zc (o : Int) (c w : Nat) (h : o ≠ 0) : zU o c (w + 1) = qL c w :: zU o c w := by
 unfold zU; rw [if_neg h, if_neg h, oH, List.reverse_append]; rfl
def yV (l : Bs) : Bool := l.all fun c => c = 48 || c = 49
theorem UY (c i : Nat) : qL c i = 48 ∨ qL c i = 49 := by
 unfold qL
 have : c / 2 ^ i % 2 = 0 ∨ c / 2 ^ i % 2 = 1 := by omega
 rcases this with e | e <;> rw [e] <;> decide
theorem lH (o : Int) (c w : Nat) : yV (zU o c w) = true := by
 have h : yV (xY c w) = true := by
  unfold yV xY
  rw [List.all_eq_true]
  intro x hx
  simp only [List.mem_map] at hx
  obtain ⟨i, _, rfl⟩ := hx
  rcases UY c i with e | e <;> simp [e]
 unfold zU
 split
 ·exact h
 ·unfold yV at *; rw [List.all_reverse]; exact h
def yE (l : Bs) : Nat := l.foldl (fun n c => 2 * n + (c.toNat - 48)) 0
def numBits (o : Int) (l : Bs) : Nat := if o = 0 then yE l.reverse else yE l
theorem wz (l : Bs) (c : UInt8) : yE (l ++ [c]) = 2 * yE l + (c.toNat - 48) := by unfold yE; rw [List.foldl_append]; rfl
theorem lU (l : Bs) (h : yV l = true) : yE l < 2 ^ l.length := by
  induction l using yS with
  | h0 => simp [yE]
  | h1 l c ih =>
    unfold yV at h ih
    rw [List.all_append, Bool.and_eq_true] at h
    have h1 := ih h.1
    have h2 : c = 48 ∨ c = 49 := by simpa using h.2
    rw [wz, List.length_append, List.length_cons, List.length_nil, Nat.pow_add]
    have h3 : c.toNat - 48 ≤ 1 := by rcases h2 with e | e <;> subst e <;> decide
    omega
theorem qC (l : Bs) : yV l.reverse = yV l := by unfold yV; rw [List.all_reverse]
theorem pI (o : Int) (l : Bs) (h : yV l = true) : numBits o l < 2 ^ l.length := by
 unfold numBits
 split
 ·have := lU l.reverse (by rw [qC]; exact h); rwa [List.length_reverse] at this
 ·exact lU l h
theorem sF (c : Nat) : ∀ w, yE (xY c w).reverse = c % 2 ^ w
  | 0 => by simp [xY, yE, Nat.mod_one]
  | w + 1 => by
    have key : ∀ (l : Bs) (x : UInt8), (∀ y ∈ l, y = 48 ∨ y = 49) → yE (x :: l) = (x.toNat - 48) * 2 ^ l.length + yE l := by
      intro l
      induction l using yS with
      | h0 => intro x _; simp [yE]
      | h1 l y ih =>
        intro x h
        rw [show x :: (l ++ [y]) = (x :: l) ++ [y] from rfl, wz, wz, ih x (fun z hz => h z (by simp [hz]))]
        rw [List.length_append, List.length_cons, List.length_nil, Nat.pow_add, Nat.mul_add]
        have : 2 * ((x.toNat - 48) * 2 ^ l.length) = (x.toNat - 48) * (2 ^ l.length * 2 ^ (0 + 1)) := by
          rw [Nat.zero_add, Nat.pow_one, ← Nat.mul_assoc, Nat.mul_comm 2 (x.toNat - 48), Nat.mul_assoc, Nat.mul_comm 2]
        omega
    rw [oH, List.reverse_append]
    show yE (qL c w :: (xY c w).reverse) = _
    rw [key _ _ (fun y hy => by
      simp only [List.mem_reverse, xY, List.mem_map] at hy
      obtain ⟨i, _, rfl⟩ := hy
      exact UY c i), sF c w]
    have hl : (xY c w).reverse.length = w := by simp [xY]
    rw [hl]
    have hb : (qL c w).toNat - 48 = c / 2 ^ w % 2 := by
      unfold qL; rw [UInt8.toNat_ofNat']; omega
    rw [hb, Nat.pow_succ, Nat.mod_mul, Nat.mul_comm, Nat.add_comm]
theorem Ru (o : Int) (c w : Nat) (h : c < 2 ^ w) : numBits o (zU o c w) = c := by
 unfold numBits zU
 split
 ·rw [sF, Nat.mod_eq_of_lt h]
 ·rw [sF, Nat.mod_eq_of_lt h]
def oN (l : Bs) : Bs := l ++ List.replicate ((8 - l.length % 8) % 8) 48
theorem qp (l : Bs) : (oN l).length = (l.length + 7) / 8 * 8 := by unfold oN; simp; omega
def jb (o : Int) (l : Bs) : Bs := (List.range ((oN l).length / 8)).map fun i => UInt8.ofNat (numBits o (((oN l).drop (8 * i)).take 8))
theorem ja (o : Int) (l : Bs) : (jb o l).length = (l.length + 7) / 8 := by unfold jb; rw [List.length_map, List.length_range, qp]; omega
def zJ (o : Int) (l : Bs) : Bs := l.flatMap fun c => zU o c.toNat 8
theorem uB (o : Int) (l : Bs) : (zJ o l).length = 8 * l.length := by
 induction l with
 | nil => rfl
 | cons c l ih => unfold zJ at *; rw [List.flatMap_cons, List.length_append, ih, xg, List.length_cons]; omega
theorem kY (o : Int) (l : Bs) : yV (zJ o l) = true := by
  induction l with
  | nil => rfl
  | cons c l ih =>
    have h := lH o c.toNat 8
    unfold zJ yV at *
    rw [List.flatMap_cons, List.all_append, h, ih]; rfl
def Kn.width (K : Kn) : Nat := max (K.l.toNat + 1) (needed K.great.toNat)
def Kn.step (K : Kn) (c : Int) : Kn := if c = K.cl then K.cleared else K.after c
structure Wk where
 K : Kn
 ws : List Nat
 d : Bs
def Wk.step (x : Wk) (c : Int) : Wk := ⟨x.K.step c, x.ws ++ [x.K.width], x.d ++ (if c = x.K.cl then [] else x.K.any c)⟩
def Kn.walk (K : Kn) (cs : List Int) : Wk := cs.foldl Wk.step ⟨K, [], []⟩
theorem SB (K : Kn) (cs : List Int) (c : Int) : K.walk (cs ++ [c]) = (K.walk cs).step c := by unfold Kn.walk; rw [List.foldl_append]; rfl
theorem Pv (K : Kn) (cs : List Int) : (K.walk cs).ws.length = cs.length := by
 induction cs using yS with
 | h0 => rfl
 | h1 cs c ih => rw [SB]; simp [Wk.step, ih]
def Kn.bits (K : Kn) (cs : List Int) : Bs := (cs.zip (K.walk cs).ws).flatMap fun p => zU K.o p.1.toNat p.2
def Kn.comp (K : Kn) (t : Bs) : Bs := jb K.o (K.bits (K.yT t))
end Go.Proofs.YtinncdollpajkaaGreat
namespace Go.Proofs.YtinncdollpajkaaGreat
open Go.RowKit
def wI : Kn → List Int → Nat → Prop
 | _, [], _ => False
 | K, c :: r, n => if c = K.cl + 1 then r = [] else if c = K.cl then wI K.cleared r n else K.fol c = true ∧ n ≤ 2000 ∧ wI (K.after c) r (n + (K.any c).length)
theorem ai {K : Kn} (h : K.ok) {c : Int} (hc : K.fol c = true) : 0 ≤ c ∧ c ≤ 1100 * 2 ∧ c ≠ K.cl ∧ c ≠ K.cl + 1 := by
 have hb := h.bd
 unfold Kn.fol at hc
 simp only [decide_eq_true_eq] at hc
 unfold codeOk Kn.nx at hc
 unfold Kn.cl at *
 omega
theorem qE : ∀ (n : Nat) (K : Kn) (t : Bs) (m : Nat), K.ok → t.all (vU K.l) = true → t.length ≤ n → m + t.length ≤ 2000 → wI K (yc n K t ++ [K.cl + 1]) m
  | 0, K, t, m, _, _, ht, _ => by simp [yc, wI]
  | n + 1, K, t, m, hk, hl, ht, hm => by
    unfold yc
    split
    · simp [wI]
    · rename_i hne
      have hf := K.pq hk hne hl
      have hlp := (K.yX t).2
      have hlq := K.wB hne
      obtain ⟨hf1, hf2, hf3⟩ := hf
      have hb := ai hk hf1
      have hao := K.tV hk hf1
      have hd : (t.drop (K.longest t).length).length = t.length - (K.longest t).length := by simp
      have hrl : (t.drop (K.longest t).length).all (vU K.l) = true := qR _ _ _ hl
      simp only
      split
      · rw [List.cons_append, wI, if_neg hb.2.2.2, if_neg hb.2.2.1, hf2, List.cons_append, wI]
        refine ⟨hf1, by omega, ?_⟩
        have e1 : (K.after (K.find (K.longest t))).cl = K.cl := rfl
        rw [e1, if_neg (by omega), if_pos rfl]
        exact qE n _ _ _ (Kn.xU hao) hrl (by omega) (by omega)
      · rw [List.cons_append, wI, if_neg hb.2.2.2, if_neg hb.2.2.1, hf2]
        exact ⟨hf1, by omega, qE n _ _ _ hao hrl (by omega) (by omega)⟩
theorem gY {K : Kn} (hk : K.ok) {t : Bs} (hl : t.all (vU K.l) = true) (ht : t.length ≤ 2000) : wI K (K.yT t) 0 := by
 unfold Kn.yT
 rw [wI, if_neg (by omega), if_pos rfl]
 exact qE _ _ _ _ (Kn.xU hk) hl (Nat.le_refl _) (by omega)
theorem Rj (cs : List Int) : ∀ (K : Kn) (ws : List Nat) (d : Bs), cs.foldl Wk.step ⟨K, ws, d⟩ = ⟨(K.walk cs).K, ws ++ (K.walk cs).ws, d ++ (K.walk cs).d⟩ := by
  induction cs with
  | nil => intro K ws d; simp [Kn.walk]
  | cons c r ih =>
    intro K ws d
    show r.foldl Wk.step ⟨K.step c, ws ++ [K.width], d ++ (if c = K.cl then [] else K.any c)⟩ = _
    rw [ih]
    have h : K.walk (c :: r) = r.foldl Wk.step ⟨K.step c, [] ++ [K.width], [] ++ (if c = K.cl then [] else K.any c)⟩ := rfl
    rw [h, ih]
    simp
theorem nX (K : Kn) (c : Int) (r : List Int) : (K.walk (c :: r)).ws = K.width :: ((K.step c).walk r).ws := by
 have h : K.walk (c :: r) = r.foldl Wk.step ⟨K.step c, [] ++ [K.width], [] ++ (if c = K.cl then [] else K.any c)⟩ := rfl
 rw [h, Rj]; simp
theorem jf {K : Kn} (h : K.ok) : 1 ≤ K.width ∧ K.width ≤ 10 := by
 have hb := h.bd
 have hg := K.uF h
 have hn := ry 9 K.great.toNat (by omega)
 obtain ⟨h1, h2, h3, h4, h5⟩ := h.st
 unfold Kn.width
 omega
theorem step_ok {K : Kn} (h : K.ok) {c : Int} (hc : c ≠ K.cl → K.fol c = true) : (K.step c).ok := by
 unfold Kn.step
 split
 ·exact K.xU h
 ·rename_i hne; exact K.tV h (hc hne)
theorem dh (cs : List Int) : ∀ (K : Kn) (n : Nat), K.ok → wI K cs n → ∀ p ∈ cs.zip (K.walk cs).ws, 0 ≤ p.1 ∧ p.1 ≤ 2200 ∧ p.2 ≤ 10 := by
  induction cs with
  | nil => intro K n _ h; exact absurd h (by simp [wI])
  | cons c r ih =>
    intro K n hk hg p hp
    have hw := jf hk
    have hb := hk.bd
    rw [nX, List.zip_cons_cons, List.mem_cons] at hp
    rw [wI] at hg
    split at hg
    · rename_i he
      subst hg
      rcases hp with rfl | hp
      · simp only; omega
      · simp at hp
    · split at hg
      · rename_i he
        rcases hp with rfl | hp
        · simp only; omega
        · have hs : K.step c = K.cleared := if_pos he
          rw [hs] at hp
          exact ih _ _ (K.xU hk) hg p hp
      · rename_i he
        have hf := ai hk hg.1
        rcases hp with rfl | hp
        · simp only; omega
        · have hs : K.step c = K.after c := if_neg he
          rw [hs] at hp
          exact ih _ _ (K.tV hk hg.1) hg.2.2 p hp
theorem bJ (K : Kn) (cs : List Int) : yV (K.bits cs) = true := by
 unfold Kn.bits yV
 rw [List.all_flatMap, List.all_eq_true]
 intro p _
 exact lH _ _ _
theorem gU {K : Kn} (hk : K.ok) {cs : List Int} {n : Nat} (hg : wI K cs n) : (K.bits cs).length ≤ 10 * cs.length := by
  have hf := dh cs K n hk hg
  have hl : (cs.zip (K.walk cs).ws).length ≤ cs.length := by rw [List.length_zip]; omega
  unfold Kn.bits
  generalize cs.zip (K.walk cs).ws = z at *
  have : (z.flatMap fun p => zU K.o p.1.toNat p.2).length ≤ 10 * z.length := by
    clear hl
    induction z with
    | nil => simp
    | cons p z ih =>
      have h1 := (hf p List.mem_cons_self).2.2
      have h2 := ih fun q hq => hf q (List.mem_cons_of_mem _ hq)
      rw [List.flatMap_cons, List.length_append, xg, List.length_cons]; omega
  omega
end Go.Proofs.YtinncdollpajkaaGreat
