import Derived.Test.YtfonokhafdflcaaGreatDoorKGB
import Derived.Test.YtfonokhafdflcaaGreatDoorKGZ
namespace Go.Proofs.YtfonokhafdflcaaGreatDoor
set_option linter.unusedSimpArgs false
set_option linter.unusedVariables false
theorem group_lost {bs : List Blk} {fs : List (Int × Blk)} {a i K : Nat} (h0 : a ≤ i) (hn : firstF fs (i : Int) = none) (ho : ∀ j : Nat, a ≤ j → j < a + K → j ≠ i → (h : j < bs.length) → firstF fs (j : Int) = some bs[j]) :
    ∀ j, j ≤ K → a + j ≤ bs.length → lostTo fs (a : Int) j = (if i < a + j then [(i : Int)] else []) ∧ foundTo fs (a : Int) j = oth bs a i j
  | 0, _, _ => by
    refine ⟨by rw [if_neg (by omega)]; rfl, ?_⟩
    rw [oth_zero bs h0]; rfl
  | j + 1, hjK, hj => by
    obtain ⟨h1, h2⟩ := group_lost h0 hn ho j (by omega) (by omega)
    have e : (a : Int) + (j : Int) = ((a + j : Nat) : Int) := by omega
    by_cases hi : a + j = i
    · have hf : firstF fs ((a : Int) + (j : Int)) = none := by rw [e, hi]; exact hn
      obtain ⟨h3, h4⟩ := lostTo_step_none hf
      rw [h3, h4, h1, h2, if_neg (by omega), if_pos (by omega), oth_self bs hi, e, hi]
      exact ⟨rfl, rfl⟩
    · have hf : firstF fs ((a : Int) + (j : Int)) = some (bs[a + j]'(by omega)) := by rw [e]; exact ho (a + j) (by omega) (by omega) hi (by omega)
      obtain ⟨h3, h4⟩ := lostTo_step_some hf
      rw [h3, h4, h1, h2, oth_next bs hi (by omega)]
      refine ⟨?_, rfl⟩
      by_cases hx : i < a + j
      · rw [if_pos hx, if_pos (by omega)]
      · rw [if_neg hx, if_neg (by omega)]
theorem built_self {b : Blk} (hb : b.ok = true) {ls : List Bs} {p : Bs} (h : rebuildT ls p = some b.text) : builtOf ls p b.num = some b.text := by
 have hp := parse_self hb [] [] 0 rfl
 simp only [List.nil_append, List.append_nil] at hp
 unfold builtOf
 rw [h]
 simp only
 rw [if_pos ⟨hp.1, by rw [hp.2.1], by rw [hp.2.2]; simp⟩]
theorem rep_oneK {bs : List Blk} {fs : List (Int × Blk)} {g i : Nat} (hnum : NumOk 0 bs) (h40 : bs.length ≤ 40) (hg : 1 ≤ g) (hi : i < bs.length)
  (hall : ∀ j : Nat, (h : j < bs.length) → firstF fs (j : Int) = some bs[j] ∨ firstF fs (j : Int) = none)
  (hone : ∀ j k : Nat, j < bs.length → k < bs.length → j / g = k / g → firstF fs (j : Int) = none → firstF fs (k : Int) = none → j = k) :
  repTxt fs (parL bs g (cnt bs.length g)) g bs.length i = some bs[i].text := by
 have hok := NumOk_mem hnum
 have hdm := Nat.div_mul_le_self i g
 have hlt := Nat.lt_div_mul_add (a := i) (b := g) (by omega)
 have hA : grpA (g : Int) i = ((i / g * g : Nat) : Int) := by unfold grpA; simp
 have hK : grpK (g : Int) (bs.length : Int) i = min ((i / g + 1) * g) bs.length - i / g * g := by
  unfold grpK
  have e1 : ((i : Int) / (g : Int) + 1) * (g : Int) = (((i / g + 1) * g : Nat) : Int) := by simp
  have e2 : (i : Int) / (g : Int) * (g : Int) = ((i / g * g : Nat) : Int) := by simp
  rw [e1, e2]
  omega
 have hmul : (i / g + 1) * g = i / g * g + g := by rw [Nat.add_mul, Nat.one_mul]
 have hP : (parL bs g (cnt bs.length g)).getD ((i : Int) / (g : Int)).toNat [] = parT (grpT bs (i / g * g) g) := by
  have e : ((i : Int) / (g : Int)).toNat = i / g := by
   have : (i : Int) / (g : Int) = ((i / g : Nat) : Int) := by simp
   rw [this]; rfl
  rw [e, List.getD_eq_getElem?_getD, parL_at bs g _ _ (lt_cnt hg hi)]; rfl
 unfold repTxt
 rw [hA, hK, hP]
 rcases hall i hi with hf | hf
 ·unfold txtN; rw [hf]
 ·generalize hK' : min ((i / g + 1) * g) bs.length - i / g * g = k at *
  have hak : i / g * g + k ≤ bs.length := by omega
  have hik : i < i / g * g + k := by omega
  have hgl := group_lost (bs := bs) (fs := fs) (a := i / g * g) (i := i) (K := k) hdm hf (fun j h0 hk2 hne hj => by
   rcases hall j hj with h | h
   ·exact h
   ·exact absurd (hone j i hj hi (Nat.div_eq_of_lt_le h0 (by rw [Nat.add_mul]; omega)) h hf) hne) k (Nat.le_refl _) hak
  unfold txtN
  rw [hf]
  simp only
  rw [hgl.1, if_pos hik, if_pos rfl, hgl.2]
  have hn : (i : Int) = bs[i].num := by have := (NumOk_at hnum i hi).2; rw [Nat.zero_add] at this; exact this.symm
  rw [hn]
  exact built_self (hok _ (List.getElem_mem hi)) (rebuild_grp hok h40 hdm hik hak (by omega) (by omega))
theorem catTo_full {f : Nat → Option Bs} {bs : List Blk} (h : ∀ (i : Nat) (hi : i < bs.length), f i = some bs[i].text) : ∀ k, k ≤ bs.length → catTo f k = some (catT (bs.take k))
  | 0, _ => by simp [catTo, catT]
  | k + 1, hk => by
    rw [catTo_step (catTo_full h k (by omega)) (h k (by omega)), List.take_succ_eq_append_getElem (show k < bs.length by omega), catT_snoc]
theorem repair_full {X x : Bs} {bs : List Blk} {g : Nat} (hB : blocksB X = some bs) (hg : 1 ≤ g) (hg2 : g ≤ 40) (hx : x.length ≤ 8000)
  (hall : ∀ j : Nat, (h : j < bs.length) → firstF (findB x) (j : Int) = some bs[j] ∨ firstF (findB x) (j : Int) = none)
  (hone : ∀ j k : Nat, j < bs.length → k < bs.length → j / g = k / g → firstF (findB x) (j : Int) = none → firstF (findB x) (k : Int) = none → j = k) :
  repairB x (parL bs g (cnt bs.length g)) g bs.length = some X := by
 obtain ⟨hnum, hcat, hsz⟩ := blocks_some hB
 have h40 := (blocks_short hB).2
 have hc : ((parL bs g (cnt bs.length g)).length : Int) = ((bs.length : Int) + (g : Int) - 1) / (g : Int) := by
  rw [parL_length, show ((bs.length : Int) + (g : Int) - 1) = ((bs.length + g - 1 : Nat) : Int) by omega]
  unfold cnt; simp
 have hcat2 := catTo_full (f := repTxt (findB x) (parL bs g (cnt bs.length g)) g bs.length) (fun i hi => rep_oneK hnum h40 hg hi hall hone) bs.length (Nat.le_refl _)
 unfold repairB
 rw [if_pos ⟨hx, by omega, by omega, by omega, by omega, hc⟩, Int.toNat_natCast, hcat2, List.take_length, hcat]
 simp only
 rw [hB]; rfl
theorem parB_someK {X : Bs} {bs : List Blk} {g : Nat} (hB : blocksB X = some bs) (hg : 1 ≤ g) (hg2 : g ≤ 40) : parB X g = some (parL bs g (cnt bs.length g)) := by
 unfold parB; rw [if_pos ⟨by omega, by omega⟩, hB]; simp
end Go.Proofs.YtfonokhafdflcaaGreatDoor
namespace Go.Proofs.YtfonokhafdflcaaGreatDoor
open Go.RowKit
def Kn.full (K : Kn) : Bool := decide (K.top < K.nx ∧ K.base < K.ps.length)
theorem full_cleared {K : Kn} (h : 0 ≤ K.base) : K.cleared.full = false := by
 unfold Kn.full Kn.cleared
 simp only [decide_eq_false_iff_not, List.length_take]
 omega
def greedyP : Nat → Kn → Bs → List Int
  | 0, _, _ => []
  | n + 1, K, t => if t = [] then [] else
    (if K.full = true then [K.cl] else []) ++ (if K.full = true then K.cleared else K).find ((if K.full = true then K.cleared else K).longest t) ::
      greedyP n ((if K.full = true then K.cleared else K).after ((if K.full = true then K.cleared else K).find ((if K.full = true then K.cleared else K).longest t))) (t.drop ((if K.full = true then K.cleared else K).longest t).length)
theorem greedyP_eq : ∀ (n : Nat) (K : Kn) (t : Bs), 0 ≤ K.base → t.length ≤ n → greedyP n K t = if t ≠ [] ∧ K.full = true then K.cl :: greedyGo n K.cleared t else greedyGo n K t
  | 0, K, t, _, ht => by
    have e : t = [] := List.length_eq_zero_iff.1 (by omega)
    subst e; simp [greedyP, greedyGo]
  | n + 1, K, t, h, htl => by
    by_cases ht : t = []
    · subst ht; simp [greedyP, greedyGo]
    · unfold greedyP
      rw [if_neg ht]
      have key : ∀ K1 : Kn, 0 ≤ K1.base → K1.full = false → K1.find (K1.longest t) :: greedyP n (K1.after (K1.find (K1.longest t))) (t.drop (K1.longest t).length) = greedyGo (n + 1) K1 t := by
        intro K1 hb hf
        have hp := K1.longest_pos ht
        rw [greedyP_eq n (K1.after (K1.find (K1.longest t))) _ hb (by simp; omega)]
        rw [greedyGo, if_neg ht]
        simp only
        have e : (K1.after (K1.find (K1.longest t))).cl = K1.cl := rfl
        by_cases hr : t.drop (K1.longest t).length ≠ [] ∧ (K1.after (K1.find (K1.longest t))).top < (K1.after (K1.find (K1.longest t))).nx ∧ (K1.after (K1.find (K1.longest t))).base < (K1.after (K1.find (K1.longest t))).ps.length
        · rw [if_pos hr, e]
          have hfull : (K1.after (K1.find (K1.longest t))).full = true := by unfold Kn.full; simpa using hr.2
          rw [if_pos ⟨hr.1, hfull⟩]
        · rw [if_neg hr]
          rw [if_neg]
          intro hc
          exact hr ⟨hc.1, by have := hc.2; unfold Kn.full at this; simpa using this⟩
      cases hf : K.full with
      | true =>
        simp only [if_true]
        rw [List.cons_append, List.nil_append, key K.cleared h (full_cleared h), if_pos ⟨ht, trivial⟩]
      | false =>
        simp only [Bool.false_eq_true, if_false, List.nil_append, and_false]
        exact key K h hf
theorem greedyP_top {K : Kn} {t : Bs} (h : 0 ≤ K.base) : K.greedy t = K.cl :: (greedyP t.length K.cleared t ++ [K.cl + 1]) := by
 unfold Kn.greedy
 rw [greedyP_eq _ _ _ (by exact h) (Nat.le_refl _), full_cleared h]
 simp
theorem greedyP_full {n : Nat} {K : Kn} {t : Bs} (ht : t ≠ []) (hf : K.full = true) : greedyP (n + 1) K t = [K.cl] ++ K.cleared.find (K.cleared.longest t) :: greedyP n (K.cleared.after (K.cleared.find (K.cleared.longest t))) (t.drop (K.cleared.longest t).length) := by
 rw [greedyP, if_neg ht, hf]; simp
theorem greedyP_room {n : Nat} {K : Kn} {t : Bs} (ht : t ≠ []) (hf : K.full = false) : greedyP (n + 1) K t = K.find (K.longest t) :: greedyP n (K.after (K.find (K.longest t))) (t.drop (K.longest t).length) := by
 rw [greedyP, if_neg ht, hf]; simp
theorem greedyP_nil (n : Nat) (K : Kn) : greedyP n K [] = [] := by cases n <;> simp [greedyP]
end Go.Proofs.YtfonokhafdflcaaGreatDoor
namespace Go.Proofs.YtfonokhafdflcaaGreatDoor
open Go.RowKit
set_option linter.unusedSimpArgs false
set_option linter.unusedVariables false
def goesD : Kn → List Int → Nat → Prop
 | _, [], _ => False
 | K, c :: r, n => if c = K.cl + 1 then r = [] else if c = K.cl then goesD K.cleared r n else K.fol c = true ∧ n + (K.any c).length ≤ 2000 ∧ goesD (K.after c) r (n + (K.any c).length)
theorem goesD_R : ∀ (cs : List Int) (K : Kn) (n : Nat), n ≤ 2000 → goesD K cs n → goesR K cs n
  | [], _, _, _, h => by simp [goesD] at h
  | c :: r, K, n, hn, h => by
    rw [goesD] at h
    rw [goesR]
    split
    · rename_i h1; rw [if_pos h1] at h; exact h
    · rename_i h1
      rw [if_neg h1] at h
      split
      · rename_i h2; rw [if_pos h2] at h; exact goesD_R r _ n hn h
      · rename_i h2; rw [if_neg h2] at h; exact ⟨h.1, by omega, goesD_R r _ _ (by omega) h.2.2⟩
theorem goesD_greedyGo : ∀ (n : Nat) (K : Kn) (t : Bs) (m : Nat), K.ok → t.all (litB K.l) = true → t.length ≤ n → m + t.length ≤ 2000 → goesD K (greedyGo n K t ++ [K.cl + 1]) m
  | 0, K, t, m, _, _, ht, _ => by simp [greedyGo, goesD]
  | n + 1, K, t, m, hk, hl, ht, hm => by
    unfold greedyGo
    split
    · simp [goesD]
    · rename_i hne
      have hf := K.find_fol hk hne hl
      have hlp := (K.longest_prefix t).2
      have hlq := K.longest_pos hne
      obtain ⟨hf1, hf2, hf3⟩ := hf
      have hb := fol_bd hk hf1
      have hao := K.after_ok hk hf1
      have hd : (t.drop (K.longest t).length).length = t.length - (K.longest t).length := by simp
      have hrl : (t.drop (K.longest t).length).all (litB K.l) = true := all_drop _ _ _ hl
      simp only
      split
      · rw [List.cons_append, goesD, if_neg hb.2.2.2, if_neg hb.2.2.1, hf2, List.cons_append, goesD]
        refine ⟨hf1, by omega, ?_⟩
        have e1 : (K.after (K.find (K.longest t))).cl = K.cl := rfl
        rw [e1, if_neg (by omega), if_pos rfl]
        exact goesD_greedyGo n _ _ _ (Kn.cleared_ok hao) hrl (by omega) (by omega)
      · rw [List.cons_append, goesD, if_neg hb.2.2.2, if_neg hb.2.2.1, hf2]
        exact ⟨hf1, by omega, goesD_greedyGo n _ _ _ hao hrl (by omega) (by omega)⟩
theorem goesD_greedy {K : Kn} (hk : K.ok) {t : Bs} (hl : t.all (litB K.l) = true) (ht : t.length ≤ 2000) : goesD K (K.greedy t) 0 := by
 unfold Kn.greedy
 rw [goesD, if_neg (by omega), if_pos rfl]
 exact goesD_greedyGo _ _ _ _ (Kn.cleared_ok hk) hl (Nat.le_refl _) (by omega)
theorem greedyGo_len : ∀ (n : Nat) (K : Kn) (t : Bs), 0 ≤ K.base → t.length ≤ n → 2 * (greedyGo n K t).length ≤ 3 * t.length + 1 ∧ (K.last < 0 → (K.ps.length : Int) ≤ K.base → 2 * (greedyGo n K t).length ≤ 3 * t.length)
  | 0, K, t, _, _ => by simp [greedyGo]
  | n + 1, K, t, hb0, ht => by
    unfold greedyGo
    split
    · simp
    · rename_i hne
      have hlq := K.longest_pos hne
      have hlp := (K.longest_prefix t).2
      have hd : (t.drop (K.longest t).length).length = t.length - (K.longest t).length := by simp
      have hp : 0 < t.length := List.length_pos_iff.2 hne
      simp only
      have h1 := greedyGo_len n (K.after (K.find (K.longest t))) (t.drop (K.longest t).length) hb0 (by omega)
      have h2 := greedyGo_len n (K.after (K.find (K.longest t))).cleared (t.drop (K.longest t).length) hb0 (by omega)
      constructor
      · split
        · have h3 := h2.2 (by show (-1 : Int) < 0; omega) (by
            show (((K.after (K.find (K.longest t))).ps.take K.base.toNat).length : Int) ≤ K.base
            have := List.length_take_le K.base.toNat (K.after (K.find (K.longest t))).ps
            omega)
          simp only [List.length_cons]
          omega
        · simp only [List.length_cons]
          omega
      · intro h3 h4
        have hg : K.gr = false := by unfold Kn.gr; simp; omega
        have e : (K.after (K.find (K.longest t))).ps = K.ps := by unfold Kn.after; simp [hg]
        have e2 : (K.after (K.find (K.longest t))).base = K.base := rfl
        rw [if_neg (by rw [e, e2]; omega)]
        simp only [List.length_cons]
        omega
theorem greedy_len (K : Kn) (t : Bs) (hb : 0 ≤ K.base) (ht : t.length ≤ 2000) : (K.greedy t).length ≤ 3002 := by
 have h := (greedyGo_len t.length K.cleared t hb (Nat.le_refl _)).2 (by show (-1 : Int) < 0; omega) (by
  show ((K.ps.take K.base.toNat).length : Int) ≤ K.base
  have := List.length_take_le K.base.toNat K.ps
  omega)
 unfold Kn.greedy
 simp only [List.length_cons, List.length_append, List.length_nil]
 omega
end Go.Proofs.YtfonokhafdflcaaGreatDoor
