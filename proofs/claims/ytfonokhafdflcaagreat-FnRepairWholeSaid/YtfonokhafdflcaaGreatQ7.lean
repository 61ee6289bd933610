/- Plain: the codes of the longest words: how many, and their data stays short. -/
import Derived.Test.YtfonokhafdflcaaGreatGZ
namespace Go.Proofs.YtfonokhafdflcaaGreat
open Go.RowKit
set_option linter.unusedSimpArgs false
set_option linter.unusedVariables false
/-- The codes can follow one after the other, the end code last; n bytes lie before them, and never are more than 2000. -/
def goesD : Kn → List Int → Nat → Prop
  | _, [], _ => False
  | K, c :: r, n => if c = K.cl + 1 then r = [] else if c = K.cl then goesD K.cleared r n else K.fol c = true ∧ n + (K.any c).length ≤ 2000 ∧ goesD (K.after c) r (n + (K.any c).length)
theorem goesD_R : ∀ (cs : List Int) (K : Kn) (n : Nat), n ≤ 2000 → goesD K cs n → goesR K cs n
  | [], _, _, _, h => by simp [goesD] at h
  | c :: r, K, n, hn, h => by
    rw [goesD] at h
    rw [goesR]
    split
    · rename_i h1; rw [if_pos h1] at h; exact h
    · rename_i h1
      rw [if_neg h1] at h
      split
      · rename_i h2; rw [if_pos h2] at h; exact goesD_R r _ n hn h
      · rename_i h2; rw [if_neg h2] at h; exact ⟨h.1, by omega, goesD_R r _ _ (by omega) h.2.2⟩
theorem goesD_greedyGo : ∀ (n : Nat) (K : Kn) (t : Bs) (m : Nat), K.ok → t.all (litB K.l) = true → t.length ≤ n → m + t.length ≤ 2000 → goesD K (greedyGo n K t ++ [K.cl + 1]) m
  | 0, K, t, m, _, _, ht, _ => by simp [greedyGo, goesD]
  | n + 1, K, t, m, hk, hl, ht, hm => by
    unfold greedyGo
    split
    · simp [goesD]
    · rename_i hne
      have hf := K.find_fol hk hne hl
      have hlp := (K.longest_prefix t).2
      have hlq := K.longest_pos hne
      obtain ⟨hf1, hf2, hf3⟩ := hf
      have hb := fol_bd hk hf1
      have hao := K.after_ok hk hf1
      have hd : (t.drop (K.longest t).length).length = t.length - (K.longest t).length := by simp
      have hrl : (t.drop (K.longest t).length).all (litB K.l) = true := all_drop _ _ _ hl
      simp only
      split
      · rw [List.cons_append, goesD, if_neg hb.2.2.2, if_neg hb.2.2.1, hf2, List.cons_append, goesD]
        refine ⟨hf1, by omega, ?_⟩
        have e1 : (K.after (K.find (K.longest t))).cl = K.cl := rfl
        rw [e1, if_neg (by omega), if_pos rfl]
        exact goesD_greedyGo n _ _ _ (Kn.cleared_ok hao) hrl (by omega) (by omega)
      · rw [List.cons_append, goesD, if_neg hb.2.2.2, if_neg hb.2.2.1, hf2]
        exact ⟨hf1, by omega, goesD_greedyGo n _ _ _ hao hrl (by omega) (by omega)⟩
theorem goesD_greedy {K : Kn} (hk : K.ok) {t : Bs} (hl : t.all (litB K.l) = true) (ht : t.length ≤ 2000) : goesD K (K.greedy t) 0 := by
  unfold Kn.greedy
  rw [goesD, if_neg (by omega), if_pos rfl]
  exact goesD_greedyGo _ _ _ _ (Kn.cleared_ok hk) hl (Nat.le_refl _) (by omega)
theorem greedyGo_len : ∀ (n : Nat) (K : Kn) (t : Bs), 0 ≤ K.base → t.length ≤ n → 2 * (greedyGo n K t).length ≤ 3 * t.length + 1 ∧ (K.last < 0 → (K.ps.length : Int) ≤ K.base → 2 * (greedyGo n K t).length ≤ 3 * t.length)
  | 0, K, t, _, _ => by simp [greedyGo]
  | n + 1, K, t, hb0, ht => by
    unfold greedyGo
    split
    · simp
    · rename_i hne
      have hlq := K.longest_pos hne
      have hlp := (K.longest_prefix t).2
      have hd : (t.drop (K.longest t).length).length = t.length - (K.longest t).length := by simp
      have hp : 0 < t.length := List.length_pos_iff.2 hne
      simp only
      have h1 := greedyGo_len n (K.after (K.find (K.longest t))) (t.drop (K.longest t).length) hb0 (by omega)
      have h2 := greedyGo_len n (K.after (K.find (K.longest t))).cleared (t.drop (K.longest t).length) hb0 (by omega)
      constructor
      · split
        · have h3 := h2.2 (by show (-1 : Int) < 0; omega) (by
            show (((K.after (K.find (K.longest t))).ps.take K.base.toNat).length : Int) ≤ K.base
            have := List.length_take_le K.base.toNat (K.after (K.find (K.longest t))).ps
            omega)
          simp only [List.length_cons]
          omega
        · simp only [List.length_cons]
          omega
      · intro h3 h4
        have hg : K.gr = false := by unfold Kn.gr; simp; omega
        have e : (K.after (K.find (K.longest t))).ps = K.ps := by unfold Kn.after; simp [hg]
        have e2 : (K.after (K.find (K.longest t))).base = K.base := rfl
        rw [if_neg (by rw [e, e2]; omega)]
        simp only [List.length_cons]
        omega
theorem greedy_len (K : Kn) (t : Bs) (hb : 0 ≤ K.base) (ht : t.length ≤ 2000) : (K.greedy t).length ≤ 3002 := by
  have h := (greedyGo_len t.length K.cleared t hb (Nat.le_refl _)).2 (by show (-1 : Int) < 0; omega) (by
    show ((K.ps.take K.base.toNat).length : Int) ≤ K.base
    have := List.length_take_le K.base.toNat K.ps
    omega)
  unfold Kn.greedy
  simp only [List.length_cons, List.length_append, List.length_nil]
  omega
end Go.Proofs.YtfonokhafdflcaaGreat
