/- Plain: codes that can follow one after the other, those of the longest words among them; their widths. No program. -/
import Derived.Test.YtgcjfddkgbigoaaZ
namespace Go.Proofs.Ytgcjfddkgbigoaa
open Go.RowKit
/-- The codes can follow one after the other, the end code last; n bytes lie before them. -/
def goesR : Kn → List Int → Nat → Prop
  | _, [], _ => False
  | K, c :: r, n => if c = K.cl + 1 then r = [] else if c = K.cl then goesR K.cleared r n else K.fol c = true ∧ n ≤ 2000 ∧ goesR (K.after c) r (n + (K.any c).length)
theorem fol_bd {K : Kn} (h : K.ok) {c : Int} (hc : K.fol c = true) : 0 ≤ c ∧ c ≤ 1100 * 2 ∧ c ≠ K.cl ∧ c ≠ K.cl + 1 := by
  have hb := h.bd
  unfold Kn.fol at hc
  simp only [decide_eq_true_eq] at hc
  unfold codeOk Kn.nx at hc
  unfold Kn.cl at *
  omega
theorem goes_greedyGo : ∀ (n : Nat) (K : Kn) (t : Bs) (m : Nat), K.ok → t.all (litB K.l) = true → t.length ≤ n → m + t.length ≤ 2000 → goesR K (greedyGo n K t ++ [K.cl + 1]) m
  | 0, K, t, m, _, _, ht, _ => by simp [greedyGo, goesR]
  | n + 1, K, t, m, hk, hl, ht, hm => by
    unfold greedyGo
    split
    · simp [goesR]
    · rename_i hne
      have hf := K.find_fol hk hne hl
      have hlp := (K.longest_prefix t).2
      have hlq := K.longest_pos hne
      obtain ⟨hf1, hf2, hf3⟩ := hf
      have hb := fol_bd hk hf1
      have hao := K.after_ok hk hf1
      have hd : (t.drop (K.longest t).length).length = t.length - (K.longest t).length := by simp
      have hrl : (t.drop (K.longest t).length).all (litB K.l) = true := all_drop _ _ _ hl
      simp only
      split
      · rw [List.cons_append, goesR, if_neg hb.2.2.2, if_neg hb.2.2.1, hf2, List.cons_append, goesR]
        refine ⟨hf1, by omega, ?_⟩
        have e1 : (K.after (K.find (K.longest t))).cl = K.cl := rfl
        rw [e1, if_neg (by omega), if_pos rfl]
        exact goes_greedyGo n _ _ _ (Kn.cleared_ok hao) hrl (by omega) (by omega)
      · rw [List.cons_append, goesR, if_neg hb.2.2.2, if_neg hb.2.2.1, hf2]
        exact ⟨hf1, by omega, goes_greedyGo n _ _ _ hao hrl (by omega) (by omega)⟩
theorem goes_greedy {K : Kn} (hk : K.ok) {t : Bs} (hl : t.all (litB K.l) = true) (ht : t.length ≤ 2000) : goesR K (K.greedy t) 0 := by
  unfold Kn.greedy
  rw [goesR, if_neg (by omega), if_pos rfl]
  exact goes_greedyGo _ _ _ _ (Kn.cleared_ok hk) hl (Nat.le_refl _) (by omega)
theorem walk_from (cs : List Int) : ∀ (K : Kn) (ws : List Nat) (d : Bs), cs.foldl Wk.step ⟨K, ws, d⟩ = ⟨(K.walk cs).K, ws ++ (K.walk cs).ws, d ++ (K.walk cs).d⟩ := by
  induction cs with
  | nil => intro K ws d; simp [Kn.walk]
  | cons c r ih =>
    intro K ws d
    show r.foldl Wk.step ⟨K.step c, ws ++ [K.width], d ++ (if c = K.cl then [] else K.any c)⟩ = _
    rw [ih]
    have h : K.walk (c :: r) = r.foldl Wk.step ⟨K.step c, [] ++ [K.width], [] ++ (if c = K.cl then [] else K.any c)⟩ := rfl
    rw [h, ih]
    simp
theorem walk_cons (K : Kn) (c : Int) (r : List Int) : (K.walk (c :: r)).ws = K.width :: ((K.step c).walk r).ws := by
  have h : K.walk (c :: r) = r.foldl Wk.step ⟨K.step c, [] ++ [K.width], [] ++ (if c = K.cl then [] else K.any c)⟩ := rfl
  rw [h, walk_from]; simp
theorem width_bd {K : Kn} (h : K.ok) : 1 ≤ K.width ∧ K.width ≤ 10 := by
  have hb := h.bd
  have hg := K.great_bd h
  have hn := needed_bd 9 K.great.toNat (by omega)
  obtain ⟨h1, h2, h3, h4, h5⟩ := h.st
  unfold Kn.width
  omega
theorem step_ok {K : Kn} (h : K.ok) {c : Int} (hc : c ≠ K.cl → K.fol c = true) : (K.step c).ok := by
  unfold Kn.step
  split
  · exact K.cleared_ok h
  · rename_i hne; exact K.after_ok h (hc hne)
theorem goes_facts (cs : List Int) : ∀ (K : Kn) (n : Nat), K.ok → goesR K cs n → ∀ p ∈ cs.zip (K.walk cs).ws, 0 ≤ p.1 ∧ p.1 ≤ 2200 ∧ p.2 ≤ 10 := by
  induction cs with
  | nil => intro K n _ h; exact absurd h (by simp [goesR])
  | cons c r ih =>
    intro K n hk hg p hp
    have hw := width_bd hk
    have hb := hk.bd
    rw [walk_cons, List.zip_cons_cons, List.mem_cons] at hp
    rw [goesR] at hg
    split at hg
    · rename_i he
      subst hg
      rcases hp with rfl | hp
      · simp only; omega
      · simp at hp
    · split at hg
      · rename_i he
        rcases hp with rfl | hp
        · simp only; omega
        · have hs : K.step c = K.cleared := if_pos he
          rw [hs] at hp
          exact ih _ _ (K.cleared_ok hk) hg p hp
      · rename_i he
        have hf := fol_bd hk hg.1
        rcases hp with rfl | hp
        · simp only; omega
        · have hs : K.step c = K.after c := if_neg he
          rw [hs] at hp
          exact ih _ _ (K.after_ok hk hg.1) hg.2.2 p hp
theorem bits_bitsB (K : Kn) (cs : List Int) : bitsB (K.bits cs) = true := by
  unfold Kn.bits bitsB
  rw [List.all_flatMap, List.all_eq_true]
  intro p _
  exact codeBits_bits _ _ _
theorem bits_length {K : Kn} (hk : K.ok) {cs : List Int} {n : Nat} (hg : goesR K cs n) : (K.bits cs).length ≤ 10 * cs.length := by
  have hf := goes_facts cs K n hk hg
  have hl : (cs.zip (K.walk cs).ws).length ≤ cs.length := by rw [List.length_zip]; omega
  unfold Kn.bits
  generalize cs.zip (K.walk cs).ws = z at *
  have : (z.flatMap fun p => codeBits K.o p.1.toNat p.2).length ≤ 10 * z.length := by
    clear hl
    induction z with
    | nil => simp
    | cons p z ih =>
      have h1 := (hf p List.mem_cons_self).2.2
      have h2 := ih fun q hq => hf q (List.mem_cons_of_mem _ hq)
      rw [List.flatMap_cons, List.length_append, codeBits_length, List.length_cons]; omega
  omega
end Go.Proofs.Ytgcjfddkgbigoaa
