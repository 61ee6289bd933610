/- Plain: the codes of the longest words, as the program makes them: a clear code is written ahead of a word, where all codes have words. -/
import Derived.Test.YtfonokhafdflcaaGreatGZ
namespace Go.Proofs.YtfonokhafdflcaaGreat
open Go.RowKit
/-- No code is left for a word, and a clear code would make room. -/
def Kn.full (K : Kn) : Bool := decide (K.top < K.nx ∧ K.base < K.ps.length)
theorem full_cleared {K : Kn} (h : 0 ≤ K.base) : K.cleared.full = false := by
  unfold Kn.full Kn.cleared
  simp only [decide_eq_false_iff_not, List.length_take]
  omega
def greedyP : Nat → Kn → Bs → List Int
  | 0, _, _ => []
  | n + 1, K, t => if t = [] then [] else
    (if K.full = true then [K.cl] else []) ++ (if K.full = true then K.cleared else K).find ((if K.full = true then K.cleared else K).longest t) ::
      greedyP n ((if K.full = true then K.cleared else K).after ((if K.full = true then K.cleared else K).find ((if K.full = true then K.cleared else K).longest t))) (t.drop ((if K.full = true then K.cleared else K).longest t).length)
theorem greedyP_eq : ∀ (n : Nat) (K : Kn) (t : Bs), 0 ≤ K.base → t.length ≤ n → greedyP n K t = if t ≠ [] ∧ K.full = true then K.cl :: greedyGo n K.cleared t else greedyGo n K t
  | 0, K, t, _, ht => by
    have e : t = [] := List.length_eq_zero_iff.1 (by omega)
    subst e; simp [greedyP, greedyGo]
  | n + 1, K, t, h, htl => by
    by_cases ht : t = []
    · subst ht; simp [greedyP, greedyGo]
    · unfold greedyP
      rw [if_neg ht]
      have key : ∀ K1 : Kn, 0 ≤ K1.base → K1.full = false → K1.find (K1.longest t) :: greedyP n (K1.after (K1.find (K1.longest t))) (t.drop (K1.longest t).length) = greedyGo (n + 1) K1 t := by
        intro K1 hb hf
        have hp := K1.longest_pos ht
        rw [greedyP_eq n (K1.after (K1.find (K1.longest t))) _ hb (by simp; omega)]
        rw [greedyGo, if_neg ht]
        simp only
        have e : (K1.after (K1.find (K1.longest t))).cl = K1.cl := rfl
        by_cases hr : t.drop (K1.longest t).length ≠ [] ∧ (K1.after (K1.find (K1.longest t))).top < (K1.after (K1.find (K1.longest t))).nx ∧ (K1.after (K1.find (K1.longest t))).base < (K1.after (K1.find (K1.longest t))).ps.length
        · rw [if_pos hr, e]
          have hfull : (K1.after (K1.find (K1.longest t))).full = true := by unfold Kn.full; simpa using hr.2
          rw [if_pos ⟨hr.1, hfull⟩]
        · rw [if_neg hr]
          rw [if_neg]
          intro hc
          exact hr ⟨hc.1, by have := hc.2; unfold Kn.full at this; simpa using this⟩
      cases hf : K.full with
      | true =>
        simp only [if_true]
        rw [List.cons_append, List.nil_append, key K.cleared h (full_cleared h), if_pos ⟨ht, trivial⟩]
      | false =>
        simp only [Bool.false_eq_true, if_false, List.nil_append, and_false]
        exact key K h hf
/-- The codes that follow, behind a clear code. -/
theorem greedyP_top {K : Kn} {t : Bs} (h : 0 ≤ K.base) : K.greedy t = K.cl :: (greedyP t.length K.cleared t ++ [K.cl + 1]) := by
  unfold Kn.greedy
  rw [greedyP_eq _ _ _ (by exact h) (Nat.le_refl _), full_cleared h]
  simp
/-- One round of the program's loop: K1 is what is known behind the clear code, if one is written. -/
def Kn.room (K : Kn) : Kn := if K.full = true then K.cleared else K
theorem greedyP_full {n : Nat} {K : Kn} {t : Bs} (ht : t ≠ []) (hf : K.full = true) : greedyP (n + 1) K t = [K.cl] ++ K.cleared.find (K.cleared.longest t) :: greedyP n (K.cleared.after (K.cleared.find (K.cleared.longest t))) (t.drop (K.cleared.longest t).length) := by
  rw [greedyP, if_neg ht, hf]; simp
theorem greedyP_room {n : Nat} {K : Kn} {t : Bs} (ht : t ≠ []) (hf : K.full = false) : greedyP (n + 1) K t = K.find (K.longest t) :: greedyP n (K.after (K.find (K.longest t))) (t.drop (K.longest t).length) := by
  rw [greedyP, if_neg ht, hf]; simp
theorem greedyP_nil (n : Nat) (K : Kn) : greedyP n K [] = [] := by cases n <;> simp [greedyP]
theorem greedyP_len : ∀ (n : Nat) (K : Kn) (t : Bs), (greedyP n K t).length ≤ 2 * n
  | 0, K, t => by simp [greedyP]
  | n + 1, K, t => by
    unfold greedyP
    split
    · simp
    · have := greedyP_len n ((if K.full = true then K.cleared else K).after ((if K.full = true then K.cleared else K).find ((if K.full = true then K.cleared else K).longest t))) (t.drop ((if K.full = true then K.cleared else K).longest t).length)
      rw [List.length_append, List.length_cons]
      have h2 : (if K.full = true then [K.cl] else []).length ≤ 1 := by split <;> simp
      omega
end Go.Proofs.YtfonokhafdflcaaGreat
