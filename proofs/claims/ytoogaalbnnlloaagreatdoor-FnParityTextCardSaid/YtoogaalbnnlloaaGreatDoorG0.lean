/- Plain: parities are read from their text, and a text that is read is that of what is read. No program. -/
import Derived.Test.YtoogaalbnnlloaaGreatDoorGQ
namespace Go.Proofs.YtoogaalbnnlloaaGreatDoor
set_option linter.unusedVariables false
theorem fmt_parse {t : Bs} {ls : List Bs} (h : parsePar t = some ls) : fmtPar ls = t := by
  unfold parsePar at h
  split at h
  · next ht =>
    injection h with h
    subst h
    rw [ht]; rfl
  · next ht =>
    cases ha : allHex (cut 32 t) with
    | none => rw [ha] at h; cases h
    | some ms =>
      rw [ha] at h
      simp only at h
      split at h
      · next hp =>
        injection h with h
        subst h
        have h1 := (allHex_some _ _ ha).1
        unfold fmtPar
        rw [if_pos hp, h1, join_cut]
        unfold orDash
        rw [if_neg]
        intro h0
        rw [h0] at ha
        have hc : cut 32 ([] : Bs) = [[]] := by rfl
        rw [hc] at ha
        have h2 := (allHex_some _ _ ha).2
        rw [← h2] at hp
        exact absurd hp (by decide +kernel)
      · cases h
theorem hexL_no32 : ∀ n : Nat, n < 16 → hexL.getD n 0 ≠ 32 := by decide
theorem hexOf_no32 (l : Bs) : ∀ x ∈ hexOf l, x ≠ 32 := by
  intro x hx
  unfold hexOf at hx
  rw [List.mem_flatMap] at hx
  obtain ⟨c, _, hx⟩ := hx
  have h1 := c.toNat_lt
  simp only [List.mem_cons, List.not_mem_nil, or_false] at hx
  rcases hx with rfl | rfl
  · exact hexL_no32 _ (by omega)
  · exact hexL_no32 _ (by omega)
theorem parse_fmt {ls : List Bs} (h : parOk ls = true) : parsePar (fmtPar ls) = some ls := by
  have hp := h
  unfold parOk at h
  simp only [Bool.and_eq_true, decide_eq_true_eq, List.all_eq_true] at h
  obtain ⟨h1, h2⟩ := h
  unfold fmtPar
  rw [if_pos hp]
  by_cases he : ls = []
  · subst he; exact parsePar_dash
  · have hm : ls.map hexOf ≠ [] := by simpa using he
    have hne : join 32 (ls.map hexOf) ≠ [] := join_nonempty 32 _ hm (fun l hl => by
      obtain ⟨m, hm, rfl⟩ := List.mem_map.1 hl
      have := (h2 m hm).1
      intro e
      have h3 := congrArg List.length e
      rw [hexOf_length] at h3
      simp at h3
      omega)
    have hcut : cut 32 (join 32 (ls.map hexOf)) = ls.map hexOf := cut_join 32 _ hm (fun l hl x hx => by
      obtain ⟨m, hm, rfl⟩ := List.mem_map.1 hl
      exact hexOf_no32 m x hx)
    have hah : allHex (cut 32 (join 32 (ls.map hexOf))) = some ls := by
      rw [hcut]
      exact allHex_hex ls (fun l hl => by have := (h2 l hl).2; omega)
    unfold orDash
    rw [if_neg hne, parsePar_some ?_ hah, if_pos hp]
    intro e
    rw [e] at hcut
    have hc : cut 32 ([45] : Bs) = [[45]] := by rfl
    rw [hc] at hcut
    have h5 : ∀ m ∈ ls.map hexOf, m = [45] := by rw [← hcut]; simp
    cases ls with
    | nil => exact he rfl
    | cons a r =>
      have h6 := h5 (hexOf a) (by simp)
      have h7 := congrArg List.length h6
      rw [hexOf_length] at h7
      simp at h7
      omega
end Go.Proofs.YtoogaalbnnlloaaGreatDoor
