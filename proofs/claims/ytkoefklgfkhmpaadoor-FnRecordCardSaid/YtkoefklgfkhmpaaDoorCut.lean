/- Plain: a text cut at every byte c. -/
import Derived.Test.YtkoefklgfkhmpaaDoorPlain
import Derived.Lib.Split
import Derived.Lib.CountLaws
namespace Go.Proofs.YtkoefklgfkhmpaaDoor

def cut (c : UInt8) : Bs → List Bs
  | [] => [[]]
  | x :: r => if x = c then [] :: cut c r else match cut c r with
    | [] => [[x]]
    | y :: ys => (x :: y) :: ys

theorem cut_ne (c : UInt8) (l : Bs) : cut c l ≠ [] := by
  cases l with
  | nil => simp [cut]
  | cons x r =>
    unfold cut
    split
    · simp
    · split <;> simp

theorem cut_miss (c : UInt8) : ∀ a : Bs, (∀ x ∈ a, x ≠ c) → cut c a = [a]
  | [], _ => rfl
  | x :: r, h => by
    unfold cut
    rw [if_neg (h x List.mem_cons_self), cut_miss c r (fun y hy => h y (List.mem_cons_of_mem _ hy))]

theorem cut_hit (c : UInt8) (r : Bs) : ∀ a : Bs, (∀ x ∈ a, x ≠ c) → cut c (a ++ c :: r) = a :: cut c r
  | [], _ => by simp [cut]
  | x :: a, h => by
    have e : cut c (x :: (a ++ c :: r)) = if x = c then [] :: cut c (a ++ c :: r) else match cut c (a ++ c :: r) with
      | [] => [[x]]
      | y :: ys => (x :: y) :: ys := rfl
    rw [List.cons_append, e, if_neg (h x List.mem_cons_self), cut_hit c r a (fun y hy => h y (List.mem_cons_of_mem _ hy))]

theorem cut_parts (c : UInt8) : ∀ l : Bs, (∀ x ∈ l, x ≠ c) ∨ ∃ a r, l = a ++ c :: r ∧ ∀ x ∈ a, x ≠ c
  | [] => .inl (by simp)
  | x :: l => by
    by_cases hx : x = c
    · exact .inr ⟨[], l, by simp [hx], by simp⟩
    · rcases cut_parts c l with h | ⟨a, r, rfl, h⟩
      · refine .inl fun y hy => ?_
        rcases List.mem_cons.1 hy with rfl | hy
        · exact hx
        · exact h y hy
      · refine .inr ⟨x :: a, r, rfl, fun y hy => ?_⟩
        rcases List.mem_cons.1 hy with rfl | hy
        · exact hx
        · exact h y hy

theorem idx_miss (c : UInt8) : ∀ a : Bs, (∀ x ∈ a, x ≠ c) → Lib.index a [c] = -1
  | [], _ => rfl
  | x :: a, h => by
    have h1 := idx_miss c a (fun y hy => h y (List.mem_cons_of_mem _ hy))
    have h2 : ([c] : Bs).isPrefixOf (x :: a) = false := by
      simp [List.isPrefixOf]
      exact fun e => h x List.mem_cons_self e.symm
    unfold Lib.index
    rw [h2, h1]; rfl
theorem idx_hit (c : UInt8) (r : Bs) : ∀ a : Bs, (∀ x ∈ a, x ≠ c) → Lib.index (a ++ c :: r) [c] = (a.length : Int)
  | [], _ => by
    show Lib.index (c :: r) [c] = 0
    unfold Lib.index
    simp [List.isPrefixOf]
  | x :: a, h => by
    have h1 := idx_hit c r a (fun y hy => h y (List.mem_cons_of_mem _ hy))
    have h2 : ([c] : Bs).isPrefixOf (x :: (a ++ c :: r)) = false := by
      simp [List.isPrefixOf]
      exact fun e => h x List.mem_cons_self e.symm
    rw [List.cons_append]
    unfold Lib.index
    rw [h2, h1]
    have : ((a.length : Int) == -1) = false := by
      rw [beq_eq_false_iff_ne]; omega
    rw [this]
    simp

theorem split_one (c : UInt8) : ∀ (n : Nat) (l : Bs), l.length ≤ n → Lib.splitK [c] 0 (Lib.count l [c]) l = cut c l
  | 0, l, h => by
    have : l = [] := List.eq_nil_of_length_eq_zero (by omega)
    subst this
    rfl
  | n + 1, l, h => by
    rcases cut_parts c l with hm | ⟨a, r, rfl, ha⟩
    · rw [Lib.count_miss (idx_miss c l hm), cut_miss c l hm]; rfl
    · have hi := idx_hit c r a ha
      have hlen : (a ++ c :: r).length = a.length + 1 + r.length := by simp; omega
      have hd : (a ++ c :: r).drop (a.length + 1) = r := by
        rw [List.drop_append]; simp
      rw [Lib.count_hit (by simp) hi, cut_hit c r a ha, Nat.add_comm 1]
      unfold Lib.splitK
      rw [hi]
      have : ((a.length : Int) == -1) = false := by
        rw [beq_eq_false_iff_ne]; omega
      rw [this]
      simp only [Bool.false_eq_true, if_false, Int.toNat_natCast, List.length_cons, List.length_nil, Nat.add_zero]
      rw [show a.length + (0 + 1) = a.length + 1 by omega, hd, split_one c n r (by omega)]
      simp
theorem split_cut (c : UInt8) (t : Bs) : (Lib.splitB ⟨#[c]⟩ 0 (Lib.countB ⟨t.toArray⟩ ⟨#[c]⟩) ⟨t.toArray⟩).map Value.string = (cut c t).map fun l => Value.string ⟨l.toArray⟩ := by
  have h := Lib.splitB_data ⟨#[c]⟩ 0 (Lib.countB ⟨t.toArray⟩ ⟨#[c]⟩) ⟨t.toArray⟩
  have e : Lib.countB ⟨t.toArray⟩ ⟨#[c]⟩ = Lib.count t [c] := by simp [Lib.countB]
  rw [e] at h ⊢
  have h2 := split_one c t.length t (Nat.le_refl _)
  have h3 : (Lib.splitB ⟨#[c]⟩ 0 (Lib.count t [c]) ⟨t.toArray⟩).map (·.data.toList) = cut c t := by rw [h, ← h2]
  rw [← h3, List.map_map]
  apply List.map_congr_left
  intro x _
  simp
theorem split_count (c : UInt8) : ∀ (n : Nat) (l : Bs), l.length ≤ n → Lib.count l [c] + 1 = (cut c l).length
  | 0, l, h => by
    have : l = [] := List.eq_nil_of_length_eq_zero (by omega)
    subst this
    rfl
  | n + 1, l, h => by
    rcases cut_parts c l with hm | ⟨a, r, rfl, ha⟩
    · rw [Lib.count_miss (idx_miss c l hm), cut_miss c l hm]; rfl
    · have hi := idx_hit c r a ha
      have hlen : (a ++ c :: r).length = a.length + 1 + r.length := by simp; omega
      have hd : (a ++ c :: r).drop (a.length + 1) = r := by
        rw [List.drop_append]; simp
      rw [Lib.count_hit (by simp) hi, cut_hit c r a ha, List.length_cons]
      simp only [List.length_cons, List.length_nil, Nat.zero_add, hd]
      have := split_count c n r (by omega)
      omega
end Go.Proofs.YtkoefklgfkhmpaaDoor
