/- Plain: a container is restored if of each group at most one block is lost. -/
import Derived.Test.YtfonokhafdflcaaGreatGB
import Derived.Test.YtfonokhafdflcaaGreatGB
import Derived.Test.YtfonokhafdflcaaGreatGB
namespace Go.Proofs.YtfonokhafdflcaaGreat
set_option linter.unusedSimpArgs false
set_option linter.unusedVariables false
theorem group_lost {bs : List Blk} {fs : List (Int × Blk)} {a i K : Nat} (h0 : a ≤ i) (hn : firstF fs (i : Int) = none) (ho : ∀ j : Nat, a ≤ j → j < a + K → j ≠ i → (h : j < bs.length) → firstF fs (j : Int) = some bs[j]) :
    ∀ j, j ≤ K → a + j ≤ bs.length → lostTo fs (a : Int) j = (if i < a + j then [(i : Int)] else []) ∧ foundTo fs (a : Int) j = oth bs a i j
  | 0, _, _ => by
    refine ⟨by rw [if_neg (by omega)]; rfl, ?_⟩
    rw [oth_zero bs h0]; rfl
  | j + 1, hjK, hj => by
    obtain ⟨h1, h2⟩ := group_lost h0 hn ho j (by omega) (by omega)
    have e : (a : Int) + (j : Int) = ((a + j : Nat) : Int) := by omega
    by_cases hi : a + j = i
    · have hf : firstF fs ((a : Int) + (j : Int)) = none := by rw [e, hi]; exact hn
      obtain ⟨h3, h4⟩ := lostTo_step_none hf
      rw [h3, h4, h1, h2, if_neg (by omega), if_pos (by omega), oth_self bs hi, e, hi]
      exact ⟨rfl, rfl⟩
    · have hf : firstF fs ((a : Int) + (j : Int)) = some (bs[a + j]'(by omega)) := by rw [e]; exact ho (a + j) (by omega) (by omega) hi (by omega)
      obtain ⟨h3, h4⟩ := lostTo_step_some hf
      rw [h3, h4, h1, h2, oth_next bs hi (by omega)]
      refine ⟨?_, rfl⟩
      by_cases hx : i < a + j
      · rw [if_pos hx, if_pos (by omega)]
      · rw [if_neg hx, if_neg (by omega)]
theorem built_self {b : Blk} (hb : b.ok = true) {ls : List Bs} {p : Bs} (h : rebuildT ls p = some b.text) : builtOf ls p b.num = some b.text := by
  have hp := parse_self hb [] [] 0 rfl
  simp only [List.nil_append, List.append_nil] at hp
  unfold builtOf
  rw [h]
  simp only
  rw [if_pos ⟨hp.1, by rw [hp.2.1], by rw [hp.2.2]; simp⟩]
/-- What number i of a container stands for, if all others of its group are found. -/
theorem rep_oneK {bs : List Blk} {fs : List (Int × Blk)} {g i : Nat} (hnum : NumOk 0 bs) (h40 : bs.length ≤ 40) (hg : 1 ≤ g) (hi : i < bs.length)
    (hall : ∀ j : Nat, (h : j < bs.length) → firstF fs (j : Int) = some bs[j] ∨ firstF fs (j : Int) = none)
    (hone : ∀ j k : Nat, j < bs.length → k < bs.length → j / g = k / g → firstF fs (j : Int) = none → firstF fs (k : Int) = none → j = k) :
    repTxt fs (parL bs g (cnt bs.length g)) g bs.length i = some bs[i].text := by
  have hok := NumOk_mem hnum
  have hdm := Nat.div_mul_le_self i g
  have hlt := Nat.lt_div_mul_add (a := i) (b := g) (by omega)
  have hA : grpA (g : Int) i = ((i / g * g : Nat) : Int) := by unfold grpA; simp
  have hK : grpK (g : Int) (bs.length : Int) i = min ((i / g + 1) * g) bs.length - i / g * g := by
    unfold grpK
    have e1 : ((i : Int) / (g : Int) + 1) * (g : Int) = (((i / g + 1) * g : Nat) : Int) := by simp
    have e2 : (i : Int) / (g : Int) * (g : Int) = ((i / g * g : Nat) : Int) := by simp
    rw [e1, e2]
    omega
  have hmul : (i / g + 1) * g = i / g * g + g := by rw [Nat.add_mul, Nat.one_mul]
  have hP : (parL bs g (cnt bs.length g)).getD ((i : Int) / (g : Int)).toNat [] = parT (grpT bs (i / g * g) g) := by
    have e : ((i : Int) / (g : Int)).toNat = i / g := by
      have : (i : Int) / (g : Int) = ((i / g : Nat) : Int) := by simp
      rw [this]; rfl
    rw [e, List.getD_eq_getElem?_getD, parL_at bs g _ _ (lt_cnt hg hi)]; rfl
  unfold repTxt
  rw [hA, hK, hP]
  rcases hall i hi with hf | hf
  · unfold txtN; rw [hf]
  · generalize hK' : min ((i / g + 1) * g) bs.length - i / g * g = k at *
    have hak : i / g * g + k ≤ bs.length := by omega
    have hik : i < i / g * g + k := by omega
    have hgl := group_lost (bs := bs) (fs := fs) (a := i / g * g) (i := i) (K := k) hdm hf (fun j h0 hk2 hne hj => by
      rcases hall j hj with h | h
      · exact h
      · exact absurd (hone j i hj hi (Nat.div_eq_of_lt_le h0 (by rw [Nat.add_mul]; omega)) h hf) hne) k (Nat.le_refl _) hak
    unfold txtN
    rw [hf]
    simp only
    rw [hgl.1, if_pos hik, if_pos rfl, hgl.2]
    have hn : (i : Int) = bs[i].num := by have := (NumOk_at hnum i hi).2; rw [Nat.zero_add] at this; exact this.symm
    rw [hn]
    exact built_self (hok _ (List.getElem_mem hi)) (rebuild_grp hok h40 hdm hik hak (by omega) (by omega))
theorem catTo_full {f : Nat → Option Bs} {bs : List Blk} (h : ∀ (i : Nat) (hi : i < bs.length), f i = some bs[i].text) : ∀ k, k ≤ bs.length → catTo f k = some (catT (bs.take k))
  | 0, _ => by simp [catTo, catT]
  | k + 1, hk => by
    rw [catTo_step (catTo_full h k (by omega)) (h k (by omega)), List.take_succ_eq_append_getElem (show k < bs.length by omega), catT_snoc]
theorem repair_full {X x : Bs} {bs : List Blk} {g : Nat} (hB : blocksB X = some bs) (hg : 1 ≤ g) (hg2 : g ≤ 40) (hx : x.length ≤ 8000)
    (hall : ∀ j : Nat, (h : j < bs.length) → firstF (findB x) (j : Int) = some bs[j] ∨ firstF (findB x) (j : Int) = none)
    (hone : ∀ j k : Nat, j < bs.length → k < bs.length → j / g = k / g → firstF (findB x) (j : Int) = none → firstF (findB x) (k : Int) = none → j = k) :
    repairB x (parL bs g (cnt bs.length g)) g bs.length = some X := by
  obtain ⟨hnum, hcat, hsz⟩ := blocks_some hB
  have h40 := (blocks_short hB).2
  have hc : ((parL bs g (cnt bs.length g)).length : Int) = ((bs.length : Int) + (g : Int) - 1) / (g : Int) := by
    rw [parL_length, show ((bs.length : Int) + (g : Int) - 1) = ((bs.length + g - 1 : Nat) : Int) by omega]
    unfold cnt; simp
  have hcat2 := catTo_full (f := repTxt (findB x) (parL bs g (cnt bs.length g)) g bs.length) (fun i hi => rep_oneK hnum h40 hg hi hall hone) bs.length (Nat.le_refl _)
  unfold repairB
  rw [if_pos ⟨hx, by omega, by omega, by omega, by omega, hc⟩, Int.toNat_natCast, hcat2, List.take_length, hcat]
  simp only
  rw [hB]; rfl
theorem parB_someK {X : Bs} {bs : List Blk} {g : Nat} (hB : blocksB X = some bs) (hg : 1 ≤ g) (hg2 : g ≤ 40) : parB X g = some (parL bs g (cnt bs.length g)) := by
  unfold parB; rw [if_pos ⟨by omega, by omega⟩, hB]; simp
/-- The blocks but those with a remainder. -/
def keepB (g r : Nat) (bs : List Blk) : List Blk := bs.filter fun b => decide (b.num.toNat % g ≠ r)
theorem keepB_snoc (g r : Nat) (bs : List Blk) (b : Blk) : keepB g r (bs ++ [b]) = keepB g r bs ++ (if b.num.toNat % g ≠ r then [b] else []) := by
  unfold keepB; rw [List.filter_append]; by_cases h : b.num.toNat % g ≠ r <;> simp [h]
theorem keepB_len (g r : Nat) (bs : List Blk) (k : Nat) (hok : ∀ b ∈ bs, b.ok = true) (h40 : bs.length ≤ 40) : (catT (keepB g r (bs.take k))).length ≤ 2960 := by
  have h1 := catT_le (keepB g r (bs.take k)) (fun b hb => hok b (List.mem_of_mem_take ((List.mem_filter.1 hb).1)))
  have h2 : (keepB g r (bs.take k)).length ≤ 40 := by
    have := List.length_filter_le (fun b : Blk => decide (b.num.toNat % g ≠ r)) (bs.take k)
    unfold keepB
    have h3 : (bs.take k).length ≤ bs.length := by simp; omega
    omega
  omega
theorem keepB_first {bs : List Blk} (hnum : NumOk 0 bs) (h40 : bs.length ≤ 40) (g r j : Nat) (hj : j < bs.length) : firstF (findB (catT (keepB g r bs))) (j : Int) = if j % g ≠ r then some bs[j] else none := by
  have hok := NumOk_mem hnum
  have hl := keepB_len g r bs bs.length hok h40
  rw [List.take_length] at hl
  rw [find_cat (bs := keepB g r bs) (fun b hb => hok b ((List.mem_filter.1 hb).1)) (by omega), firstF_withAt]
  unfold keepB
  rw [List.find?_filter]
  have hjn := (NumOk_at hnum j hj).2
  rw [Nat.zero_add] at hjn
  by_cases h : j % g ≠ r
  · rw [if_pos h, List.find?_eq_some_iff_getElem]
    refine ⟨by simp [hjn, h], j, hj, rfl, fun i hi => ?_⟩
    have := (NumOk_at hnum i (by omega)).2
    simp [this]
    omega
  · rw [if_neg h, List.find?_eq_none]
    intro b hb
    obtain ⟨i, hi, rfl⟩ := List.getElem_of_mem hb
    have := (NumOk_at hnum i hi).2
    rw [Nat.zero_add] at this
    rw [this]
    simp
    intro h1 h2
    apply h1
    rw [show i = j by omega]
    simpa using h
/-- Without one block of each group the container is restored. -/
theorem repair_keep {X : Bs} {bs : List Blk} {g r : Nat} (hB : blocksB X = some bs) (hg : 1 ≤ g) (hg2 : g ≤ 40) : repairB (catT (keepB g r bs)) (parL bs g (cnt bs.length g)) g bs.length = some X := by
  obtain ⟨hnum, hcat, hsz⟩ := blocks_some hB
  have h40 := (blocks_short hB).2
  have hl := keepB_len g r bs bs.length (NumOk_mem hnum) h40
  rw [List.take_length] at hl
  refine repair_full hB hg hg2 (by omega) (fun j hj => ?_) (fun j k hj hk hjk h1 h2 => ?_)
  · rw [keepB_first hnum h40 g r j hj]
    by_cases h : j % g ≠ r
    · rw [if_pos h]; exact .inl rfl
    · rw [if_neg h]; exact .inr rfl
  · rw [keepB_first hnum h40 g r j hj] at h1
    rw [keepB_first hnum h40 g r k hk] at h2
    have e1 : j % g = r := by
      by_cases h : j % g = r
      · exact h
      · rw [if_pos h] at h1; cases h1
    have e2 : k % g = r := by
      by_cases h : k % g = r
      · exact h
      · rw [if_pos h] at h2; cases h2
    have d1 := Nat.div_add_mod j g
    have d2 := Nat.div_add_mod k g
    rw [hjk] at d1
    omega
theorem repair_same {X : Bs} {bs : List Blk} {g : Nat} (hB : blocksB X = some bs) (hg : 1 ≤ g) (hg2 : g ≤ 40) : repairB X (parL bs g (cnt bs.length g)) g bs.length = some X := by
  obtain ⟨hnum, hcat, hsz⟩ := blocks_some hB
  have h := blocks_short hB
  have hf : ∀ (j : Nat) (hj : j < bs.length), firstF (findB X) (j : Int) = some bs[j] := fun j hj => by
    rw [← hcat, find_cat (NumOk_mem hnum) (by rw [hcat]; omega), firstF_withAt, List.find?_eq_some_iff_getElem]
    have hjn := (NumOk_at hnum j hj).2
    rw [Nat.zero_add] at hjn
    refine ⟨by simp [hjn], j, hj, rfl, fun i hi => ?_⟩
    have := (NumOk_at hnum i (by omega)).2
    simp [this]
    omega
  refine repair_full hB hg hg2 (by omega) (fun j hj => .inl (hf j hj)) (fun j k hj hk _ h1 _ => ?_)
  rw [hf j hj] at h1; cases h1
end Go.Proofs.YtfonokhafdflcaaGreat
