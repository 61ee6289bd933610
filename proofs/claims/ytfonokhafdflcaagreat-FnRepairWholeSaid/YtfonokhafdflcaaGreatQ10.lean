/- Plain: what is found in a container that was made of data. -/
import Derived.Test.YtfonokhafdflcaaGreatQ9
import Derived.Test.YtfonokhafdflcaaGreatQ7
import Derived.Test.YtfonokhafdflcaaGreatGU3
import Derived.Test.YtfonokhafdflcaaGreatGT
import Derived.Test.YtfonokhafdflcaaGreatGB
import Derived.Test.YtfonokhafdflcaaGreatP15
namespace Go.Proofs.YtfonokhafdflcaaGreat
open Go.RowKit
set_option linter.unusedSimpArgs false
set_option linter.unusedVariables false
/-- The data of the block of data are the data. -/
theorem blkK_dat {K : Kn} (hk : K.ok) (n : Int) {d : Bs} (hd : d.length ≤ 64) : (blkK K n d).dat K = some d := by
  cases hc : compO K d with
  | none => rw [blkK_none hc]; unfold Blk.dat; rw [if_pos rfl]
  | some s =>
    rw [blkK_some hc]
    split
    · rename_i hs
      have hf : fits K.o K.l K.m d := by
        by_cases hf : fits K.o K.l K.m d
        · exact hf
        · unfold compO at hc; rw [if_neg hf] at hc; cases hc
      have hsc : s = K.comp d := by unfold compO at hc; rw [if_pos hf] at hc; injection hc with hc; exact hc.symm
      subst hsc
      have h := dec_comp hk hf.2.2 hf.2.1 (by have := greedy_len K d hk.base0 hf.2.1; omega) (by omega)
      unfold Blk.dat
      rw [if_neg (by simp), h, if_neg (by simp)]
    · unfold Blk.dat; rw [if_pos rfl]
/-- A container that was made: its blocks, its data in parts. -/
structure Made (K : Kn) (X d : Bs) (size : Nat) (bs : List Blk) (cs : List Bs) : Prop where
  num : NumOk 0 bs
  cat : catT bs = X
  siz : sizesOf bs = (d.length : Int)
  len : bs.length = cs.length
  dat : ∀ (i : Nat) (h : i < bs.length) (h' : i < cs.length), bs[i].dat K = some cs[i] ∧ bs[i].size = (cs[i].length : Int)
  bd : ∀ x ∈ cs, 1 ≤ x.length ∧ x.length ≤ size
  flat : cs.flatten = d
  most : bs.length ≤ 40
  small : d.length ≤ 2000
theorem numB_at (f : Nat) (bs : List Blk) (i : Nat) (h : i < (numB f bs).length) (h' : i < bs.length) : (numB f bs)[i] = { bs[i] with num := ((f + i : Nat) : Int) } := by
  induction bs generalizing f i with
  | nil => simp at h'
  | cons b bs ih =>
    cases i with
    | zero => simp [numB]
    | succ i =>
      simp only [numB, List.getElem_cons_succ]
      have := ih (f + 1) i (by simpa [numB] using h) (by simpa using h')
      rw [this, show f + 1 + i = f + (i + 1) by omega]
theorem numB_ok (f : Nat) (bs : List Blk) (h : ∀ b ∈ bs, b.ok = true) (hl : f + bs.length ≤ 40) : NumOk f (numB f bs) := by
  induction bs generalizing f with
  | nil => trivial
  | cons b bs ih =>
    rw [List.length_cons] at hl
    exact ⟨ok_num (h b (by simp)) (by omega) (by omega), rfl, ih (f + 1) (fun c hc => h c (by simp [hc])) (by omega)⟩
theorem made_of {o l m : Int} {dict d X : Bs} {size : Int} (h : mkC o l m dict d size = some X) :
    ∃ (n : Nat) (bs : List Blk) (cs : List Bs), size = n ∧ 1 ≤ n ∧ n ≤ 64 ∧ fits o l m dict ∧ (startW o l m dict).ok ∧ Made (startW o l m dict) X d n bs cs := by
  unfold mkC at h
  split at h
  · rename_i hc
    obtain ⟨hf, h1, h2, h3, h4⟩ := hc
    injection h with h
    obtain ⟨n, rfl⟩ := Int.eq_ofNat_of_zero_le (by omega : 0 ≤ size)
    rw [Int.toNat_natCast] at h
    have hk := startW_ok hf
    have hl : (mks (startW o l m dict) n d.length d).length = (chunks n d.length d).length := by unfold mks; rw [List.length_map]
    have h40 : (chunks n d.length d).length ≤ 40 := chunks_len n (by omega) 40 _ d (by omega)
    refine ⟨n, numB 0 (mks (startW o l m dict) n d.length d), chunks n d.length d, rfl, by omega, by omega, hf, hk, ?_, ?_, ?_, ?_, ?_, ?_, ?_, ?_, h4⟩
    · exact numB_ok 0 _ (mks_ok hk n _ (by omega) (by omega) d) (by omega)
    · rw [← h]; unfold mkB; rw [mkGo_mks]
    · rw [numB_sizes, mks_sizes _ _ _ (by omega) d (Nat.le_refl _)]
    · rw [numB_length, hl]
    · intro i hi hi'
      have hx := chunks_bd n (by omega) d.length d (chunks n d.length d)[i] (List.getElem_mem hi')
      rw [numB_at 0 _ i hi (by omega)]
      have e : (mks (startW o l m dict) n d.length d)[i]'(by omega) = blkK (startW o l m dict) 0 (chunks n d.length d)[i] := by unfold mks; rw [List.getElem_map]
      rw [e, blkK_num]
      exact ⟨blkK_dat hk _ (by omega), blkK_size _ _ _⟩
    · exact fun x hx => chunks_bd n (by omega) d.length d x hx
    · exact chunks_sum n (by omega) d.length d (Nat.le_refl _)
    · rw [numB_length, hl]; exact h40
  · cases h
section
variable {K : Kn} {X d : Bs} {n : Nat} {bs : List Blk} {cs : List Bs}
theorem Made.blocks (h : Made K X d n bs cs) : blocksB X = some bs := by
  rw [← h.cat]
  exact blocks_cat h.num (by have := h.siz; have := h.small; omega)
theorem Made.ok (h : Made K X d n bs cs) : ∀ b ∈ bs, b.ok = true := NumOk_mem h.num
theorem Made.short (h : Made K X d n bs cs) : X.length ≤ 2960 := (blocks_short h.blocks).1
theorem Made.find (h : Made K X d n bs cs) : findB X = withAt 0 bs := by
  have h1 := find_cat h.ok (by rw [h.cat]; have := h.short; omega)
  rw [h.cat] at h1
  exact h1
theorem find_numK {f : Nat} {bs : List Blk} (h : NumOk f bs) (i : Nat) (hi : i < bs.length) : (bs.find? fun b => decide (b.num = ((f + i : Nat) : Int))) = some bs[i] := by
  rw [List.find?_eq_some_iff_getElem]
  refine ⟨by simpa using (NumOk_at h i hi).2, i, hi, rfl, fun j hj => ?_⟩
  have := (NumOk_at h j (by omega)).2
  simp only [Bool.not_eq_true', decide_eq_false_iff_not]
  omega
theorem find_num_no {f : Nat} {bs : List Blk} (h : NumOk f bs) (k : Int) (hk : k < f ∨ ((f + bs.length : Nat) : Int) ≤ k) : (bs.find? fun b => decide (b.num = k)) = none := by
  rw [List.find?_eq_none]
  intro b hb
  obtain ⟨i, hi, rfl⟩ := List.getElem_of_mem hb
  have := (NumOk_at h i hi).2
  simp only [decide_eq_true_eq]
  omega
theorem Made.first (h : Made K X d n bs cs) (i : Nat) (hi : i < bs.length) : firstF (findB X) (i : Int) = some bs[i] := by
  rw [h.find, firstF_withAt]
  have := find_numK h.num i hi
  rwa [Nat.zero_add] at this
theorem Made.firstNo (h : Made K X d n bs cs) (i : Int) (hi : i < 0 ∨ (bs.length : Int) ≤ i) : firstF (findB X) i = none := by
  rw [h.find, firstF_withAt]
  exact find_num_no h.num i (by omega)
/-- All pieces of so many first parts. -/
def pcAll (cs : List Bs) (k : Nat) : List Pc := (List.range k).filterMap fun i : Nat => cs[i]?.map fun x => ((i : Int), x)
theorem pcAll_succ (cs : List Bs) (k : Nat) (h : k < cs.length) : pcAll cs (k + 1) = pcAll cs k ++ [((k : Int), cs[k])] := by
  unfold pcAll; rw [List.range_succ, List.filterMap_append]; simp [List.getElem?_eq_getElem h]
theorem pcAll_past (cs : List Bs) (k : Nat) (h : cs.length ≤ k) : pcAll cs k = pcAll cs cs.length := by
  induction k with
  | zero => have : cs.length = 0 := by omega
            rw [this]
  | succ k ih =>
    by_cases he : cs.length = k + 1
    · rw [he]
    · rw [← ih (by omega)]
      unfold pcAll; rw [List.range_succ, List.filterMap_append]; simp [List.getElem?_eq_none (show cs.length ≤ k by omega)]
theorem pcAll_length (cs : List Bs) (k : Nat) (h : k ≤ cs.length) : (pcAll cs k).length = k := by
  induction k with
  | zero => rfl
  | succ k ih => rw [pcAll_succ cs k (by omega), List.length_append, ih (by omega)]; rfl
theorem pcAll_at (cs : List Bs) (k i : Nat) (h : k ≤ cs.length) (hi : i < (pcAll cs k).length) : ∃ h' : i < cs.length, (pcAll cs k)[i] = ((i : Int), cs[i]) := by
  induction k with
  | zero => simp [pcAll] at hi
  | succ k ih =>
    have hl := pcAll_length cs (k + 1) h
    have hl2 := pcAll_length cs k (by omega)
    by_cases he : i < k
    · obtain ⟨h1, h2⟩ := ih (by omega) (by omega)
      refine ⟨h1, ?_⟩
      simp only [pcAll_succ cs k (by omega)]
      rw [List.getElem_append_left (by omega)]
      exact h2
    · have : i = k := by omega
      subst this
      refine ⟨by omega, ?_⟩
      simp only [pcAll_succ cs i (by omega)]
      rw [List.getElem_append_right (by omega)]
      simp [hl2]
theorem Made.pcs (h : Made K X d n bs cs) : pcTo K (findB X) 40 = pcAll cs cs.length := by
  have hm := h.most
  have hl := h.len
  rw [← pcAll_past cs 40 (by omega)]
  unfold pcTo pcAll
  congr 1
  funext i
  by_cases hi : i < cs.length
  · rw [List.getElem?_eq_getElem hi, pcOf_yes (h.first i (by omega)) ((h.dat i (by omega) hi).1)]; rfl
  · rw [List.getElem?_eq_none (by omega), pcOf_no (h.firstNo (i : Int) (by omega))]; rfl
theorem Made.has (h : Made K X d n bs cs) (i : Nat) (hi : i < cs.length) : hasP (pcAll cs cs.length) (i : Int) = some cs[i] := by
  have hl := pcAll_length cs cs.length (Nat.le_refl _)
  have hi2 : i < (pcAll cs cs.length).length := by omega
  obtain ⟨_, e⟩ := pcAll_at cs cs.length i (Nat.le_refl _) hi2
  rw [hasP_some hi2 (by rw [e]) (fun j hj => by
    obtain ⟨_, e2⟩ := pcAll_at cs cs.length j (Nat.le_refl _) (by omega)
    rw [e2]; simp; omega), e]
theorem Made.pv (h : Made K X d n bs cs) (hn : n ≤ 64) : PV (pcAll cs cs.length) cs.length := by
  have hl := pcAll_length cs cs.length (Nat.le_refl _)
  have hm := h.most
  have he := h.len
  refine ⟨by omega, by omega, (PcOk_iff _ _).2 fun i hi => ?_⟩
  obtain ⟨h1, e⟩ := pcAll_at cs cs.length i (Nat.le_refl _) hi
  have hb := h.bd cs[i] (List.getElem_mem h1)
  unfold pcFine
  rw [e]
  refine ⟨by simp, by simp; omega, hb.1, by simp; omega, fun h0 => ?_⟩
  obtain ⟨_, e2⟩ := pcAll_at cs cs.length (i - 1) (Nat.le_refl _) (by omega)
  rw [e2]; simp; omega
theorem Made.lost (h : Made K X d n bs cs) (hn : n ≤ 64) : lostB (pcAll cs cs.length) cs.length = [] := by
  have hp := h.pv hn
  have hl := pcAll_length cs cs.length (Nat.le_refl _)
  rw [lostB_yes hp]
  have := lost_all hp
  rw [Int.toNat_natCast] at this ⊢
  exact List.eq_nil_of_length_eq_zero (by omega)
theorem join_flat (cs : List Bs) (ps : List Pc) (s : Nat) (f : UInt8) (hh : ∀ i (hi : i < cs.length), hasP ps (i : Int) = some cs[i]) : ∀ k, k ≤ cs.length → joinTo ps s f k = (cs.take k).flatten
  | 0, _ => by simp [joinTo]
  | k + 1, h => by
    have e : cs.take (k + 1) = cs.take k ++ [cs[k]] := List.take_succ_eq_append_getElem (by omega)
    rw [joinTo_succ, join_flat cs ps s f hh k (by omega), hh k (by omega), e, List.flatten_append]
    simp only [Option.getD_some, List.flatten_cons, List.flatten_nil, List.append_nil]
theorem Made.join (h : Made K X d n bs cs) (hn1 : 1 ≤ n) (hn : n ≤ 64) : joinB (pcAll cs cs.length) cs.length n 0 = some d := by
  have hp := h.pv hn
  rw [joinB_yes (show joinOk (pcAll cs cs.length) cs.length n 0 from ⟨hp, by omega, by omega, by omega, by omega⟩), Int.toNat_natCast, Int.toNat_natCast, join_flat cs _ _ _ (fun i hi => h.has i hi) cs.length (Nat.le_refl _), List.take_length, h.flat]
theorem surv_all {X : Bs} (h : Made K X d n bs cs) : ∀ k, k ≤ bs.length → (survL (bs.take k) (findB X)).length = k
  | 0, _ => rfl
  | k + 1, hk => by
    have hf := h.first k (by omega)
    have hn := (NumOk_at h.num k (by omega)).2
    rw [Nat.zero_add] at hn
    rw [List.take_succ_eq_append_getElem (by omega), survL_snoc, if_pos (by rw [hn]; exact hf), List.length_append, surv_all h k (by omega)]
    rfl
theorem Made.surv (h : Made K X d n bs cs) : (survB X X).length = bs.length := by
  unfold survB
  rw [h.blocks]
  have := surv_all h bs.length (Nat.le_refl _)
  rwa [List.take_length] at this
end
end Go.Proofs.YtfonokhafdflcaaGreat
