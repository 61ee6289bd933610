import Derived.Test.YtfonokhafdflcaaGreatDoorKGU3
import Derived.Test.YtfonokhafdflcaaGreatDoorKQ11
namespace Go.Proofs.YtfonokhafdflcaaGreatDoor
open Go.RowKit
set_option linter.unusedSimpArgs false
set_option linter.unusedVariables false
def dropB (bs : List Blk) (r : Nat) : List Blk := bs.take r ++ bs.drop (r + 1)
theorem dropB_mem {bs : List Blk} {r : Nat} {b : Blk} (h : b ∈ dropB bs r) : b ∈ bs := by
 unfold dropB at h
 rcases List.mem_append.1 h with h | h
 ·exact List.mem_of_mem_take h
 ·exact List.mem_of_mem_drop h
theorem dropB_text {X : Bs} {bs : List Blk} {r : Nat} (hr : r < bs.length) (hc : catT bs = X) : X.take (catT (bs.take r)).length ++ X.drop (catT (bs.take (r + 1))).length = catT (dropB bs r) := by
 have h1 : catT bs = catT (bs.take r) ++ catT (bs.drop r) := by rw [← catT_app, List.take_append_drop]
 have h2 : catT bs = catT (bs.take (r + 1)) ++ catT (bs.drop (r + 1)) := by rw [← catT_app, List.take_append_drop]
 unfold dropB
 rw [catT_app, ← hc]
 conv => lhs; arg 1; rw [h1]
 conv => lhs; arg 2; rw [h2]
 rw [List.take_left, List.drop_left]
theorem NumOk_drop {bs : List Blk} {n : Nat} (h : NumOk n bs) (k : Nat) : NumOk (n + k) (bs.drop k) := by
  induction bs generalizing n k with
  | nil => simp [NumOk]
  | cons b bs ih =>
    cases k with
    | zero => exact h
    | succ k => rw [List.drop_succ_cons, show n + (k + 1) = (n + 1) + k by omega]; exact ih h.2.2 k
theorem drop_first {X : Bs} {bs : List Blk} (hnum : NumOk 0 bs) (hX : catT bs = X) (hl : X.length ≤ 2960) {r : Nat} (hr : r < bs.length) (i : Nat) :
  firstF (findB (catT (dropB bs r))) (i : Int) = if i = r then none else bs[i]? := by
 have hok : ∀ b ∈ dropB bs r, b.ok = true := fun b hb => NumOk_mem hnum b (dropB_mem hb)
 have hlen : (catT (dropB bs r)).length ≤ 8000 := by
  rw [← dropB_text hr hX, List.length_append, List.length_take, List.length_drop]; omega
 have e := find_cat hok hlen
 rw [e, firstF_withAt]
 unfold dropB
 rw [List.find?_append]
 have n1 := NumOk_take hnum r
 have n2 := NumOk_drop hnum (r + 1)
 have l1 : (bs.take r).length = r := by rw [List.length_take]; omega
 by_cases h1 : i < r
 ·have h := find_numK n1 i (by omega)
  rw [Nat.zero_add] at h
  rw [h, if_neg (by omega), List.getElem_take, List.getElem?_eq_getElem (by omega)]
  rfl
 ·have h := find_num_no n1 (i : Int) (by omega)
  rw [h, Option.none_or]
  by_cases h2 : i = r
  ·rw [if_pos h2]
   exact find_num_no n2 (i : Int) (by omega)
  ·rw [if_neg h2]
   by_cases h3 : i < bs.length
   ·have hh := find_numK n2 (i - (r + 1)) (by rw [List.length_drop]; omega)
    rw [show 0 + (r + 1) + (i - (r + 1)) = i by omega] at hh
    rw [hh, List.getElem_drop, List.getElem?_eq_getElem h3]
    simp only [show r + 1 + (i - (r + 1)) = i by omega]
   ·rw [List.getElem?_eq_none (by omega)]
    exact find_num_no n2 (i : Int) (by rw [List.length_drop]; omega)
theorem hasP_app (ps : List Pc) (p : Pc) (n : Int) : hasP (ps ++ [p]) n = (hasP ps n).or (if p.1 = n then some p.2 else none) := by
  unfold hasP
  rw [List.find?_append]
  cases hf : ps.find? fun p => decide (p.1 = n) with
  | some q => simp
  | none =>
    by_cases h : p.1 = n
    · simp [h]
    · simp [h]
theorem pcOf_num {K : Kn} {fs : List Fd} {n : Int} {p : Pc} (h : pcOf K fs n = some p) : p.1 = n := by
  unfold pcOf at h
  cases hb : firstF fs n with
  | none => rw [hb] at h; cases h
  | some b =>
    rw [hb, Option.bind_some] at h
    cases hd : b.dat K with
    | none => rw [hd] at h; cases h
    | some d => rw [hd] at h; injection h with h; rw [← h]
theorem hasP_pcTo (K : Kn) (fs : List Fd) : ∀ (k i : Nat), hasP (pcTo K fs k) (i : Int) = if i < k then (pcOf K fs (i : Int)).map (·.2) else none
  | 0, i => by rw [if_neg (by omega)]; rfl
  | k + 1, i => by
    have ih := hasP_pcTo K fs k i
    cases hp : pcOf K fs (k : Int) with
    | none =>
      rw [pcTo_none hp, ih]
      by_cases h : i < k
      · rw [if_pos h, if_pos (by omega)]
      · rw [if_neg h]
        by_cases h2 : i = k
        · rw [if_pos (by omega), h2, hp]; rfl
        · rw [if_neg (by omega)]
    | some p =>
      have hn := pcOf_num hp
      rw [pcTo_some hp, hasP_app, ih]
      by_cases h : i < k
      · rw [if_pos h, if_neg (show ¬ p.1 = (i : Int) by omega), Option.or_none, if_pos (by omega)]
      · rw [if_neg h, Option.none_or]
        by_cases h2 : i = k
        · rw [if_pos (by omega), if_pos (by omega), h2, hp]; rfl
        · rw [if_neg (by omega), if_neg (by omega)]
theorem pcTo_past {K : Kn} {fs : List Fd} {c : Nat} (h : ∀ i : Nat, c ≤ i → pcOf K fs (i : Int) = none) : ∀ k, pcTo K fs (c + k) = pcTo K fs c
 | 0 => rfl
 | k + 1 => by rw [← Nat.add_assoc, pcTo_none (h (c + k) (by omega)), pcTo_past h k]
theorem flat_take_succ (cs : List Bs) (k : Nat) (h : k < cs.length) : (cs.take (k + 1)).flatten = (cs.take k).flatten ++ cs[k] := by
 rw [List.take_succ_eq_append_getElem h, List.flatten_append]; simp
theorem join_drop {ps : List Pc} {cs : List Bs} {r s : Nat} {f : UInt8} (hr : r < cs.length) (hn : hasP ps (r : Int) = none) (hh : ∀ i (hi : i < cs.length), i ≠ r → hasP ps (i : Int) = some cs[i]) :
    ∀ k, k ≤ cs.length → joinTo ps s f k = if k ≤ r then (cs.take k).flatten else (cs.take r).flatten ++ List.replicate s f ++ ((cs.take k).flatten).drop ((cs.take (r + 1)).flatten).length
  | 0, _ => by rw [if_pos (by omega)]; rfl
  | k + 1, hk => by
    have ih := join_drop (s := s) (f := f) hr hn hh k (by omega)
    rw [joinTo_succ, ih]
    by_cases h1 : k + 1 ≤ r
    · rw [if_pos (by omega), if_pos h1, hh k (by omega) (by omega), flat_take_succ cs k (by omega)]; rfl
    · rw [if_neg h1]
      by_cases h2 : k = r
      · rw [if_pos (by omega), h2, hn, List.drop_length, List.append_nil]; rfl
      · rw [if_neg (by omega), hh k (by omega) (by omega), flat_take_succ cs k (by omega), Option.getD_some]
        have hle : ((cs.take (r + 1)).flatten).length ≤ ((cs.take k).flatten).length := by
          have e : cs.take k = cs.take (r + 1) ++ (cs.drop (r + 1)).take (k - (r + 1)) := by
            rw [← List.take_append_drop (r + 1) (cs.take k), List.take_take, Nat.min_eq_left (by omega), List.drop_take]
          rw [e, List.flatten_append, List.length_append]; omega
        rw [List.drop_append_of_le_length hle]
        simp only [List.append_assoc]
section
variable {K : Kn} {X d : Bs} {n : Nat} {bs : List Blk} {cs : List Bs}
theorem Made.size_take (h : Made K X d n bs cs) : ∀ k, k ≤ bs.length → sizesOf (bs.take k) = (((cs.take k).flatten.length : Nat) : Int)
  | 0, _ => rfl
  | k + 1, hk => by
    have hl := h.len
    rw [List.take_succ_eq_append_getElem (by omega), sizesOf_snoc, h.size_take k (by omega), flat_take_succ cs k (by omega), List.length_append, (h.dat k (by omega) (by omega)).2]
    omega
theorem Made.flat_bd (h : Made K X d n bs cs) (k : Nat) : (cs.take k).flatten.length ≤ d.length ∧ d.take (cs.take k).flatten.length = (cs.take k).flatten ∧ d.drop (cs.take k).flatten.length = (cs.drop k).flatten := by
 have e : (cs.take k).flatten ++ (cs.drop k).flatten = d := by rw [← List.flatten_append, List.take_append_drop, h.flat]
 rw [← e]
 refine ⟨by simp, by rw [List.take_left], by rw [List.drop_left]⟩
theorem Made.dropFirst (h : Made K X d n bs cs) {r : Nat} (hr : r < bs.length) (i : Nat) : firstF (findB (catT (dropB bs r))) (i : Int) = if i = r then none else bs[i]? :=
 drop_first h.num h.cat h.short hr i
theorem Made.dropOf (h : Made K X d n bs cs) {r : Nat} (hr : r < bs.length) (i : Nat) : (pcOf K (findB (catT (dropB bs r))) (i : Int)).map (·.2) = if i = r then none else cs[i]? := by
 have hl := h.len
 have hf := h.dropFirst hr i
 by_cases h1 : i = r
 ·rw [if_pos h1] at hf; rw [pcOf_no hf, if_pos h1]; rfl
 ·rw [if_neg h1] at hf
  rw [if_neg h1]
  by_cases h2 : i < bs.length
  ·rw [List.getElem?_eq_getElem h2] at hf
   rw [pcOf_yes hf (h.dat i h2 (by omega)).1, List.getElem?_eq_getElem (by omega)]; rfl
  ·rw [List.getElem?_eq_none (by omega)] at hf
   rw [pcOf_no hf, List.getElem?_eq_none (by omega)]; rfl
theorem Made.dropPcs (h : Made K X d n bs cs) {r : Nat} (hr : r < bs.length) : pcTo K (findB (catT (dropB bs r))) 40 = pcTo K (findB (catT (dropB bs r))) cs.length := by
 have hl := h.len
 have hm := h.most
 have := pcTo_past (K := K) (fs := findB (catT (dropB bs r))) (c := cs.length) (fun i hi => by
  have := h.dropOf hr i
  rw [if_neg (by omega), List.getElem?_eq_none (by omega)] at this
  exact Option.map_eq_none_iff.1 this) (40 - cs.length)
 rwa [show cs.length + (40 - cs.length) = 40 by omega] at this
theorem Made.dropHas (h : Made K X d n bs cs) {r : Nat} (hr : r < bs.length) (i : Nat) : hasP (pcTo K (findB (catT (dropB bs r))) cs.length) (i : Int) = if i = r then none else cs[i]? := by
 have hl := h.len
 rw [hasP_pcTo, h.dropOf hr i]
 by_cases h1 : i < cs.length
 ·rw [if_pos h1]
 ·rw [if_neg h1, if_neg (by omega), List.getElem?_eq_none (by omega)]
theorem Made.dropPV (h : Made K X d n bs cs) {r : Nat} (hr : r < bs.length) : PV (pcTo K (findB (catT (dropB bs r))) cs.length) cs.length :=
 ⟨by omega, by have := h.most; have := h.len; omega, pcTo_ok (find_ok _) cs.length⟩
theorem Made.dropJoin (h : Made K X d n bs cs) (hn64 : n ≤ 64) {r : Nat} (hr : r < bs.length) {a b : Nat} (ha : (a : Int) = (plcAt bs r).2) (hb : (b : Int) = (plcAt bs (r + 1)).2) :
  a < b ∧ b ≤ d.length ∧ b - a ≤ 64 ∧ joinB (pcTo K (findB (catT (dropB bs r))) 40) cs.length ((b : Int) - (a : Int)) 63 = some (d.take a ++ List.replicate (b - a) 63 ++ d.drop b) := by
 have hl := h.len
 have e1 : a = (cs.take r).flatten.length := by
  have := h.size_take r (by omega)
  unfold plcAt at ha
  simp only at ha
  omega
 have e2 : b = (cs.take (r + 1)).flatten.length := by
  have := h.size_take (r + 1) (by omega)
  unfold plcAt at hb
  simp only at hb
  omega
 have hx := h.bd cs[r] (List.getElem_mem (by omega))
 have e3 : b = a + cs[r].length := by rw [e2, flat_take_succ cs r (by omega), List.length_append, ← e1]
 obtain ⟨f1, f2, f3⟩ := h.flat_bd r
 obtain ⟨g1, g2, g3⟩ := h.flat_bd (r + 1)
 have hj := join_drop (ps := pcTo K (findB (catT (dropB bs r))) cs.length) (cs := cs) (r := r) (s := b - a) (f := 63) (by omega) (by rw [h.dropHas hr r, if_pos rfl]) (fun i hi hne => by rw [h.dropHas hr i, if_neg hne, List.getElem?_eq_getElem hi]) cs.length (Nat.le_refl _)
 refine ⟨by omega, by omega, by omega, ?_⟩
 rw [h.dropPcs hr, joinB_yes ⟨h.dropPV hr, by omega, by omega, by omega, by omega⟩, Int.toNat_natCast, show ((b : Int) - (a : Int)).toNat = b - a by omega, show (63 : Int).toNat = 63 from rfl]
 show some (joinTo _ _ (UInt8.ofNat 63) _) = _
 rw [show (UInt8.ofNat 63) = (63 : UInt8) from rfl, hj, if_neg (by omega), List.take_length, h.flat, ← e2, ← f2, ← e1]
theorem Made.dropNone (h : Made K X d n bs cs) {r : Nat} (hr : r + 1 < bs.length) : blocksB (catT (dropB bs r)) = none := by
  cases hB : blocksB (catT (dropB bs r)) with
  | none => rfl
  | some es =>
    exfalso
    obtain ⟨h1, h2, h3⟩ := blocks_some hB
    have hok : ∀ b ∈ dropB bs r, b.ok = true := fun b hb => NumOk_mem h.num b (dropB_mem hb)
    have he := catT_inj es (dropB bs r) (NumOk_mem h1) hok h2
    have hlen : r < es.length := by rw [he]; unfold dropB; rw [List.length_append, List.length_take, List.length_drop]; omega
    have hn := (NumOk_at h1 r hlen).2
    have e : es[r]? = some (bs[r + 1]'(by omega)) := by
      rw [he]; unfold dropB
      rw [List.getElem?_append_right (by rw [List.length_take]; omega), List.length_take, Nat.min_eq_left (by omega), Nat.sub_self, List.getElem?_drop]
      exact List.getElem?_eq_getElem hr
    have e := (List.getElem?_eq_getElem hlen).symm.trans e
    injection e with e
    have hm := (NumOk_at h.num (r + 1) (by omega)).2
    rw [e] at hn
    omega
theorem Made.dropLast (h : Made K X d n bs cs) {r : Nat} (hr : r + 1 = bs.length) : blocksB (catT (dropB bs r)) = some (bs.take r) := by
 have e : dropB bs r = bs.take r := by unfold dropB; rw [List.drop_of_length_le (by omega), List.append_nil]
 rw [e]
 refine blocks_cat (NumOk_take h.num r) ?_
 have := h.size_take r (by omega)
 have := (h.flat_bd r).1
 have := h.small
 omega
end
end Go.Proofs.YtfonokhafdflcaaGreatDoor
