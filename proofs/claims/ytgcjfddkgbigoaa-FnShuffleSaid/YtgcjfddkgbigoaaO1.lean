/- Walks: orders, and the blocks of a container in another order, by both. -/
import Derived.Test.YtgcjfddkgbigoaaBld
import Derived.Test.YtgcjfddkgbigoaaGP2
import Derived.Test.YtgcjfddkgbigoaaGB
import Derived.Test.YtgcjfddkgbigoaaGW
namespace Go.Proofs.Ytgcjfddkgbigoaa
open Go.RowKit
set_option linter.unusedVariables false
set_option linter.unusedSimpArgs false
set_option maxRecDepth 100000
attribute [local go_sem high] run_index_S binOp_eql_S binOp_neq_S append_S toList_S size_S run_slice_S run_slice_from_S run_slice_to_S wrap64_byteAt wrap64_byteAt_mul bits_or_bytes convU conv1_some convU2 conv2_some
instance (o : List Int) : Decidable (OrdOk o) := by unfold OrdOk; infer_instance
theorem info_bool : (Try.prog.info? 4).map (fun i => (i.zero, i.size, i.bytes)) = some (some (.bool false), 1, 1) := by kernel_rfl
/-- Which numbers below n stand in a list. -/
def seenC (n : Nat) (o : List Int) : List Value := (List.range n).map fun i : Nat => .bool (decide ((i : Int) ∈ o))
theorem seenC_nil (n : Nat) : seenC n [] = List.replicate n (.bool false) := by
  unfold seenC
  apply List.ext_getElem?
  intro j
  by_cases h : j < n <;> simp [h]
theorem seenC_at (n : Nat) (o : List Int) (j : Nat) (h : j < n) : (seenC n o)[j]? = some (.bool (decide ((j : Int) ∈ o))) := by
  unfold seenC; rw [List.getElem?_map, List.getElem?_range h]; rfl
theorem seenC_set (n : Nat) (o : List Int) (j : Nat) (h : j < n) : (seenC n o).set j (.bool true) = seenC n (o ++ [(j : Int)]) := by
  apply List.ext_getElem?
  intro i
  rw [List.getElem?_set]
  have hl : (seenC n o).length = n := by simp [seenC]
  by_cases hij : j = i
  · subst hij
    rw [if_pos rfl, hl, if_pos h, seenC_at n _ j h]
    simp
  · rw [if_neg hij]
    by_cases hi : i < n
    · rw [seenC_at n _ i hi, seenC_at n _ i hi]
      have : ¬ (i : Int) = (j : Int) := by omega
      simp [this]
    · rw [List.getElem?_eq_none (by omega), List.getElem?_eq_none (by simp [seenC]; omega)]
/-- The first k of an order of n things are good. -/
def OrdTo (o : List Int) (n k : Nat) : Prop := (o.take k).Nodup ∧ ∀ x ∈ o.take k, 0 ≤ x ∧ x < n
theorem ordTo_zero (o : List Int) (n : Nat) : OrdTo o n 0 := by unfold OrdTo; simp
theorem ordTo_succ {o : List Int} {n k : Nat} (h : OrdTo o n k) (hk : k < o.length) (h0 : 0 ≤ o[k]) (h1 : o[k] < n) (h2 : o[k] ∉ o.take k) : OrdTo o n (k + 1) := by
  obtain ⟨a, b⟩ := h
  unfold OrdTo
  rw [List.take_succ_eq_append_getElem hk]
  refine ⟨?_, ?_⟩
  · rw [List.nodup_append]
    refine ⟨a, by simp, ?_⟩
    intro x hx y hy e
    simp at hy
    subst hy
    exact h2 (e ▸ hx)
  · intro x hx
    rcases List.mem_append.1 hx with hx | hx
    · exact b x hx
    · simp at hx; subst hx; exact ⟨h0, h1⟩
theorem ordTo_bad {o : List Int} {k : Nat} (hk : k < o.length) (h : o[k] < 0 ∨ (o.length : Int) ≤ o[k] ∨ o[k] ∈ o.take k) : ¬ OrdOk o := by
  rintro ⟨a, b⟩
  have := b o[k] (List.getElem_mem hk)
  rcases h with h | h | h
  · omega
  · omega
  · have e : o = o.take k ++ (o[k] :: o.drop (k + 1)) := by rw [List.getElem_cons_drop, List.take_append_drop]
    rw [e, List.nodup_append] at a
    exact a.2.2 _ h _ List.mem_cons_self rfl
theorem ordTo_full {o : List Int} (h : OrdTo o o.length o.length) : OrdOk o := by
  unfold OrdTo at h
  rw [List.take_length] at h
  exact h
abbrev iV (c : Int) : Value := .int .i64 c
abbrev SlI (w : World) (A : Option Addr) (cap : Nat) (o : List Int) : Prop := Sl w A o.length cap 1 (o.map iV)
theorem SlI.at {w : World} {A : Option Addr} {cap : Nat} {o : List Int} (h : SlI w A cap o) {k : Nat} (hk : k < o.length) : ∃ g off, A = some ⟨g, off, none⟩ ∧ g < w.heap.size ∧ w.cell? ⟨g, off + k, none⟩ = some (iV o[k]) := by
  obtain ⟨g, off, u, hA, hg, hu, hc⟩ := Sl.at1 h hk
  refine ⟨g, off, hA, hg, ?_⟩
  rw [List.getElem?_map, List.getElem?_eq_getElem hk] at hu
  simp at hu
  rw [hc, ← hu]
set_option maxHeartbeats 1000000 in
theorem l7Order_any (o : List Int) (A : Option Addr) (cap : Nat) (w : World) (hs : SlI w A cap o) (hl : o.length ≤ 100000) :
    Calls Try.prog 69 #[.slice A o.length cap] w fun e w' => e = .returned (.bool (decide (OrdOk o))) ∧ Below w.heap.size w w' := by
  obtain ⟨i0, hi, hz0, hz1, hz2⟩ := info_parts info_bool
  have HS : Go.RowKit.Hid (∀ wr, Below w.heap.size w wr → SlI wr A cap o) := fun wr h => hs.below h
  have hcap := hs.1
  obtain ⟨n, hn⟩ : ∃ n, o.length = n := ⟨_, rfl⟩
  obtain ⟨B, hB⟩ : ∃ B : Bool, decide (OrdOk o) = B := ⟨_, rfl⟩
  rw [hB]
  have HBY : Go.RowKit.Hid (OrdOk o → B = true) := fun h => by rw [← hB]; simpa using h
  have HBN : Go.RowKit.Hid (¬ OrdOk o → B = false) := fun h => by rw [← hB]; simpa using h
  clear hB hs
  go_enter Try.func69, Try.ntmps69
  rw [hn]
  go_wp2_with (at_make; go_must (refine wpList_make_full _ rfl _ _ 85 rfl w.heap.size 4 i0 (.bool false) 1 Try.underlying85 hi hz0 hz1 _ _ _ _ n rfl rfl (by omega) (by omega) (by rw [hz2]; omega) (by unfold maxLen; omega) (by omega) ?_); intro w2 hown hg1)
  have b2 : Below w.heap.size w w2 := (Below.refl _ _).grown hg1 (Nat.le_refl _) (by simp)
  rw [← hn] at *
  clear hg1
  go_loopw [4] (fun i wr => ∃ k : Nat, i = .int .i64 (k : Int) ∧ k ≤ o.length ∧ Go.RowKit.Hid (OrdTo o o.length k) ∧ wr.ownsRow w.heap.size 4 1 (.slice (some ⟨w.heap.size, 0, none⟩) o.length o.length) o.length (seenC o.length (o.take k)) ∧ Below w.heap.size w wr) (fun i _ => o.length - (intOf i).toNat)
  case atStart =>
    refine ⟨0, rfl, by omega, ordTo_zero o _, ?_, b2⟩
    rw [List.take_zero, seenC_nil, ← toList_madeCells_one]
    rw [Nat.mul_one] at hown
    exact hown
  case round =>
    obtain ⟨k, rfl, hk, HO, hown, hb⟩ := hrel
    have hz := hb.size
    have hlt3 : w.heap.size < wr.heap.size := (hown.lt _ rfl).2
    by_cases hlt : k < o.length
    · have hki : (k : Int) < o.length := by omega
      obtain ⟨g, off, rfl, hg, c0⟩ := (HS.out wr hb).at hlt
      by_cases h0 : o[k] < 0
      · have HB2 := Go.Lib.hid (HBN.out (ordTo_bad hlt (.inl h0)))
        generalize o[k] = x at *
        clear hown
        go_wp2
        go_ret
        exact ⟨ret_bool HB2.out.symm, hb⟩
      by_cases h1 : (o.length : Int) ≤ o[k]
      · have HB2 := Go.Lib.hid (HBN.out (ordTo_bad hlt (.inr (.inl h1))))
        generalize o[k] = x at *
        clear hown
        go_wp2
        go_ret
        exact ⟨ret_bool HB2.out.symm, hb⟩
      obtain ⟨m, hm⟩ := Int.eq_ofNat_of_zero_le (show 0 ≤ o[k] by omega)
      have hmn : m < o.length := by omega
      have hcl := (hown.cellAt m (by omega)).trans (seenC_at o.length (o.take k) m hmn)
      by_cases h2 : (m : Int) ∈ o.take k
      · have HB2 := Go.Lib.hid (HBN.out (ordTo_bad hlt (.inr (.inr (by rw [hm]; exact h2)))))
        rw [decide_eq_true h2] at hcl
        rw [hm] at c0
        have hmi : (m : Int) < o.length := by omega
        clear hown h0 h1 hm h2
        go_wp2
        go_ret
        exact ⟨ret_bool HB2.out.symm, hb⟩
      · rw [decide_eq_false h2] at hcl
        have HO2 : Go.RowKit.Hid (OrdTo o o.length (k + 1)) := ordTo_succ HO.out hlt (by omega) (by omega) (by rw [hm]; exact h2)
        have hfr := hown.frozenAt m
        have hst := (hown.stored m (.bool true)).1
        rw [seenC_set _ _ _ hmn] at hst
        have e : o.take k ++ [(m : Int)] = o.take (k + 1) := by rw [List.take_succ_eq_append_getElem hlt, hm]
        rw [e] at hst
        have HST := Go.Lib.hid hst
        have b3 : Below w.heap.size w (wr.setCell ⟨w.heap.size, m, none⟩ (.bool true)) := hb.setCell (Nat.le_refl _) _
        rw [hm] at c0
        have hmi : (m : Int) < o.length := by omega
        clear hown h0 h1 hm h2 hst e HO
        go_wp2
        go_roundw
        case rel => exact ⟨k + 1, by go_num, by omega, HO2, HST.out, b3⟩
        case measure => simp [intOf]; omega
    · have hki : ¬ (k : Int) < o.length := by omega
      have hke : k = o.length := by omega
      subst hke
      have HB2 := Go.Lib.hid (HBY.out (ordTo_full HO.out))
      clear hown HO
      go_wp2
      go_ret
      exact ⟨ret_bool HB2.out.symm, hb⟩
end Go.Proofs.Ytgcjfddkgbigoaa
