/- Walks: a text cut at a byte. -/
import Derived.Test.YtoogaalbnnlloaaGreatDoorGA
import Derived.Test.YtoogaalbnnlloaaGreatDoorGQ
namespace Go.Proofs.YtoogaalbnnlloaaGreatDoor
open Go.RowKit
set_option linter.unusedVariables false
set_option maxRecDepth 100000
attribute [local go_sem high] run_index_S binOp_eql_S binOp_neq_S append_S toList_S size_S run_slice_S run_slice_from_S run_slice_to_S wrap64_byteAt wrap64_byteAt_mul bits_or_bytes convU conv1_some convU2 conv2_some
theorem cut_step (c : UInt8) (l : Bs) (f k : Nat) (hf : f ≤ k) (hk : k < l.length) (h : ∀ x ∈ (l.drop f).take (k - f), x ≠ c) (hc : l[k] = c) :
    cut c (l.drop f) = (l.drop f).take (k - f) :: cut c (l.drop (k + 1)) := by
  have e : l.drop f = (l.drop f).take (k - f) ++ c :: l.drop (k + 1) := by
    conv => lhs; rw [← List.take_append_drop (k - f) (l.drop f)]
    rw [List.drop_drop, show f + (k - f) = k by omega, List.drop_eq_getElem_cons hk, hc]
  conv => lhs; rw [e]
  exact cut_hit c _ _ h
theorem take_step (c : UInt8) (l : Bs) (f k : Nat) (hf : f ≤ k) (hk : k < l.length) (h : ∀ x ∈ (l.drop f).take (k - f), x ≠ c) (hc : l[k] ≠ c) : ∀ x ∈ (l.drop f).take (k + 1 - f), x ≠ c := by
  intro x hx
  rw [show k + 1 - f = (k - f) + 1 by omega, List.take_succ_eq_append_getElem (by simp; omega)] at hx
  rcases List.mem_append.1 hx with hx | hx
  · exact h x hx
  · simp at hx
    rw [hx]
    simpa [show f + (k - f) = k by omega] using hc
/-- What holds at the head of the loop: the pieces so far are out; nothing in what is being read is the byte. -/
def CutInv (c : UInt8) (l : Bs) (out : List Bs) (f k : Nat) : Prop :=
  k ≤ l.length + 1 ∧ (k ≤ l.length → f ≤ k ∧ cut c l = out ++ cut c (l.drop f) ∧ ∀ x ∈ (l.drop f).take (k - f), x ≠ c) ∧ (k = l.length + 1 → out = cut c l)
set_option maxHeartbeats 1000000 in
theorem l9Cut_any (c : UInt8) (l : Bs) (w : World) (hs : l.length ≤ 2000000) :
    Calls Tryz.prog 26 #[.string ⟨l.toArray⟩, .int .u8 (c.toNat : Int)] w fun e w' => (∃ v, e = .returned v ∧ w'.ownsRow w.heap.size 9 1 v (cut c l).length ((cut c l).map sv)) ∧ Below w.heap.size w w' := by
  obtain ⟨i, hi, hz0, hz1, hz2⟩ := info_parts info_str
  go_enter Tryz.func26, Tryz.ntmps26
  go_wp2
  go_loopw [5, 6, 7] (fun v f k wr => ∃ (F K : Nat) (out : List Bs), f = .int .i64 F ∧ k = .int .i64 K ∧ CutInv c l out F K ∧ out.length ≤ K ∧ F ≤ l.length + 1 ∧ wr.ownsRow w.heap.size 9 1 v out.length (out.map sv) ∧ Below w.heap.size w wr) (fun _ _ k _ => l.length + 1 - (intOf k).toNat)
  case atStart =>
    refine ⟨0, 0, [], rfl, rfl, ⟨by omega, fun _ => ⟨Nat.le_refl _, by simp, by simp⟩, fun h => by omega⟩, Nat.le_refl _, by omega, World.ownsRow_made w _ 0 (Nat.le_refl _) (by unfold maxLen; omega) rfl, (by repeat (first | (with_reducible exact Below.refl _ _) | (with_reducible assumption) | (with_reducible refine Below.drew ?_) | (with_reducible refine Below.alloc ?_ (by first | omega | (simp <;> omega)) _) | (with_reducible refine Below.setCell ?_ (by first | omega | (simp <;> omega)) _) | (with_reducible refine belowN ?_ _)))⟩
  case round =>
    obtain ⟨F, K, out, rfl, rfl, hinv, hol, hF, hown, hb⟩ := hrel
    have hz := hb.size
    obtain ⟨hk1, hk2, hk3⟩ := hinv
    by_cases hle : K ≤ l.length
    · obtain ⟨hfk, hcut, hno⟩ := hk2 hle
      have HC := Go.Lib.hid hcut
      have HN := Go.Lib.hid hno
      clear hk2 hk3 hcut hno
      by_cases hlt : K < l.length
      · have hc1 := byteAt_nonneg l K
        have hc2 := byteAt_le l K
        have ha : (K : Int) < l.length := by omega
        by_cases hc : l[K] = c
        · have hbc : (byteAt l K == (c.toNat : Int)) = true := by rw [byteAt_nat l K hlt, hc]; simp
          have HS := Go.Lib.hid (cut_step c l F K hfk hlt HN.out hc)
          clear hc
          have hm1 : out.length + 1 ≤ maxLen := by unfold maxLen; omega
          have hm2 : (out.length + 1) * 16 ≤ 140737488355328 := by omega
          go_wp2_with (at_builtin; go_must (refine wpList_append_own _ rfl _ _ 23 rfl (w.heap.size) 9 i _ 1 16 Tryz.underlying23 hi hz0 hz1 hz2 rfl (by omega) _ _ _ rfl (hown.alloc _) ⟨wr.heap.size, 0, none⟩ 1 1 [sv ((l.drop F).take (K - F))] rfl rfl ?_ ?_ hm1 hm2 ?_ ?_))
          try (case refine_1 => first | exact cell_one_new _ _ _ | omega | (simp <;> omega; done) | (simp [Value.oneCell']; done))
          try (case refine_2 => first | exact cell_one_new _ _ _ | omega | (simp <;> omega; done) | (simp [Value.oneCell']; done))
          try (case refine_3 => first | exact cell_one_new _ _ _ | omega | (simp <;> omega; done) | (simp [Value.oneCell']; done))
          intro v2 w2 hown2 hg2 _
          go_wp2
          go_roundw
          case rel =>
            refine ⟨K + 1, K + 1, out ++ [(l.drop F).take (K - F)], by go_num, by go_num, ⟨by omega, fun _ => ⟨Nat.le_refl _, ?_, by simp⟩, fun h => by omega⟩, by simp; omega, by omega, ?_, ?_⟩
            · rw [HC.out, HS.out]; simp
            · simpa using hown2
            · exact hb.trans (((Below.refl w.heap.size wr).alloc hz _).grown hg2 (by first | omega | (simp <;> omega)) (by intro q hq; have := (hown.lt q hq); omega))
          case measure => simp [intOf]; omega
        · have hbc : (byteAt l K == (c.toNat : Int)) = false := by
            rw [byteAt_nat l K hlt, beq_eq_false_iff_ne]
            intro e
            exact hc (UInt8.toNat_inj.1 (by omega))
          have HS := Go.Lib.hid (take_step c l F K hfk hlt HN.out hc)
          clear hc
          go_wp2
          go_roundw
          case rel =>
            exact ⟨F, K + 1, out, rfl, by go_num, ⟨by omega, fun _ => ⟨by omega, HC.out, HS.out⟩, fun h => by omega⟩, by omega, hF, hown, hb⟩
          case measure => simp [intOf]; omega
      · have hKe : K = l.length := by omega
        subst hKe
        have hm1 : out.length + 1 ≤ maxLen := by unfold maxLen; omega
        have hm2 : (out.length + 1) * 16 ≤ 140737488355328 := by omega
        go_wp2_with (at_builtin; go_must (refine wpList_append_own _ rfl _ _ 23 rfl (w.heap.size) 9 i _ 1 16 Tryz.underlying23 hi hz0 hz1 hz2 rfl (by omega) _ _ _ rfl (hown.alloc _) ⟨wr.heap.size, 0, none⟩ 1 1 [sv ((l.drop F).take (l.length - F))] rfl rfl ?_ ?_ hm1 hm2 ?_ ?_))
        try (case refine_1 => first | exact cell_one_new _ _ _ | omega | (simp <;> omega; done) | (simp [Value.oneCell']; done))
        try (case refine_2 => first | exact cell_one_new _ _ _ | omega | (simp <;> omega; done) | (simp [Value.oneCell']; done))
        try (case refine_3 => first | exact cell_one_new _ _ _ | omega | (simp <;> omega; done) | (simp [Value.oneCell']; done))
        intro v2 w2 hown2 hg2 _
        go_wp2
        go_roundw
        case rel =>
          refine ⟨l.length + 1, l.length + 1, out ++ [(l.drop F).take (l.length - F)], by go_num, by go_num, ⟨by omega, fun h => by omega, fun _ => ?_⟩, by first | (simp; omega) | simp, by omega, ?_, ?_⟩
          · have e : (l.drop F).take (l.length - F) = l.drop F := List.take_of_length_le (by simp)
            have HN2 := HN.out
            rw [e] at HN2 ⊢
            rw [HC.out, cut_miss c _ HN2]
          · simpa using hown2
          · exact hb.trans (((Below.refl w.heap.size wr).alloc hz _).grown hg2 (by first | omega | (simp <;> omega)) (by intro q hq; have := (hown.lt q hq); omega))
        case measure => first | (simp [intOf]; done) | (simp [intOf]; omega)
    · have hKe : K = l.length + 1 := by omega
      subst hKe
      have HO := Go.Lib.hid (hk3 rfl)
      clear hk2 hk3
      go_wp2
      go_ret
      exact ⟨⟨_, rfl, by rw [← HO.out]; exact hown⟩, hb⟩
end Go.Proofs.YtoogaalbnnlloaaGreatDoor
