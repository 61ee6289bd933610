/- Walks: a text that is bent. -/
import Derived.Test.YtoogaalbnnlloaaGreatDoorGD1
namespace Go.Proofs.YtoogaalbnnlloaaGreatDoor
open Go.RowKit
set_option linter.unusedVariables false
set_option linter.unusedSimpArgs false
set_option maxRecDepth 100000
attribute [local go_sem high] run_index_S binOp_eql_S binOp_neq_S append_S toList_S size_S run_slice_S run_slice_from_S run_slice_to_S wrap64_byteAt wrap64_byteAt_mul bits_or_bytes convU conv1_some convU2 conv2_some
theorem ext_drop (t : Bs) (k : Nat) : (⟨t.toArray⟩ : ByteArray).extract k t.length = ⟨(t.drop k).toArray⟩ := by
  rw [ByteArray.extract_mk]
  simp
  rw [List.take_of_length_le (by simp)]
theorem small1 {x : Bs} (h : x ∈ ([[], [48], [49], [59], [44], [46], [45], [124], [32]] : List Bs)) : x.length ≤ 1 := by
  simp at h
  rcases h with h | h | h | h | h | h | h | h | h <;> rw [h] <;> simp
set_option maxHeartbeats 4000000 in
theorem l3Bent_any (r M : Nat) (t : Bs) (w : World) (hR : Rd w r M) (hM : M ≤ 50000000) (ht : t.length ≤ 1000000) :
    Calls Tryz.prog 25 #[.pointer (some ⟨r, 0, none⟩), .string ⟨t.toArray⟩] w fun e w' => (∃ u : Bs, e = .returned (sv u) ∧ u.length ≤ t.length + 1) ∧ Rd w' r (M + 4) ∧ BelowR w.heap.size r w w' := by
  have hr := hR.lt
  have R0 := hR
  have g0 := BelowR.refl w.heap.size r w
  go_enter Tryz.func25, Tryz.ntmps25
  go_wp2_with fail
  refine (pick_any r M 2 _ R0 (by omega) (by omega) (by omega)).mono ?_
  rintro e w1 ⟨⟨v, rfl, hv0, hv1⟩, R1, b1⟩
  have z1 := b1.size
  try simp only [World.size_alloc, World.size_setCell, World.size_drew] at z1
  have g1 := g0.trans (b1.mono (by first | omega | (simp; done) | (simp; omega)))
  clear b1 g0 
  by_cases hv : v = 0
  · subst hv
    go_wp2
    go_ret
    exact ⟨⟨t, rfl, by omega⟩, R1.mono (by omega), g1⟩
  have hvb : (v == 0) = false := by rw [beq_eq_false_iff_ne]; exact hv
  by_cases hte : t = []
  · subst hte
    go_wp2
    go_ret
    exact ⟨⟨[], rfl, by simp⟩, R1.mono (by omega), g1⟩
  have hteb : decide (t = []) = false := by simpa using hte
  have htl : 0 < t.length := List.length_pos_iff.2 hte
  clear hv hte hv1
  go_wp2_with fail
  refine (pick_any r _ _ _ R1 (by omega) (by omega) (by omega)).mono ?_
  rintro e w2 ⟨⟨k, rfl, hk0, hk1⟩, R2, b2⟩
  have z2 := b2.size
  try simp only [World.size_alloc, World.size_setCell, World.size_drew] at z2
  have g2 := g1.trans (b2.mono (by first | omega | (simp; done) | (simp; omega)))
  clear b2 g1 
  obtain ⟨n, rfl⟩ := Int.eq_ofNat_of_zero_le hk0
  have hn : n < t.length := by omega
  have hni : (n : Int) < t.length := by omega
  have hni2 : (n : Int) ≤ t.length := by omega
  clear hk0 hk1
  obtain ⟨P1, hP1, hP2, hP3⟩ : ∃ P : Bs, t.take n = P ∧ P.length ≤ 1000000 ∧ P.length = n := ⟨_, rfl, by simp; omega, by simp; omega⟩
  have s2 := Sl.list w2 [sv [], sv [48], sv [49], sv [59], sv [44], sv [46], sv [45], sv [124], sv [32]] 9 w2.heap.size 9 rfl rfl (by omega)
  go_wp2_with fail
  go_region_with (first
    | (go_at_call 14; refine (pick_any r _ 2 _ (by exact R3) (by omega) (by omega) (by omega)).mono ?_; rintro e w4 ⟨⟨q, rfl, hq0, hq1⟩, R4, b4⟩; have g4 := g3.trans (b4.mono (by omega)); obtain ⟨qn, rfl⟩ := Int.eq_ofNat_of_zero_le hq0; have hqn : qn ≤ 1 := (by omega); have hqi : (n : Int) + qn ≤ t.length := (by omega); have hqi0 : 0 ≤ (n : Int) + qn := (by omega); have hqi2 : n + qn ≤ t.length := (by omega); have hqw : IntKind.i64.wrap ((n : Int) + qn) = (n : Int) + qn := IntWalk.i64_in _ ⟨(by omega), (by omega)⟩; have hqx : (⟨t.toArray⟩ : ByteArray).extract (n + qn) t.length = ⟨(t.drop (n + qn)).toArray⟩ := ext_drop t (n + qn); obtain ⟨D1, hD1, hD2, hD3⟩ : ∃ D : Bs, t.drop (n + qn) = D ∧ D.length ≤ 1000000 ∧ D.length ≤ t.length - n := ⟨_, rfl, by rw [List.length_drop]; omega, by rw [List.length_drop]; omega⟩; have hs2 : ¬ 9223372036854775807 < n + x.length + D1.length := (by omega); have hs4 : ¬ 9223372036854775807 < n + x.length + (t.length - (n + qn)) := (by omega); have hs5 : n + x.length + (t.length - (n + qn)) ≤ 9223372036854775807 := (by omega); have hs6 : n + x.length + D1.length ≤ 9223372036854775807 := (by omega); have hs3 : ¬ 9223372036854775807 < n + (x.length + D1.length) := (by omega); clear b4 hq0 hq1)
    | (go_at_call 15; refine (of_any r _ [[], [48], [49], [59], [44], [46], [45], [124], [32]] (some ⟨w2.heap.size, 0, none⟩) 9 _ (Rd.drew (Rd.alloc R2 _)) (by omega) (by exact s2) (by simp) (by simp) (by rintro g off ⟨⟩; omega)).mono ?_; rintro e w3 ⟨⟨x, hx, rfl⟩, R3, b3⟩; have z3 := b3.size; simp only [World.size_alloc, World.size_drew] at z3; have g3 := (BelowR.drew (g2.alloc (by omega) _)).trans (b3.mono (by simp; omega)); have hxl : x.length ≤ 1 := small1 hx; have hs1 : ¬ 9223372036854775807 < n + x.length := (by omega); clear b3 hx))
  all_goals
    go_wp2
    go_ret
    refine ⟨⟨_, rfl, ?_⟩, R4.mono (by omega), g4⟩
    first
      | (simp only [List.length_append]; omega)
      | (simp; omega)
end Go.Proofs.YtoogaalbnnlloaaGreatDoor
