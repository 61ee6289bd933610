/- Walks: draws of streams that are sometimes none, of orders and sizes of groups. -/
import Derived.Test.YtoogaalbnnlloaaGreatGD2
namespace Go.Proofs.YtoogaalbnnlloaaGreat
open Go.RowKit
set_option linter.unusedSimpArgs false
set_option linter.unusedVariables false
set_option maxRecDepth 100000
attribute [local go_sem high] run_index_S binOp_eql_S binOp_neq_S append_S toList_S size_S run_slice_S run_slice_from_S run_slice_to_S wrap64_byteAt wrap64_byteAt_mul bits_or_bytes convU conv1_some convU2 conv2_some
theorem sv_ext_from2 (p : Bs) (n : Nat) : (ByteArray.mk p.toArray).extract n p.length = ⟨(p.drop n).toArray⟩ := by
  rw [ByteArray.extract_mk]
  simp
  rw [List.take_of_length_le (by simp)]
set_option maxHeartbeats 4000000 in
theorem l5Bad_any (r M : Nat) (l : Bs) (w : World) (hR : Rd w r M) (hM : M ≤ 30000000) (hl : l.length ≤ 100000) :
    Calls Tryz.prog 85 #[.pointer (some ⟨r, 0, none⟩), sv l] w fun e w' => (∃ x : Bs, e = .returned (sv x) ∧ x.length ≤ 2 * l.length + 10) ∧ Rd w' r (M + 10) ∧ BelowR w.heap.size r w w' := by
  have hr := hR.lt
  have R0 := hR
  have g0 := BelowR.refl w.heap.size r w
  go_enter Tryz.func85, Tryz.ntmps85
  go_wp2_with fail
  refine (pick_any r M (l.length + 1) _ R0 (by omega) (by omega) (by omega)).mono ?_
  rintro e w1 ⟨⟨v, rfl, hv0, hv1⟩, R1, b1⟩
  have z1 := b1.size
  try simp only [World.size_alloc, World.size_setCell, World.size_drew] at z1
  have g1 := g0.trans (b1.mono (by first | omega | (simp; done) | (simp; omega)))
  clear b1 g0 
  obtain ⟨n, rfl⟩ := Int.eq_ofNat_of_zero_le hv0
  have hn : n ≤ l.length := by omega
  have hni : (n : Int) ≤ l.length := by omega
  clear hv0 hv1
  go_wp2_with fail
  refine (pick_any r _ 24 _ R1 (by omega) (by omega) (by omega)).mono ?_
  rintro e w2 ⟨⟨k, rfl, hk0, hk1⟩, R2, b2⟩
  have z2 := b2.size
  try simp only [World.size_alloc, World.size_setCell, World.size_drew] at z2
  have g2 := g1.trans (b2.mono (by first | omega | (simp; done) | (simp; omega)))
  clear b2 g1 
  by_cases h0 : k = 0
  · subst h0
    go_wp2
    go_ret
    exact ⟨⟨l.take n, (by simp [sv]), by simp; omega⟩, R2.mono (by omega), g2⟩
  have hkb : (k == 0) = false := by rw [beq_eq_false_iff_ne]; exact h0
  by_cases h1 : k = 1
  · subst h1
    have hext := sv_ext_from2 l n
    have ht1 : (l.take n).length ≤ 100000 := by simp; omega
    have ht2 : (l.drop n).length ≤ 100000 := by simp; omega
    go_wp2_with fail
    go_region_with (go_at_call 132; refine (l1Bytes_any r _ 2 _ (Rd.drew R2) (by omega) (by omega)).mono ?_; rintro e w3 ⟨⟨d, rfl, hd⟩, R3, b3⟩; have z3 := b3.size; simp only [World.size_drew] at z3; have g3 := (BelowR.drew g2).trans (b3.mono (by simp; omega)); have hq : ¬ 9223372036854775807 < (l.take n).length + d.length := (by omega); have hq2 : ¬ 9223372036854775807 < (l.take n).length + d.length + (l.drop n).length := (by omega))
    all_goals
      go_wp2
      go_ret
      exact ⟨⟨l.take n ++ (d ++ l.drop n), rfl, by simp; omega⟩, R3.mono (by omega), g3⟩
  have hkb1 : (k == 1) = false := by rw [beq_eq_false_iff_ne]; exact h1
  by_cases h2 : k = 2
  · subst h2
    by_cases hlt : n < l.length
    · have hlti : (n : Int) < l.length := by omega
      have ht1 : (l.take n).length ≤ 100000 := by simp; omega
      have ht2 : (l.drop (n + 1)).length ≤ 100000 := by simp; omega
      have hw2 : ((n : Int) + 1).toNat = n + 1 := by omega
      have hext := sv_ext_from2 l (n + 1)
      have hs1 : ¬ 9223372036854775807 < n + 1 := by omega
      have hs2 : ¬ 9223372036854775807 < n + 1 + (l.length - (n + 1)) := by omega
      have hw1 : IntKind.i64.wrap ((n : Int) + 1) = (n : Int) + 1 := IntWalk.i64_in _ (by omega)
      go_wp2_with fail
      go_region_with (go_at_call 82; refine (pick_any r _ 8 _ (Rd.drew R2) (by omega) (by omega) (by omega)).mono ?_; rintro e w3 ⟨⟨v, rfl, hv0, hv1⟩, R3, b3⟩; have z3 := b3.size; simp only [World.size_drew] at z3; have g3 := (BelowR.drew g2).trans (b3.mono (by simp; omega)))
      all_goals
        go_wp2
        go_ret
        refine ⟨⟨_, rfl, ?_⟩, (R3.alloc _).mono (by omega), g3.alloc (by omega) _⟩
        simp; omega
    · have hlti : ¬ (n : Int) < l.length := by omega
      go_wp2
      go_ret
      exact ⟨⟨l, rfl, by omega⟩, R2.mono (by omega), g2⟩
  have hkb2 : (k == 2) = false := by rw [beq_eq_false_iff_ne]; exact h2
  by_cases h3 : k = 3
  · subst h3
    have hq : ¬ 9223372036854775807 < l.length + l.length := by omega
    go_wp2
    go_ret
    exact ⟨⟨l ++ l, (by simp [sv]), by simp; omega⟩, R2.mono (by omega), g2⟩
  have hkb3 : (k == 3) = false := by rw [beq_eq_false_iff_ne]; exact h3
  go_wp2
  go_ret
  exact ⟨⟨l, rfl, by omega⟩, R2.mono (by omega), g2⟩
end Go.Proofs.YtoogaalbnnlloaaGreat
