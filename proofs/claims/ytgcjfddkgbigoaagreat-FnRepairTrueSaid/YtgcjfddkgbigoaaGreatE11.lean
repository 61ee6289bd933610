/- Walks: draws of streams that are sometimes none, of orders and sizes of groups. -/
import Derived.Test.YtgcjfddkgbigoaaGreatGD2
namespace Go.Proofs.YtgcjfddkgbigoaaGreat
open Go.RowKit
set_option linter.unusedSimpArgs false
set_option linter.unusedVariables false
set_option maxRecDepth 100000
attribute [local go_sem high] run_index_S binOp_eql_S binOp_neq_S append_S toList_S size_S run_slice_S run_slice_from_S run_slice_to_S wrap64_byteAt wrap64_byteAt_mul bits_or_bytes convU conv1_some convU2 conv2_some
theorem sv_ext_from2 (p : Bs) (n : Nat) : (ByteArray.mk p.toArray).extract n p.length = ⟨(p.drop n).toArray⟩ := by
  rw [ByteArray.extract_mk]
  simp
  rw [List.take_of_length_le (by simp)]
theorem l7Size_any (r M : Nat) (w : World) (hR : Rd w r M) (hM : M ≤ 30000000) :
    Calls Tryz.prog 27 #[.pointer (some ⟨r, 0, none⟩)] w fun e w' => (∃ v : Int, e = .returned (.int .i64 v) ∧ -1 ≤ v ∧ v ≤ 41) ∧ Rd w' r (M + 2) ∧ BelowR w.heap.size r w w' := by
  have hr := hR.lt
  have R0 := hR
  have g0 := BelowR.refl w.heap.size r w
  go_enter Tryz.func27, Tryz.ntmps27
  go_wp2_with fail
  refine (pick_any r M 20 _ R0 (by omega) (by omega) (by omega)).mono ?_
  rintro e w1 ⟨⟨k, rfl, hk0, hk1⟩, R1, b1⟩
  have z1 := b1.size
  try simp only [World.size_alloc, World.size_setCell, World.size_drew] at z1
  have g1 := g0.trans (b1.mono (by first | omega | (simp; done) | (simp; omega)))
  clear b1 g0 
  by_cases h0 : k = 0
  · subst h0
    have s1 := Sl.list w1 [.int .i64 0, .int .i64 40, .int .i64 41, .int .i64 (-1)] 3 w1.heap.size 4 rfl rfl (by omega)
    go_wp2_with fail
    refine (num_any r _ [0, 40, 41, (-1)] (some ⟨w1.heap.size, 0, none⟩) 4 _ (R1.alloc _) (by omega) s1 (by simp) (by simp) (by rintro g off ⟨⟩; omega)).mono ?_
    rintro e w2 ⟨⟨y, hy, rfl⟩, R2, b2⟩
    have z2 := b2.size
    try simp only [World.size_alloc, World.size_setCell, World.size_drew] at z2
    have g2 := (g1.alloc (by first | omega | (simp <;> omega)) _).trans (b2.mono (by first | omega | (simp; done) | (simp; omega)))
    clear b2 g1 
    have hy2 : -1 ≤ y ∧ y ≤ 41 := by simp at hy; omega
    clear s1 hy
    go_wp2
    go_ret
    exact ⟨⟨y, rfl, hy2.1, hy2.2⟩, R2, g2⟩
  have hkb : (k == 0) = false := by rw [beq_eq_false_iff_ne]; exact h0
  go_wp2_with fail
  refine (pick_any r _ 5 _ R1 (by omega) (by omega) (by omega)).mono ?_
  rintro e w2 ⟨⟨v, rfl, hv0, hv1⟩, R2, b2⟩
  have z2 := b2.size
  try simp only [World.size_alloc, World.size_setCell, World.size_drew] at z2
  have g2 := g1.trans (b2.mono (by first | omega | (simp; done) | (simp; omega)))
  clear b2 g1 
  have hw1 : IntKind.i64.wrap (1 + v) = 1 + v := IntWalk.i64_in _ (by omega)
  go_wp2
  go_ret
  exact ⟨⟨1 + v, (by first | rfl | rw [hw1]), by omega, by omega⟩, R2, g2⟩
end Go.Proofs.YtgcjfddkgbigoaaGreat
