import Derived.Test.YtfonokhafdflcaaGreatDoorKGA
import Derived.Test.YtfonokhafdflcaaGreatDoorKGQ
import Derived.Lib.ItoaNum
import Derived.Lib.ItoaLen
import Derived.Lib.ItoaMem
namespace Go.Proofs.YtfonokhafdflcaaGreatDoor
open Go.RowKit
set_option linter.unusedVariables false
set_option maxRecDepth 100000
attribute [local go_sem high] run_index_S binOp_eql_S binOp_neq_S append_S toList_S size_S run_slice_S run_slice_from_S run_slice_to_S wrap64_byteAt wrap64_byteAt_mul bits_or_bytes convU conv1_some convU2 conv2_some
set_option maxHeartbeats 1000000 in
theorem formatHex_any (d : Bs) (w : World) (hs : d.length ≤ 4000) :
  Calls Tryz.prog 48 #[.string ⟨d.toArray⟩] w fun e w' => e = .returned (.string ⟨(fmtHex d).toArray⟩) ∧ Below w.heap.size w w' := by
 obtain ⟨i, hi, hz0, hz1, hz2⟩ := info_parts info_u8
 go_enter Tryz.func48, Tryz.ntmps48
 go_wp2_with (at_make; go_must (refine wpList_make_own _ rfl _ _ 22 rfl w.heap.size 5 i (.int .u8 0) 1 Tryz.underlying22 hi hz0 hz1 _ _ _ (2 * d.length) rfl rfl (by omega) (by rw [hz2]; omega) (by unfold maxLen; omega) (Nat.le_refl _) ?_); intro w1 hown hg1)
 have g1 : Below w.heap.size w w1 := (Below.refl _ _).grown hg1 (Nat.le_refl _) (by simp)
 clear hg1
 go_loopw [3, 14] (fun v k wr => ∃ n : Nat, n ≤ d.length ∧ k = .int .i64 n ∧ wr.ownsRow w.heap.size 5 1 v (hexOf (d.take n)).length ((hexOf (d.take n)).map u8v) ∧ Below w.heap.size w wr) (fun _ k _ => d.length - (intOf k).toNat)
 case atStart => exact ⟨0, Nat.zero_le _, rfl, by simpa [hexOf] using hown, g1⟩
 case round =>
  obtain ⟨k, hk, rfl, hown, hb⟩ := hrel
  have hz := hb.size
  by_cases hlt : k < d.length
  ·have hc1 := byteAt_nonneg d k
   have hc2 := byteAt_le d k
   have ha : (k : Int) < d.length := by omega
   have hx0 : 0 ≤ byteAt d k / 16 := by omega
   have hx1 : byteAt d k / 16 < 16 := by omega
   have hy0 : 0 ≤ byteAt d k % 16 := by omega
   have hy1 : byteAt d k % 16 < 16 := by omega
   have hand := bits_and15 d k
   have hm1 : (hexOf (d.take k)).length + 2 ≤ maxLen := by rw [hexOf_length]; unfold maxLen; have := List.length_take_le k d; omega
   have hm2 : ((hexOf (d.take k)).length + 2) * 1 ≤ 140737488355328 := by rw [hexOf_length]; have := List.length_take_le k d; omega
   have HS := Go.Lib.hid (hexOf_snoc d k hlt)
   have H1 := Go.Lib.hid (hexHi d k hlt)
   have H2 := Go.Lib.hid (hexLo d k hlt)
   go_wp2
   go_region_held3 (fun _ => True) (trivial) (((refine step_append_lies _ (by rfl) _ _ _ (by rfl) w.heap.size 5 i _ 1 1 Tryz.underlying22 hi hz0 hz1 hz2 rfl (by omega) u3 _ _ (by rfl) ((hown.alloc _).drew) ⟨wr.heap.size, 0, none⟩ 2 2 [.int .u8 (byteAt hexL (byteAt d k / 16)), .int .u8 (byteAt hexL (byteAt d k % 16))] (by rfl) (by rfl) (World.news_of_block (cs := #[.int .u8 (byteAt hexL (byteAt d k / 16)), .int .u8 (byteAt hexL (byteAt d k % 16))]) (t := 5) (fr := (0, 0)) (heap_alloc_new wr _)) (by simp [Value.oneCell']) (by omega) hm1 hm2 (by simp; omega) (wr.heap.size + 1) (by simp) ?_); intro gg cap w2 hown2 hgrow hat hlt2))
   all_goals
    go_wp2
    refine ⟨⟨k + 1, by omega, by go_num, ?_, ?_⟩, by simp [intOf]; omega⟩
    ·rw [HS.out, List.length_append, List.map_append]
     simp only [List.map_cons, List.map_nil, u8v, ← H1.out, ← H2.out]
     exact hown2
    ·exact hb.trans ((((Below.refl w.heap.size wr).alloc hz _).drew).grown hgrow (by simp; omega) (by intro q hq; have := (hown.lt q hq); omega))
  ·have hcv := conv_own hown
   have e : d.take k = d := List.take_of_length_le (by omega)
   rw [e] at hcv
   go_wp2
   go_ret
   exact ⟨by rw [fmtHex, if_pos hs]; rfl, hb⟩
theorem orDash_any (l : Bs) (w : World) :
  Calls Tryz.prog 49 #[.string ⟨l.toArray⟩] w fun e w' => e = .returned (.string ⟨(orDash l).toArray⟩) ∧ w = w' := by
 go_enter Tryz.func49, Tryz.ntmps49
 by_cases h : l = []
 ·subst h
  go_wp2
  go_ret
  exact ⟨rfl, rfl⟩
 ·have HE : orDash l = l := by rw [orDash, if_neg h]
  have HH := Go.Lib.hid HE
  have hd : decide (l = []) = false := by simpa using h
  clear HE h
  go_wp2
  go_ret
  exact ⟨ret_S HH.out.symm, rfl⟩
end Go.Proofs.YtfonokhafdflcaaGreatDoor
