import Derived.Test.YtfonokhafdflcaaGreatDoorKM6
import Derived.Test.YtfonokhafdflcaaGreatDoorKJ26
import Derived.Test.YtfonokhafdflcaaGreatDoorKQ12
import Derived.Test.YtfonokhafdflcaaGreatDoorKIx
import Derived.Test.YtfonokhafdflcaaGreatDoorKGU1
import Derived.Test.YtfonokhafdflcaaGreatDoorKGJ4
import Derived.Test.YtfonokhafdflcaaGreatDoorKGP1
import Derived.Test.YtfonokhafdflcaaGreatDoorKGU3
import Derived.Test.YtfonokhafdflcaaGreatDoorKGD2
namespace Go.Proofs.YtfonokhafdflcaaGreatDoor
open Go.RowKit
set_option linter.unusedSimpArgs false
set_option linter.unusedVariables false
set_option maxRecDepth 100000
attribute [local go_sem high] run_index_S binOp_eql_S binOp_neq_S append_S toList_S size_S run_slice_S run_slice_from_S run_slice_to_S wrap64_byteAt wrap64_byteAt_mul bits_or_bytes convU conv1_some convU2 conv2_some
theorem Made.ends {K : Kn} {X d : Bs} {n : Nat} {bs : List Blk} {cs : List Bs} (h : Made K X d n bs cs) (hn : n ≤ 64) {r : Nat} (hr : r < bs.length) :
    ∃ a b f t : Nat, (plcAt bs r).1 = (a : Int) ∧ (plcAt bs r).2 = (f : Int) ∧ (plcAt bs (r + 1)).2 = (t : Int) ∧ (plcAt bs (r + 1)).1 = (b : Int) ∧ (r + 1 = bs.length → b = X.length ∧ t = d.length) ∧ a ≤ b ∧ b ≤ X.length ∧ f < t ∧ t ≤ d.length ∧ t - f ≤ 64 ∧
      drO X a ((b : Int) - a) = some (catT (dropB bs r)) ∧ joinB (pcTo K (findB (catT (dropB bs r))) 40) cs.length ((t : Int) - (f : Int)) 63 = some (d.take f ++ List.replicate (t - f) 63 ++ d.drop t) := by
  have hl := h.len
  have e1 := h.size_take r (by omega)
  have e2 := h.size_take (r + 1) (by omega)
  obtain ⟨j1, j2, j3, j4⟩ := h.dropJoin (a := (cs.take r).flatten.length) (b := (cs.take (r + 1)).flatten.length) hn hr (by unfold plcAt; simp only; omega) (by unfold plcAt; simp only; omega)
  have hm := catT_mono bs r (r + 1) (by omega)
  have hm2 := catT_mono bs (r + 1) bs.length (by omega)
  rw [List.take_length, h.cat] at hm2
  have hs := h.short
  refine ⟨(catT (bs.take r)).length, (catT (bs.take (r + 1))).length, (cs.take r).flatten.length, (cs.take (r + 1)).flatten.length, rfl, e1, e2, rfl, fun he => ?_, hm, hm2, j1, j2, j3, ?_, j4⟩
  · rw [he, List.take_length, h.cat]
    refine ⟨rfl, ?_⟩
    rw [hl, List.take_length, h.flat]
  · unfold drO
    rw [if_pos ((spanOk_iff _ _ _).2 ⟨by omega, by omega, by omega, by omega, by omega⟩), Int.toNat_natCast, show ((((catT (bs.take (r + 1))).length : Nat) : Int) - ((catT (bs.take r)).length : Nat)).toNat = (catT (bs.take (r + 1))).length - (catT (bs.take r)).length by omega,
      show (catT (bs.take r)).length + ((catT (bs.take (r + 1))).length - (catT (bs.take r)).length) = (catT (bs.take (r + 1))).length by omega, dropB_text hr h.cat]
end Go.Proofs.YtfonokhafdflcaaGreatDoor
