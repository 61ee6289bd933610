/- Plain: found blocks are valid. -/
import Derived.Test.YtfonokhafdflcaaGreatGP2
namespace Go.Proofs.YtfonokhafdflcaaGreat
open Go.RowKit
/-- All blocks that are found are valid. -/
def AllOk (fs : List Fd) : Prop := ∀ n b, firstF fs n = some b → b.ok = true
theorem findGo_ok (l : Bs) : ∀ (n : Nat) (a : Int), (0 ≤ a → parseOk l a = true) → ∀ f ∈ findGo l n a, f.2.ok = true
  | 0, a, _, f, hf => by cases hf
  | n + 1, a, h, f, hf => by
    by_cases ha : 0 ≤ a
    · rw [findGo_pos l n ha] at hf
      rcases List.mem_cons.1 hf with rfl | hf
      · exact (parse_bd (h ha)).2.2.2
      · exact findGo_ok l n _ (fun h0 => ((nextB_bd l (endAt l a)).2.2 h0).2) f hf
    · rw [findGo_neg l _ (by omega)] at hf; cases hf
theorem find_ok (l : Bs) : AllOk (findB l) := by
  intro n b h
  unfold firstF at h
  cases hf : List.find? (fun f => decide (f.2.num = n)) (findB l) with
  | none => rw [hf] at h; cases h
  | some x =>
    rw [hf] at h
    injection h with h
    subst h
    exact findGo_ok l _ _ (fun h0 => ((nextB_bd l 0).2.2 h0).2) x (List.mem_of_find?_eq_some hf)
end Go.Proofs.YtfonokhafdflcaaGreat
