/- Walks: parities and their text. -/
import Derived.Test.YtkoefklgfkhmpaaDoorW1
import Derived.Test.YtkoefklgfkhmpaaDoorW3
import Derived.Test.YtkoefklgfkhmpaaDoorW8
import Derived.Test.YtkoefklgfkhmpaaDoorNum
import Derived.Test.YtkoefklgfkhmpaaDoorW7
namespace Go.Proofs.YtkoefklgfkhmpaaDoor
open Go.RowKit
set_option linter.unusedVariables false
set_option maxRecDepth 100000
attribute [local go_sem high] run_index_S binOp_eql_S binOp_neq_S append_S toList_S size_S run_slice_S run_slice_from_S run_slice_to_S wrap64_byteAt wrap64_byteAt_mul bits_or_bytes convU conv1_some convU2 conv2_some
/-- A list of strings. -/
abbrev SlS (w : World) (A : Option Addr) (cap : Nat) (ls : List Bs) : Prop := Sl w A ls.length cap 1 (ls.map sv)
theorem SlS.at {w : World} {A : Option Addr} {cap : Nat} {ls : List Bs} (h : SlS w A cap ls) {k : Nat} (hk : k < ls.length) : ∃ g off, A = some ⟨g, off, none⟩ ∧ g < w.heap.size ∧ w.cell? ⟨g, off + k, none⟩ = some (sv ls[k]) := by
  obtain ⟨g, off, u, hA, hg, hu, hc⟩ := Sl.at1 h hk
  refine ⟨g, off, hA, hg, ?_⟩
  rw [List.getElem?_map, List.getElem?_eq_getElem hk] at hu
  simp at hu
  rw [hc, ← hu]
theorem SlS.of_own {w : World} {B : Nat} {A : Option Addr} {cap : Nat} {ls : List Bs} (h : w.ownsRow B 9 1 (.slice A ls.length cap) ls.length (ls.map sv)) : SlS w A cap ls := by
  obtain ⟨A', cap', hv, hs⟩ := Sl.of_own h
  injection hv with e1 e2 e3
  subst e1; subst e3
  exact hs
theorem hexRes_eq (p : Bs) : hexRes p = .returned (.tuple #[sv ((unhex p).getD []), .bool (unhex p).isSome]) := rfl
theorem l3None_any (l : Bs) (w : World) :
    Calls Tryd.prog 41 #[.string ⟨l.toArray⟩] w fun e w' => e = .returned (.string ⟨(unDash l).toArray⟩) ∧ w = w' := by
  by_cases h : l = [45]
  · subst h
    go_enter Tryd.func41, Tryd.ntmps41
    go_wp2
    go_ret
    exact ⟨rfl, rfl⟩
  · have HE : Go.RowKit.Hid (unDash l = l) := by show _ = _; unfold unDash; rw [if_neg h]
    have hd : decide (l = [45]) = false := by simpa using h
    clear h
    go_enter Tryd.func41, Tryd.ntmps41
    go_wp2
    go_ret
    exact ⟨ret_S HE.out.symm, rfl⟩
end Go.Proofs.YtkoefklgfkhmpaaDoor
