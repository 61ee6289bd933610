import Derived.Test.YtinncdollpajkaaGreatVGW
import Derived.Test.YtinncdollpajkaaGreatVW3
import Derived.Test.YtinncdollpajkaaGreatVW8
import Derived.Test.YtinncdollpajkaaGreatVGR
import Derived.Test.YtinncdollpajkaaGreatVGQ
set_option linter.unusedVariables false
set_option linter.unusedSimpArgs false
namespace Go.Proofs.YtinncdollpajkaaGreat
open Go.RowKit
set_option maxRecDepth 100000
attribute [local go_sem high] zA zu zy zO zK zX zx zk zn zq zi zo yQ zC yf zD
abbrev SlS (w : World) (A : Option Addr) (cap : Nat) (ls : List Bs) : Prop := Sl w A ls.length cap 1 (ls.map sv)
theorem SlS.at {w : World} {A : Option Addr} {cap : Nat} {ls : List Bs} (h : SlS w A cap ls) {k : Nat} (hk : k < ls.length) : ∃ g off, A = some ⟨g, off, none⟩ ∧ g < w.heap.size ∧ w.cell? ⟨g, off + k, none⟩ = some (sv ls[k]) := by
 obtain ⟨g, off, u, hA, hg, hu, hc⟩ := Sl.at1 h hk
 refine ⟨g, off, hA, hg, ?_⟩
 rw [List.getElem?_map, List.getElem?_eq_getElem hk] at hu
 simp at hu
 rw [hc, ← hu]
theorem SlS.uU {w : World} {B : Nat} {A : Option Addr} {cap : Nat} {ls : List Bs} (h : w.ownsRow B 9 1 (.slice A ls.length cap) ls.length (ls.map sv)) : SlS w A cap ls := by
 obtain ⟨A', cap', hv, hs⟩ := Sl.uU h
 injection hv with e1 e2 e3
 subst e1; subst e3
 exact hs
theorem ZV (p : Bs) : nM p = .returned (.tuple #[sv ((unhex p).getD []), .bool (unhex p).isSome]) := rfl
theorem dF (l : Bs) (w : World) :
  Calls Tryz.prog 193 #[.string ⟨l.toArray⟩] w fun e w' => e = .returned (.string ⟨(wH l).toArray⟩) ∧ w = w' := by
 by_cases h : l = [45]
 ·subst h
  go_enter Tryz.func193, Tryz.ntmps193
  go_wp2
  go_ret
  exact ⟨rfl, rfl⟩
 ·have HE : Hid (wH l = l) := by show _ = _; unfold wH; rw [if_neg h]
  have hd : decide (l = [45]) = false := by simpa using h
  clear h
  go_enter Tryz.func193, Tryz.ntmps193
  go_wp2
  go_ret
  exact ⟨uA HE.out.symm, rfl⟩
end Go.Proofs.YtinncdollpajkaaGreat
