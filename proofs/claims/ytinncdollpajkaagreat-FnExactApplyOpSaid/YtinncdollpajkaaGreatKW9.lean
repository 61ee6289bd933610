import Derived.Test.YtinncdollpajkaaGreatKGW
import Derived.Test.YtinncdollpajkaaGreatKW3
import Derived.Test.YtinncdollpajkaaGreatKGA
import Derived.Test.YtinncdollpajkaaGreatKGQ
import Derived.Test.YtinncdollpajkaaGreatKShelf
import Derived.Test.YtinncdollpajkaaGreatKGR
set_option linter.unusedVariables false
set_option linter.unusedSimpArgs false
namespace Go.Proofs.YtinncdollpajkaaGreat
open Go.RowKit
set_option maxRecDepth 100000
attribute [local go_sem high] zy zx zu zS zK yc zA zk zl zq zi zo yO zF yl zD
abbrev SlS (w : World) (A : Option Addr) (cap : Nat) (ls : List Bs) : Prop := Sl w A ls.length cap 1 (ls.map sv)
theorem SlS.at {w : World} {A : Option Addr} {cap : Nat} {ls : List Bs} (h : SlS w A cap ls) {k : Nat} (hk : k < ls.length) : ∃ g off, A = some ⟨g, off, none⟩ ∧ g < w.heap.size ∧ w.cell? ⟨g, off + k, none⟩ = some (sv ls[k]) := by
 obtain ⟨g, off, u, hA, hg, hu, hc⟩ := Sl.at1 h hk
 refine ⟨g, off, hA, hg, ?_⟩
 rw [List.getElem?_map, List.getElem?_eq_getElem hk] at hu
 simp at hu
 rw [hc, ← hu]
theorem SlS.uN {w : World} {B : Nat} {A : Option Addr} {cap : Nat} {ls : List Bs} (h : w.ownsRow B 9 1 (.slice A ls.length cap) ls.length (ls.map sv)) : SlS w A cap ls := by
 obtain ⟨A', cap', hv, hs⟩ := Sl.uN h
 injection hv with e1 e2 e3
 subst e1; subst e3
 exact hs
def bK (k : Nat) : Bs := if k = 0 then [] else Lib.decDigits k
theorem V5 (u : Nat) (h : 0 < u) : bK u = bK (u / 10) ++ [UInt8.ofNat (48 + u % 10)] := by
 unfold bK
 rw [if_neg (by omega)]
 by_cases h10 : u < 10
 ·rw [if_pos (by omega), decDigits_one u h10, show u % 10 = u by omega]; rfl
 ·rw [if_neg (by omega), fD u (by omega)]
theorem TC (u : Nat) (h : u ≤ 9000000000000) : (bK u).length ≤ 21 := by
 unfold bK
 split
 ·simp
 ·have h1 := Lib.itoa_length_le (u : Int) (by omega) (by omega)
  rw [Lib.itoa_nonneg] at h1
  omega
def markT (k : Nat) : Bs := if k = 0 then [109, 48] else 109 :: bK k
theorem su (n : Nat) (w : World) (hn : n ≤ 9000000000000) :
  Calls Tryz.prog 97 #[.int .i64 n] w fun e w' => e = .returned (.string ⟨(markT n).toArray⟩) ∧ Below w.heap.size w w' := by
 by_cases h0 : n = 0
 ·subst h0
  go_enter Tryz.func97, Tryz.ntmps97
  go_wp2
  go_ret
  exact ⟨rfl, zG⟩
 ·have HE : Hid (markT n = 109 :: bK n) := by show _ = _; unfold markT; rw [if_neg h0]
  have hp : ¬ (n : Int) ≤ 0 := by omega
  have HLen := Go.Lib.hid (TC n hn)
  go_enter Tryz.func97, Tryz.ntmps97
  go_wp2
  go_loopw [0, 3] (fun a b wr => ∃ (u : Nat) (o : Bs), u ≤ n ∧ a = .int .i64 u ∧ b = .string ⟨o.toArray⟩ ∧ Hid (bK n = bK u ++ o) ∧ Below w.heap.size w wr) (fun a _ _ => (intOf a).toNat)
  case atStart => exact ⟨n, [], Nat.le_refl _, rfl, rfl, by show _ = _; simp, Below.refl _ _⟩
  case round =>
   obtain ⟨u, o, hu, rfl, rfl, HD, hb⟩ := hrel
   have ho : o.length ≤ 21 := by
    have h1 := HLen.out
    rw [HD.out, List.length_append] at h1
    omega
   have ho1 : 1 + o.length ≤ 9223372036854775807 := by omega
   have hz := hb.size
   by_cases h10 : 0 < u
   ·have HS := Go.Lib.hid (V5 u h10)
    go_wp2
    go_roundw
    case rel =>
     refine ⟨u / 10, _, by omega, by go_num, rfl, ?_, zG⟩
     show _ = _
     rw [HD.out, HS.out, List.append_assoc]
     simp
    case measure => simp [intOf]; omega
   ·have HS : Hid (bK n = o) := by
     show _ = _
     rw [HD.out, show u = 0 by omega]; rfl
    go_wp2
    go_ret
    refine ⟨?_, zG⟩
    rw [HE.out, HS.out]
    simp
end Go.Proofs.YtinncdollpajkaaGreat
