/- Plain: hexadecimal text. No program. -/
import Derived.Test.YtkoefklgfkhmpaaDoorPlain
namespace Go.Proofs.YtkoefklgfkhmpaaDoor
open Go.RowKit
abbrev hexL : Bs := [48, 49, 50, 51, 52, 53, 54, 55, 56, 57, 97, 98, 99, 100, 101, 102]
def hexOf (l : Bs) : Bs := l.flatMap fun c => [hexL.getD (c.toNat / 16) 0, hexL.getD (c.toNat % 16) 0]
theorem hexOf_length (l : Bs) : (hexOf l).length = 2 * l.length := by
  induction l with
  | nil => rfl
  | cons c l ih => simp only [hexOf, List.flatMap_cons, List.length_append, List.length_cons, List.length_nil] at ih ⊢; omega
theorem hexOf_snoc (l : Bs) (k : Nat) (h : k < l.length) : hexOf (l.take (k + 1)) = hexOf (l.take k) ++ [hexL.getD (l[k].toNat / 16) 0, hexL.getD (l[k].toNat % 16) 0] := by
  rw [take_snoc' l k h, hexOf, List.flatMap_append]; rfl
theorem hexHi (l : Bs) (k : Nat) (h : k < l.length) : byteAt hexL (byteAt l k / 16) = ((hexL.getD (l[k].toNat / 16) 0).toNat : Int) := by
  rw [byteAt_nat l k h]
  show ((hexL[((l[k].toNat : Int) / 16).toNat]?.getD 0).toNat : Int) = _
  rw [show ((l[k].toNat : Int) / 16).toNat = l[k].toNat / 16 by omega]; rfl
theorem hexLo (l : Bs) (k : Nat) (h : k < l.length) : byteAt hexL (byteAt l k % 16) = ((hexL.getD (l[k].toNat % 16) 0).toNat : Int) := by
  rw [byteAt_nat l k h]
  show ((hexL[((l[k].toNat : Int) % 16).toNat]?.getD 0).toNat : Int) = _
  rw [show ((l[k].toNat : Int) % 16).toNat = l[k].toNat % 16 by omega]; rfl
def orDash (l : Bs) : Bs := if l = [] then [45] else l
def fmtHex (l : Bs) : Bs := if l.length ≤ 4000 then hexOf l else []
end Go.Proofs.YtkoefklgfkhmpaaDoor
