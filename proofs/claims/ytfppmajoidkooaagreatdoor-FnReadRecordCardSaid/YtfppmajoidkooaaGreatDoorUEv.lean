import Derived.Test.YtfppmajoidkooaaGreatDoorUW16
import Derived.Test.YtfppmajoidkooaaGreatDoorUW4
import Derived.Test.YtfppmajoidkooaaGreatDoorUQ15
set_option linter.unusedVariables false
set_option linter.unusedSimpArgs false
namespace Go.Proofs.YtfppmajoidkooaaGreatDoor
open Go.RowKit
def Et (w:World):Prop:=∃B,B≤w.heap.size∧uD B w
theorem Et.on {w w':World}(h:Et w)(hb:Below w.heap.size w w'):Et w':=by
 obtain⟨B,hB,hT⟩:=h;exact⟨B,by have:=hb.size;omega,Lib.TabBelow.on hT (hb.mono hB)⟩
def Ev (w:World):Prop:=Et w∧wV w∧∃m,w.cell? ⟨0,0,none⟩=some (.int .i64 m)
theorem Ev.mk {w:World}{B:Nat}{m:Int}(hB:B≤w.heap.size)(hT:uD B w)(hE:wV w)(hm:w.cell? ⟨0,0,none⟩=some (.int .i64 m)):Ev w:=⟨⟨B,hB,hT⟩,hE,m,hm⟩
theorem Ev.on {w w':World}(h:Ev w)(hb:Below w.heap.size w w'):Ev w':=by
 obtain⟨⟨B,hB,hT⟩,hE,m,hm⟩:=h;exact⟨⟨B,by have:=hb.size;omega,Lib.TabBelow.on hT (hb.mono hB)⟩,hE.on hb,m,(hb.cell (p:=⟨0,0,none⟩) (lt_of_cell hm)).trans hm⟩
theorem YT (l:Bs)(a:Int)(w:World)(h:Ev w)(hs:l.length≤1500000)(ha0: -9223372036854775808≤a)(ha1:a≤9223372036854775807):
 Calls Tryz.prog 13 #[.string ⟨l.toArray⟩,.int .i64 a] w fun e w'=>e=qf (yh l a)∧Below w.heap.size w w':=by
 obtain⟨⟨B,hB,hT⟩,hE,m,hm⟩:=h;exact Z4 l a m w B hB hT hE hm hs ha0 ha1
def YZ (x:OpR):Option Bs:=if x.ok then some (vg x) else none
theorem PZ (x:OpR):nR x.k x.nm x.f x.t x.s x.d= .tuple #[sv ((YZ x).getD []),.bool (YZ x).isSome]:=by
 unfold nR YZ;by_cases h:x.ok
 ·have h':uM x.k x.nm x.f x.t x.s x.d:=h
  rw[if_pos h,if_pos h'];rfl
 ·have h':¬uM x.k x.nm x.f x.t x.s x.d:=h
  rw[if_neg h,if_neg h'];rfl
theorem WH (x:OpR)(w:World)(h:Et w)(hn:x.nm.length≤9223372036854775807)(hd:x.d.length≤9223372036854775807):
 Calls Tryz.prog 15 #[x.val] w fun e w'=>e= .returned (.tuple #[sv ((YZ x).getD []),.bool (YZ x).isSome])∧Below w.heap.size w w':=by
 obtain⟨B,hB,hT⟩:=h;rw[←PZ];exact YI x.k x.f x.t x.s x.nm x.d w B hB hT hn hd
end Go.Proofs.YtfppmajoidkooaaGreatDoor
