import Derived.Test.YtfppmajoidkooaaGreatDoorUGA
import Derived.Test.YtfppmajoidkooaaGreatDoorUW14
set_option maxHeartbeats 8000000
namespace Go.Proofs.YtfppmajoidkooaaGreatDoor
open Go.RowKit
set_option linter.unusedVariables false
set_option linter.unusedSimpArgs false
set_option maxRecDepth 100000
abbrev opW (w:World)(b:Nat)(x:OpR):World:=(((((w.setCell ⟨b,0,none⟩ (.int .i64 x.k)).setCell ⟨b,1,none⟩ (.string ⟨x.nm.toArray⟩)).setCell ⟨b,2,none⟩ (.int .i64 x.f)).setCell ⟨b,3,none⟩ (.int .i64 x.t)).setCell ⟨b,4,none⟩ (.int .i64 x.s)).setCell ⟨b,5,none⟩ (.string ⟨x.d.toArray⟩)
theorem op_put {w:World}{b:Nat}{t:TypeId}{x0 x1 x2 x3 x4 x5:Value}(h:Bk w b t #[x0,x1,x2,x3,x4,x5])(x:OpR):Bk (opW w b x) b t x.cells:=
 (((((h.set 0 (.int .i64 x.k)).set 1 (.string ⟨x.nm.toArray⟩)).set 2 (.int .i64 x.f)).set 3 (.int .i64 x.t)).set 4 (.int .i64 x.s)).set 5 (.string ⟨x.d.toArray⟩)
theorem op_below {w w0:World}{b B:Nat}(h:Below B w0 w)(hb:B≤b)(x:OpR):Below B w0 (opW w b x):=
 (((((h.setCell (p:=⟨b,0,none⟩) hb _).setCell (p:=⟨b,1,none⟩) hb _).setCell (p:=⟨b,2,none⟩) hb _).setCell (p:=⟨b,3,none⟩) hb _).setCell (p:=⟨b,4,none⟩) hb _).setCell (p:=⟨b,5,none⟩) hb _
end Go.Proofs.YtfppmajoidkooaaGreatDoor
