import Derived.Test.YtoedhpcmgondjaaGreatDoorUW14
import Derived.Test.YtoedhpcmgondjaaGreatDoorUQ15
set_option linter.all false
namespace Go.Proofs.YtoedhpcmgondjaaGreatDoor
open Go.RowKit Go.Proofs.Tryz
def Et (w:World):Prop:=∃B,B≤w.heap.size∧sQ B w
theorem Et.on {w w':World}(h:Et w)(a:Below w.heap.size w w'):Et w':=by
 obtain⟨B,b,c⟩:=h;exact⟨B,by have:=a.size;omega,Lib.TabBelow.on c (a.mono b)⟩
def Ev (w:World):Prop:=Et w∧vN w∧∃m,w.cell? ⟨0,0,none⟩=some (.int .i64 m)
theorem Ev.mk {w:World}{B:Nat}{m:Int}(a:B≤w.heap.size)(b:sQ B w)(c:vN w)(d:w.cell? ⟨0,0,none⟩=some (.int .i64 m)):Ev w:=⟨⟨B,a,b⟩,c,m,d⟩
theorem Ev.on {w w':World}(h:Ev w)(a:Below w.heap.size w w'):Ev w':=by
 obtain⟨⟨B,c,d⟩,e,m,b⟩:=h;exact⟨⟨B,by have:=a.size;omega,Lib.TabBelow.on d (a.mono c)⟩,e.on a,m,(a.cell (p:=⟨0,0,none⟩) (lt_of_cell b)).trans b⟩
theorem YB (l:Bs)(a:Int)(w:World)(h:Ev w)(b:l.length≤1500000)(c: -9223372036854775808≤a)(d:a≤9223372036854775807):
 Calls prog 26 #[.string ⟨l.toArray⟩,.int .i64 a] w fun e w'=>e=rZ (yj l a)∧Below w.heap.size w w':=by
 obtain⟨⟨B,f,g⟩,i,m,j⟩:=h;exact ZZ l a m w B f g i j b c d
