import Derived.Test.YtoedhpcmgondjaaGreatDoorYGA
import Derived.Laws.CopyOwn
import Derived.Lib.AppendZerosOnto
import Derived.Lib.Overlaps
import Derived.Laws.Externs
set_option linter.all false
namespace Go.Proofs.YtoedhpcmgondjaaGreatDoor
open Go.RowKit
theorem qi {P:Program}(w:World)(e h k b:TypeId)(g o c l:Nat)(a:Addr)(d m:Nat)(cur:Array Value)(t:TypeId)(cs:List Value)(size:Nat)
 (n:P.underlying e=some (.slice b)) (f:(P.info? b).map (·.size)=some size)
 (p:w.heap[g]? =some (.cells cur t (0,0))) (q:cs.length=Nat.min d c*size)
 (r:∀j v,cs[j]? =some v→w.cell? (a.add j)=some v) (s:o+cs.length≤cur.size) (h1:∀v ∈ cs,v.oneCell'=true):
 (Builtin.copy_ #[e,h] k #[.slice (some ⟨g,o,none⟩) c l,.slice (some a) d m]).run P w=
   .ok (goInt (Nat.min d c)) (w.setRow g (cur.toList.take o++cs++cur.toList.drop (o+cs.length)).toArray):=by
 have u:=run_loadCells_list (P:=P) w a cs r;have x:=run_storeCells_at P g o t cs 0 cur w p (by simpa using s) h1
 cases hq:P.info? b with
 |none=>simp [hq] at f
 |some i=>
  have y:i.size=size:=(by simpa [hq] using f);simp [Builtin.copy_,run_underlying n,Builtin.lenOf,Builtin.firstCells,sizeOf,typeInfo,hq,y,←q,u,x]
theorem XB {P:Program}(w:World)(t e f:TypeId)(z:Value)(a:Array Value)(h:P.underlying t=some (.slice e))(i:∀w,(zeroValue e).run P w= .ok z w)(j:(Builtin.zeroCells z.cells 1)=a)(h1:∀v ∈ a.toList,v.oneCell'=true)
 (g o c:Nat) (cur:Array Value) (b:TypeId) (k:w.heap[g]? =some (.cells cur b (0,0))) (l:o+a.size≤cur.size):
 (Builtin.clear_ #[t] f #[.slice (some ⟨g,o,none⟩) 1 c]).run P w= .ok (.tuple #[]) (w.setRow g (cur.toList.take o++a.toList++cur.toList.drop (o+a.size)).toArray):=by
 have d:=run_storeCells_at P g o b a.toList 0 cur w k (by simpa using l) h1;simp only[Nat.add_zero,Array.length_toList] at d;simp [Builtin.clear_,run_underlying h,i,j,d]
theorem jk {w:World}{B g m cap size:Nat}{e:TypeId}{cur:Array Value}{a:List Value}(h:B≤g)(i:w.heap[g]? =some (.cells cur e (0,0)))(j:cap≤maxLen)(b:cur.size=cap*size)(L:List Value)(c:L.length=cur.size)(d:m≤cap)(f:L.take (m*size)=a):
 (w.setRow g L.toArray).ownsRow B e size (.slice (some ⟨g,0,none⟩) m cap) m a:=
 ⟨by rw[←f,List.length_take,c,b];exact Nat.min_eq_left (Nat.mul_le_mul_right _ d),.inr ⟨g,cap,L.toArray,rfl,h,setRow_heap w g cur _ e _ i,d,j,by simpa [b] using c,by simpa using f⟩⟩
