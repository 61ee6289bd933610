import Derived.Test.YtfppmajoidkooaaGreatDoorUGA
import Derived.Laws.CopyOwn
import Derived.Lib.AppendZerosOnto
import Derived.Lib.Overlaps
import Derived.Laws.Externs
set_option linter.unusedVariables false
set_option linter.unusedSimpArgs false
namespace Go.Proofs.YtfppmajoidkooaaGreatDoor
open Go.RowKit
theorem rF {P:Program}(w:World)(dT sT ty elem:TypeId)(g o dLen dCap:Nat)(a:Addr)(sLen sCap:Nat)(cur:Array Value)(t:TypeId)(cs:List Value)(size:Nat)
 (hu:P.underlying dT=some (.slice elem)) (hs:(P.info? elem).map (·.size)=some size)
 (hg:w.heap[g]? =some (.cells cur t (0,0))) (hn:cs.length=Nat.min sLen dLen*size)
 (hsrc:∀j v,cs[j]? =some v→w.cell? (a.add j)=some v) (hfit:o+cs.length≤cur.size) (h1:∀v ∈ cs,v.oneCell'=true):
 (Builtin.copy_ #[dT,sT] ty #[.slice (some ⟨g,o,none⟩) dLen dCap,.slice (some a) sLen sCap]).run P w=
   .ok (goInt (Nat.min sLen dLen)) (w.setRow g (cur.toList.take o++cs++cur.toList.drop (o+cs.length)).toArray):=by
 have hl:=run_loadCells_list (P:=P) w a cs hsrc;have hst:=run_storeCells_at P g o t cs 0 cur w hg (by simpa using hfit) h1
 cases hq:P.info? elem with
 |none=>simp [hq] at hs
 |some i=>
  have hi:i.size=size:=(by simpa [hq] using hs);simp [Builtin.copy_,run_underlying hu,Builtin.lenOf,Builtin.firstCells,sizeOf,typeInfo,hq,hi,←hn,hl,hst]
theorem YM {P:Program}(w:World)(t e ty:TypeId)(z:Value)(zs:Array Value)(ht:P.underlying t=some (.slice e))(hv:∀w,(zeroValue e).run P w= .ok z w)(hz:(Builtin.zeroCells z.cells 1)=zs)(h1:∀v ∈ zs.toList,v.oneCell'=true)
 (g o c:Nat) (cur:Array Value) (tt:TypeId) (hg:w.heap[g]? =some (.cells cur tt (0,0))) (hfit:o+zs.size≤cur.size):
 (Builtin.clear_ #[t] ty #[.slice (some ⟨g,o,none⟩) 1 c]).run P w= .ok (.tuple #[]) (w.setRow g (cur.toList.take o++zs.toList++cur.toList.drop (o+zs.size)).toArray):=by
 have hst:=run_storeCells_at P g o tt zs.toList 0 cur w hg (by simpa using hfit) h1;simp only[Nat.add_zero,Array.length_toList] at hst;simp [Builtin.clear_,run_underlying ht,hv,hz,hst]
theorem kK {w:World}{B g m cap size:Nat}{e:TypeId}{cur:Array Value}{ys:List Value}(hB:B≤g)(hg:w.heap[g]? =some (.cells cur e (0,0)))(hc:cap≤maxLen)(hs:cur.size=cap*size)(L:List Value)(hL:L.length=cur.size)(hm:m≤cap)(ht:L.take (m*size)=ys):
 (w.setRow g L.toArray).ownsRow B e size (.slice (some ⟨g,0,none⟩) m cap) m ys:=
 ⟨by rw[←ht,List.length_take,hL,hs];exact Nat.min_eq_left (Nat.mul_le_mul_right _ hm),.inr ⟨g,cap,L.toArray,rfl,hB,setRow_heap w g cur _ e _ hg,hm,hc,by simpa [hs] using hL,by simpa using ht⟩⟩
end Go.Proofs.YtfppmajoidkooaaGreatDoor
