import Derived.ProofKit
import Derived.OpenShut
import Derived.JoinedCond
import Derived.Below
import Derived.ChangeSame
import Derived.Carry
import Derived.WideKeyArgs
import Derived.ShutString
import Derived.ChangeArms
import Derived.Test.YtoedhpcmgondjaaGreatDoorYGA
import Derived.ChangeSlices
set_option linter.all false
namespace Go.Proofs.YtoedhpcmgondjaaGreatDoor
open Go.RowKit Go.WideShapes Go.ChangeShapes Go.ChangeAt Go.Proofs.Tryz
theorem Ko :laidOutB prog=true:=by kernel_rfl
theorem Z8 :ownKnob prog.godebug=none:=by kernel_rfl
section
variable {H : Type} {enc : TypeId × Value → H}
theorem iE {W f:World}{g:Nat→Bool}(i:Below W.heap.size W f):∀(b:List TypeId) (c:List Value) (e:List (DataW H)) (p:List MemPlace),
 (∀t ∈ b,prog.readableRec t=true∧t<prog.types.size)→DataW.TrodAll enc prog W 0 (fun _=>true) true b c e p→(∀x ∈ p,x.block<W.heap.size)→(∀x ∈ p,g x.block=true)→
 DataW.TrodAll enc prog f 0 g true b c e p
 |[],_,_,_,_,h,_,_=>by
  obtain⟨rfl,rfl,rfl⟩:=trodAll_nil h;exact trodAll_mk0
 |t::b,_,_,_,j,h,k,l=>by
  obtain⟨v,c,d,e,p,q,rfl,rfl,rfl,h1,h2⟩:=trodAll_cons h;obtain⟨m,n⟩:=j t List.mem_cons_self;refine trodAll_cons_mk (WideElems.Trod_stays Ko m n h1 (fun x a=>i.same (k x (List.mem_append_left _ a))) (fun x a=>l x (List.mem_append_left _ a))) ?_;exact iE i b c e q (fun t o=>j t (List.mem_cons_of_mem _ o)) h2 (fun x a=>k x (List.mem_append_right _ a)) (fun x a=>l x (List.mem_append_right _ a))
theorem YP {f:Func}{s:ChangeSpec}{W d:World}{args:Array Value}{a e:List (DataW H)}{g:List MemPlace}(l:s.vars=[])
 (v:f.resultTypes=#[4]) (w:(f.params.toList.all fun t=>prog.readableRec t&&decide (t<prog.types.size))=true)
 (y:(s.fn H (a++e)).results=[.lit (.bool true)]∧(s.fn H (a++e)).args=a∧(s.fn H (a++e)).vars=[])
 (i:DataW.Whole enc prog f.params.toList s.vars false W args.toList a e g) (m:Below W.heap.size W d):
 s.post enc prog f false true false false W args (.bool true) d:=by
 have z:∀t ∈ f.params.toList,prog.readableRec t=true∧t<prog.types.size:=fun t A=>by
  have h:=List.all_eq_true.1 w t A;rw[Bool.and_eq_true,decide_eq_true_eq] at h;exact h
 obtain⟨B,C,D⟩:=y;have j:∀p ∈ g,p.block<W.heap.size:=fun p k=>i.lt p k;have n:∀p ∈ g,(fun b=>decide (b<W.heap.size)) p.block=true:=fun p k=>(by simpa using j p k);have E:=i;obtain⟨p,q,F,o,rfl,G,M⟩:=i;rw[l] at o;obtain⟨rfl,rfl⟩:=trodVars_none o;simp only[List.append_nil] at j n G;have I:∀(b:Nat) (c:Nat→Bool) (r:Bool),DataW.TrodAll enc prog d b c r f.resultTypes.toList ((Value.bool true).resultList f.resultTypes.size) (s.fn H (a++[])).results []:=by
  intro b c r;rw[B,v];exact trodAll_cons_mk (shut_bool underlying4 _) trodAll_mk0
 have J:∀c:Nat→Bool,(∀x ∈ p,c x.block=true)→DataW.TrodAll enc prog d 0 c true f.params.toList args.toList (s.fn H (a++[])).args p:=by
  intro c K;rw[C];exact iE m _ _ _ _ z F j K
 have L:∀c:Nat→Bool,DataW.TrodVars enc prog d c s.vars (s.fn H (a++[])).vars []:=by
  intro c;rw[l,D];rfl
 refine⟨a,[],p++[],[],p,[],E,I _ _ _,J _ n,L _,World.keptBut_mono (fun x u=>⟨by simpa using u,Or.inr (by simpa using u)⟩) (m.frame (·∈ p)),fun h=>by cases h⟩
end
section
variable {H : Type} {enc : TypeId × Value → H} {W : World}
end
set_option maxRecDepth 100000
theorem Ye {H:Type}{enc:TypeId×Value→H}{W:World}{b:Nat}{v:Value}{d:DataW H}{p:List MemPlace}(r:Value.okWide prog W .any b 22 v)(h:DataW.Trod enc prog W 0 (fun _=>true) true 22 v d p):
 ∃(A:Option Addr) (cap:Nat) (l:Bs),v= .slice A l.length cap∧Sl W A l.length cap 1 (l.map u8v):=by
 obtain⟨a,f,cap,rfl⟩:=okWide_slice underlying22 r;obtain⟨E,s⟩:=h;have t:prog.cellsOf 5=1:=kr;rcases open_ints underlying22 underlying5 t s with⟨e,_⟩|⟨w,F,G,i,e,_,x,y,z,_,B,C⟩
 ·simp [Value.cells] at e
  obtain⟨rfl,rfl,rfl⟩:=e;exact⟨none,0,[],rfl,Sl.nil _ _⟩
 ·simp [Value.cells] at e
  obtain⟨rfl,rfl,rfl⟩:=e;simp only[if_true] at z;have m:((i.take f).map fun n=>UInt8.ofNat n.toNat).length=f:=(by simp;omega);refine⟨some w,cap,(i.take f).map fun n=>UInt8.ofNat n.toNat,by rw[m],?_⟩;rw[m];refine⟨x,by unfold maxLen at y;omega,by simp;omega,fun h0=> ?_⟩;obtain⟨g,D,rfl,o⟩:=ints_at B oo;have h1:=o 0 oo;refine⟨g,D,rfl,lt_of_cell h1,fun j u c=> ?_⟩;simp only[List.getElem?_map] at c;by_cases q:j<f
  ·have k:j<i.length:=oo
   rw[List.getElem?_take,if_pos q,List.getElem?_eq_getElem k] at c;simp at c;rw[o j k,←c];have I:=bounds_u8 (C i[j] (List.getElem_mem k));rw[List.getD_eq_getElem?_getD,List.getElem?_eq_getElem k];simp only[Option.getD_some,u8v,UInt8.toNat_ofNat'];congr 2;omega
  ·rw[List.getElem?_take,if_neg q] at c
   simp at c
