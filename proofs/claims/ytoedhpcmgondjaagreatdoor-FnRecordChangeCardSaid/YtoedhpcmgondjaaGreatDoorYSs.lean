import Derived.Test.YtoedhpcmgondjaaGreatDoorYJ26
import Derived.Laws.StructEq
set_option linter.all false
set_option maxHeartbeats 8000000
namespace Go.Proofs.YtoedhpcmgondjaaGreatDoor
open Go.RowKit Go.Proofs.Tryz
set_option maxRecDepth 100000
attribute [local instance] mU hZ cvZ
attribute [local go_sem high] zG zF zH zV zN yu zD zl zn zt zi zu y9 zK yE zJ
theorem Qh :prog.stoodInHeld 24=false:=by kernel_rfl
theorem QL :prog.eqGuardType prog.depth 24=false:=by kernel_rfl
theorem UI :prog.stoodInHeld 60=false:=by kernel_rfl
theorem Tt :prog.eqGuardType prog.depth 60=false:=by kernel_rfl
theorem qg (S:Sto)(A B:Option Addr)(c d:Nat)(w:World)(p:Sl w A S.fs.length c 2 (yz S.fs))(q:Sl w B S.fs.length d 2 (yz S.fs))(G:S.fs.length≤1500000):
 Calls prog 11 #[S.V A c,S.V B d] w (rT w (.bool true)):=by
 have H:=Qh;have I:=QL;have J:=UI;have K:=Tt;obtain⟨o,l,m,dict,fs⟩:=S;simp only at*;go_enter func11,ntmps11;have i:Bk ((w.alloc (.cells #[(o:Int),l,m,dict,.slice A fs.length c] 29)).alloc (.cells #[(o:Int),l,m,dict,.slice B fs.length d] 29)) w.heap.size 29 #[(o:Int),l,m,dict,.slice A fs.length c]:=tBk;have j:Bk ((w.alloc (.cells #[(o:Int),l,m,dict,.slice A fs.length c] 29)).alloc (.cells #[(o:Int),l,m,dict,.slice B fs.length d] 29)) (w.heap.size+1) 29 #[(o:Int),l,m,dict,.slice B fs.length d]:=tBk;have f:Below w.heap.size w ((w.alloc (.cells #[(o:Int),l,m,dict,.slice A fs.length c] 29)).alloc (.cells #[(o:Int),l,m,dict,.slice B fs.length d] 29)):=zy;go_upto_region 1 with(fail)
 generalize(w.alloc (.cells #[(o:Int),l,m,dict,.slice A fs.length c] 29)).alloc (.cells #[(o:Int),l,m,dict,.slice B fs.length d] 29)=n at*;have L:=f.size;have C:=i.lt;have D:=j.lt;have E:Hid (∀wr,Below n.heap.size n wr→Bk wr w.heap.size 29 #[(o:Int),l,m,dict,.slice A fs.length c]∧Bk wr (w.heap.size+1) 29 #[(o:Int),l,m,dict,.slice B fs.length d]∧Sl wr A fs.length c 2 (yz fs)∧Sl wr B fs.length d 2 (yz fs)∧Below w.heap.size w wr):=fun wr h=>⟨i.below h C,j.below h D,(p.below f).below h,(q.below f).below h,f.trans (h.mono oo)⟩;have r:=i.cell;have s:=j.cell;clear p q i j f;go_wp2;clear r s;go_loopw [5] (fun a wr=>∃k:Nat,k≤fs.length∧a= .int .i64 (k:Int)∧Below n.heap.size n wr) (fun a _=>fs.length - (intOf a).toNat)
 case atStart=>exact⟨0,oo,rfl,Below.refl _ _⟩
 case round=>
  obtain⟨k,hk,rfl,t⟩:=hrel;have M:=t.size;obtain⟨u,v,x,y,F⟩:=E.out wr t;have r:=u.cell;have s:=v.cell;by_cases z:k<fs.length
  ·have h1:(k:Int)<fs.length:=oo
   obtain⟨g,N,rfl,O,P,Q⟩:=x.fl z;obtain⟨R,T,rfl,U,W,X⟩:=y.fl z;generalize fs[k].1=a at*;generalize fs[k].2=b at*;clear x y u v;go_wp2_with fail;go_quiet(fail);go_wp2;go_roundw
   case rel=>exact⟨k+1,oo,by go_num,zy⟩
   case measure=>simp [intOf];omega
  ·have h1:¬(k:Int)<fs.length:=oo
   go_wp2;go_ret;exact⟨rfl,F⟩
