import Derived.Test.YtoedhpcmgondjaaGreatDoorYGU1
import Derived.Test.YtoedhpcmgondjaaGreatDoorYGS5
import Derived.Deep.Cut
set_option linter.all false
set_option maxHeartbeats 8000000
namespace Go.Proofs.YtoedhpcmgondjaaGreatDoor
open Go.Lib(hid)
open Go.RowKit Go.Proofs.Tryz
set_option maxRecDepth 100000
attribute [local instance] mU hZ
attribute [local go_sem high] zG zF zH zV zN yu zD zl zn zt zi zu y9 zK yE zJ
theorem NR (o l m:Int)(dict:Bs)(c:List Blk)(A:Option Addr)(cap:Nat)(w:World)(E:fits o l m dict)(r:Sl w A c.length cap 4 (zY c))(F:∀b ∈ c,b.ok=true)(hl:c.length≤100000):
 Calls prog 153 #[.agg #[(o:Int),l,m],sv dict,.slice A c.length cap] w (rS w (xw (yM (zA o l m dict) c))):=by
 have V:Hid (∀b w,b.ok=true→Calls prog 128 #[.agg #[(o:Int),l,m],sv dict,bkV b] w (rS w (xw (b.dat (zA o l m dict))))):=fun b w h=>lF o l m dict b w E (by have:=qO h;omega);clear E;generalize zA o l m dict=K at*;have b1:=r.1;have b2:=r.2.1;have W:=hid F;clear F;have Y:Hid (∀wr,Below w.heap.size w wr→Sl wr A c.length cap 4 (zY c)):=fun wr h=>r.below h;clear r;obtain⟨R,x⟩:∃R,yM K c=R:=⟨_,rfl⟩;rw[x];have G:=hid x;clear x;go_enter func153,ntmps153;have H:Bk (w.alloc (.cells #[(o:Int),l,m] 24)) w.heap.size 24 #[(o:Int),l,m]:=tBk;have I:Below w.heap.size w (w.alloc (.cells #[(o:Int),l,m] 24)):=zy;go_upto_region 1 with(fail)
 generalize w.alloc (.cells #[(o:Int),l,m] 24)=w0 at*;go_wp2;go_loopw [8,9] (fun a i wr=>∃(k:Nat) (X:Bs),a=sv X∧i= .int .i64 (k:Int)∧k≤c.length∧X.length≤64*k∧Hid (yM K (c.take k)=some X)∧Bk wr w.heap.size 24 #[(o:Int),l,m]∧Below w.heap.size w wr) (fun _ i _=>c.length - (intOf i).toNat)
 case atStart=>exact⟨0,[],rfl,rfl,by omega,by simp,rfl,H,I⟩
 case round=>
  obtain⟨k,X,rfl,rfl,hk,hX,y,s,j⟩:=hrel;clear H I;have Z:=j.size;have J:=s.lt;have L:=s.cell;by_cases n:k<c.length
  ·have a0:(k:Int)<c.length:=oo
   obtain⟨g,b5,rfl,hg,p⟩:=Sl.jf (Y.out wr j) n;have q:=qp c k n;have z:=p 0 _ q.1;have B:=p 1 _ q.2.1;have C:=p 2 _ q.2.2.1;have D:=p 3 _ q.2.2.2;have t:=W.out c[k] (List.getElem_mem n);have M:=fun w=>V.out c[k] w t;have N:Hid (c[k].dat K=none→R=none):=fun h=>(by rw[←G.out];exact gU n h);have O:Hid (∀d,c[k].dat K=some d→yM K (c.take (k+1))=some (X++d)):=fun d h=>iO n y.out h;have P:Hid (∀d,c[k].dat K=some d→d.length≤64):=fun d h=>(by have:=tY t h;have:=Blk.vT t;omega);generalize c[k].dat K=a1 at*;generalize c[k]=b at*;obtain⟨n2,b8,n4,T⟩:=b;simp only[Nat.add_zero] at z B C D;clear p q y t;have hG:=zM L J;have C0:=fun d f=>cell_regrown z d f;have C1:=fun d f=>cell_regrown B d f;have C2:=fun d f=>cell_regrown C d f;have C3:=fun d f=>cell_regrown D d f;go_wp2_with fail;refine wp_region_quiet_below kr kr ?_;repeat(go_big_quiet_step ((go_at_call 128;exact Calls.regrown_of (M _))))
   refine wpQuiet_nil ?_;intro w2 Q;have u:Below _ _ w2:=zh Q;clear Q;have z2:=u.size;have a8:=s.below u J;have S:=j.trans (u.mono Z);clear M u s j z B C D L hG C0 C1 C2 C3
   cases a1 with
   |none=>
    have h:=N.out rfl;subst h;go_wp2;exact bodyPost_ret (v:=.tuple #[sv [],.bool false]) (by simp [results,results153,go_sem]) rfl ⟨rfl,S⟩
   |some d=>
    have a9:=hid (O.out d rfl);have c0:=P.out d rfl;have hq:¬9223372036854775807<X.length+d.length:=oo;have U:(X++d).length≤64*(k+1):=(by simp;omega);have a':=hid U;clear U O N P;go_wp2;go_roundw
    case rel=>exact⟨k+1,X++d,by simp [sv],by go_num,by omega,a'.out,a9,a8,S⟩
    case measure=>simp [intOf];omega
  ·have a0:¬(k:Int)<c.length:=oo
   have h:R=some X:=(by rw[←G.out,←y.out,List.take_of_length_le (by omega)]);subst h;go_wp2;exact bodyPost_ret (v:=.tuple #[sv X,.bool true]) (by simp [results,results153,go_sem]) rfl ⟨rfl,j⟩
theorem pO (o l m:Int)(dict t:Bs)(w:World)(E:dict.length≤9223372036854775807)(F:t.length≤1500000):
 Calls prog 127 #[.agg #[(o:Int),l,m],sv dict,sv t] w (rS w (xw (cdB o l m dict t))):=by
 have z:=fun w=>qP t w F;have f:=fun w=>qy o l m dict w E;have q:Hid (¬fits o l m dict→cdB o l m dict t=none):=fun h=>Mc h;have r:Hid (zX t=none→cdB o l m dict t=none):=fun h=>UU h;have s:Hid (∀a,fits o l m dict→zX t=some a→cdB o l m dict t=yM (zA o l m dict) a):=fun a h h2=>sU h h2;have u:Hid (∀a,zX t=some a→(∀b ∈ a,b.ok=true)∧a.length≤40):=fun a h=>⟨xU h,(xI h).2⟩;generalize cdB o l m dict t=R at*;generalize zX t=G at*;go_enter func127,ntmps127;have x:Bk (w.alloc (.cells #[(o:Int),l,m] 24)) w.heap.size 24 #[(o:Int),l,m]:=tBk;have A:Below w.heap.size w (w.alloc (.cells #[(o:Int),l,m] 24)):=zy;go_upto_region 1 with(fail)
 generalize w.alloc (.cells #[(o:Int),l,m] 24)=P at*;have H:=x.lt;go_wp2_with fail;refine(z _).mono ?_;rintro e Q ⟨I,J,rfl,B,j⟩;have S:=j.size;have k:=x.below j H;have g:=A.trans (j.mono oo);have n:=QM B;have C:=k.cell;clear j x A B z
 cases G with
 |none=>
  have h:=r.out rfl;subst h;go_wp2;exact bodyPost_ret (v:=.tuple #[sv [],.bool false]) (by simp [results,results127,go_sem]) rfl ⟨rfl,g⟩
 |some a=>
  simp only[Option.getD_some,Option.isSome_some] at n⊢;by_cases d:fits o l m dict
  ·have i:decide (fits o l m dict)=true:=by simpa using d
   simp only[i] at f;have p:=s.out a d rfl;obtain⟨h1,h2⟩:=u.out a rfl;have D:=fun w h=>NR o l m dict a I J w d h h1 oo;rw[←p] at D;clear q r s u h1 d i p;go_wp2_with fail;refine(f _).mono ?_;rintro e K ⟨rfl,c⟩;have T:=c.size;have L:=k.below c oo;have M:=n.below c;have y:=g.trans (c.mono oo);have U:=L.cell;clear c k C n g f;go_wp2_with fail;refine(D _ M).mono ?_;rintro e V ⟨rfl,N⟩;have O:=y.trans (N.mono oo);unfold xw;go_wp2;exact bodyPost_ret (v:=.tuple #[sv (R.getD []),.bool R.isSome]) (by simp [results,results127,go_sem]) rfl ⟨rfl,O⟩
  ·have i:decide (fits o l m dict)=false:=by simpa using d
   simp only[i] at f;have p:=q.out d;subst p;clear q r s u d i;go_wp2_with fail;refine(f _).mono ?_;rintro e K ⟨rfl,c⟩;have y:=g.trans (c.mono oo);clear c k C n g f;go_wp2;exact bodyPost_ret (v:=.tuple #[sv [],.bool false]) (by simp [results,results127,go_sem]) rfl ⟨rfl,y⟩
