import Derived.Test.YtoedhpcmgondjaaGreatDoorUGU1
import Derived.Test.YtoedhpcmgondjaaGreatDoorUGS5
import Derived.Deep.Cut
set_option linter.all false
set_option maxHeartbeats 8000000
namespace Go.Proofs.YtoedhpcmgondjaaGreatDoor
open Go.Lib(hid)
open Go.RowKit Go.Proofs.Tryz
set_option maxRecDepth 100000
attribute [local instance] mU hZ
attribute [local go_sem high] zA zB zD zS zL yf zC zk zl zt zi zu yR zG yu zH
theorem Pz (o l m:Int)(dict:Bs)(c:List Blk)(A:Option Addr)(cap:Nat)(w:World)(E:fits o l m dict)(r:Sl w A c.length cap 4 (zU c))(F:∀b ∈ c,b.ok=true)(hl:c.length≤100000):
 Calls prog 153 #[.agg #[o,l,m],sv dict,.slice A c.length cap] w fun e w'=>e=x9 (yL (zy o l m dict) c)∧Below w.heap.size w w':=by
 have V:Hid (∀b w,b.ok=true→Calls prog 128 #[.agg #[o,l,m],sv dict,bkV b] w fun e w'=>e=x9 (b.dat (zy o l m dict))∧Below w.heap.size w w'):=fun b w h=>mD o l m dict b w E (by have:=pM h;omega);clear E;generalize zy o l m dict=K at*;have b1:=r.1;have b2:=r.2.1;have W:=hid F;clear F;have Y:Hid (∀wr,Below w.heap.size w wr→Sl wr A c.length cap 4 (zU c)):=fun wr h=>r.below h;clear r;obtain⟨R,x⟩:∃R,yL K c=R:=⟨_,rfl⟩;rw[x];have G:=hid x;clear x;go_enter func153,ntmps153;have H:Bk (w.alloc (.cells #[o,l,m] 24)) w.heap.size 24 #[o,l,m]:=tBk;have I:Below w.heap.size w (w.alloc (.cells #[o,l,m] 24)):=zx;go_upto_region 1 with(fail)
 generalize w.alloc (.cells #[o,l,m] 24)=w0 at*;go_wp2;go_loopw [8,9] (fun a i wr=>∃(k:Nat) (X:Bs),a=sv X∧i= .int .i64 (k:Int)∧k≤c.length∧X.length≤64*k∧Hid (yL K (c.take k)=some X)∧Bk wr w.heap.size 24 #[o,l,m]∧Below w.heap.size w wr) (fun _ i _=>c.length - (intOf i).toNat)
 case atStart=>exact⟨0,[],rfl,rfl,by omega,by simp,rfl,H,I⟩
 case round=>
  obtain⟨k,X,rfl,rfl,hk,hX,y,s,j⟩:=hrel;clear H I;have Z:=j.size;have J:=s.lt;have L:=s.cell;by_cases n:k<c.length
  ·have a0:(k:Int)<c.length:=oo
   obtain⟨g,b5,rfl,hg,p⟩:=Sl.je (Y.out wr j) n;have q:=qo c k n;have z:=p 0 _ q.1;have B:=p 1 _ q.2.1;have C:=p 2 _ q.2.2.1;have D:=p 3 _ q.2.2.2;have t:=W.out c[k] (List.getElem_mem n);have M:=fun w=>V.out c[k] w t;have N:Hid (c[k].dat K=none→R=none):=fun h=>(by rw[←G.out];exact ZK n h);have O:Hid (∀d,c[k].dat K=some d→yL K (c.take (k+1))=some (X++d)):=fun d h=>Zw n y.out h;have P:Hid (∀d,c[k].dat K=some d→d.length≤64):=fun d h=>(by have:=tX t h;have:=Blk.vz t;omega);generalize c[k].dat K=a1 at*;generalize c[k]=b at*;obtain⟨n2,b8,n4,T⟩:=b;simp only[Nat.add_zero] at z B C D;clear p q y t;have hG:=zJ L J;have C0:=fun d f=>cell_regrown z d f;have C1:=fun d f=>cell_regrown B d f;have C2:=fun d f=>cell_regrown C d f;have C3:=fun d f=>cell_regrown D d f;go_wp2_with fail;refine wp_region_quiet_below kr kr ?_;repeat(go_big_quiet_step ((go_at_call 128;exact Calls.regrown_of (M _))))
   refine wpQuiet_nil ?_;intro w2 Q;have u:Below _ _ w2:=zh Q;clear Q;have z2:=u.size;have a8:=s.below u J;have S:=j.trans (u.mono Z);clear M u s j z B C D L hG C0 C1 C2 C3
   cases a1 with
   |none=>
    have h:=N.out rfl;subst h;go_wp2;exact bodyPost_ret (v:=.tuple #[sv [],.bool false]) (by simp [results,results153,go_sem]) rfl ⟨rfl,S⟩
   |some d=>
    have a9:=hid (O.out d rfl);have c0:=P.out d rfl;have hq:¬9223372036854775807<X.length+d.length:=oo;have U:(X++d).length≤64*(k+1):=(by simp;omega);have a':=hid U;clear U O N P;go_wp2;go_roundw
    case rel=>exact⟨k+1,X++d,by simp [sv],by go_num,by omega,a'.out,a9,a8,S⟩
    case measure=>simp [intOf];omega
  ·have a0:¬(k:Int)<c.length:=oo
   have h:R=some X:=(by rw[←G.out,←y.out,List.take_of_length_le (by omega)]);subst h;go_wp2;exact bodyPost_ret (v:=.tuple #[sv X,.bool true]) (by simp [results,results153,go_sem]) rfl ⟨rfl,j⟩
theorem qO (o l m:Int)(dict t:Bs)(w:World)(E:dict.length≤9223372036854775807)(F:t.length≤1500000):
 Calls prog 127 #[.agg #[o,l,m],sv dict,sv t] w fun e w'=>e=x9 (cdB o l m dict t)∧Below w.heap.size w w':=by
 have z:=fun w=>qm t w F;have f:=fun w=>rJ o l m dict w E;have q:Hid (¬fits o l m dict→cdB o l m dict t=none):=fun h=>LU h;have r:Hid (zX t=none→cdB o l m dict t=none):=fun h=>O0 h;have s:Hid (∀a,fits o l m dict→zX t=some a→cdB o l m dict t=yL (zy o l m dict) a):=fun a h h2=>rO h h2;have u:Hid (∀a,zX t=some a→(∀b ∈ a,b.ok=true)∧a.length≤40):=fun a h=>⟨xY h,(xO h).2⟩;generalize cdB o l m dict t=R at*;generalize zX t=G at*;go_enter func127,ntmps127;have x:Bk (w.alloc (.cells #[o,l,m] 24)) w.heap.size 24 #[o,l,m]:=tBk;have A:Below w.heap.size w (w.alloc (.cells #[o,l,m] 24)):=zx;go_upto_region 1 with(fail)
 generalize w.alloc (.cells #[o,l,m] 24)=P at*;have H:=x.lt;go_wp2_with fail;refine(z _).mono ?_;rintro e Q ⟨I,J,rfl,B,j⟩;have S:=j.size;have k:=x.below j H;have g:=A.trans (j.mono oo);have n:=OG B;have C:=k.cell;clear j x A B z
 cases G with
 |none=>
  have h:=r.out rfl;subst h;go_wp2;exact bodyPost_ret (v:=.tuple #[sv [],.bool false]) (by simp [results,results127,go_sem]) rfl ⟨rfl,g⟩
 |some a=>
  simp only[Option.getD_some,Option.isSome_some] at n⊢;by_cases d:fits o l m dict
  ·have i:decide (fits o l m dict)=true:=by simpa using d
   simp only[i] at f;have p:=s.out a d rfl;obtain⟨h1,h2⟩:=u.out a rfl;have D:=fun w h=>Pz o l m dict a I J w d h h1 oo;rw[←p] at D;clear q r s u h1 d i p;go_wp2_with fail;refine(f _).mono ?_;rintro e K ⟨rfl,c⟩;have T:=c.size;have L:=k.below c oo;have M:=n.below c;have y:=g.trans (c.mono oo);have U:=L.cell;clear c k C n g f;go_wp2_with fail;refine(D _ M).mono ?_;rintro e V ⟨rfl,N⟩;have O:=y.trans (N.mono oo);unfold x9;go_wp2;exact bodyPost_ret (v:=.tuple #[sv (R.getD []),.bool R.isSome]) (by simp [results,results127,go_sem]) rfl ⟨rfl,O⟩
  ·have i:decide (fits o l m dict)=false:=by simpa using d
   simp only[i] at f;have p:=q.out d;subst p;clear q r s u d i;go_wp2_with fail;refine(f _).mono ?_;rintro e K ⟨rfl,c⟩;have y:=g.trans (c.mono oo);clear c k C n g f;go_wp2;exact bodyPost_ret (v:=.tuple #[sv [],.bool false]) (by simp [results,results127,go_sem]) rfl ⟨rfl,y⟩
