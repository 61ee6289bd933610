import Derived.Test.YtoedhpcmgondjaaGreatDoorUGS3
import Derived.Test.YtoedhpcmgondjaaGreatDoorUGP1
import Derived.Test.YtoedhpcmgondjaaGreatDoorUGD1
import Derived.Test.YtoedhpcmgondjaaGreatDoorUGT
set_option linter.all false
set_option maxHeartbeats 8000000
namespace Go.Proofs.YtoedhpcmgondjaaGreatDoor
open Go.Lib(hid)
open Go.RowKit Go.Proofs.Tryz
set_option maxRecDepth 100000
attribute [local instance] mU hZ cvZ
attribute [local go_sem high] zA zB zD zS zL yf zC zk zl zt zi zu yR zG yu zH
theorem Pn (o l m:Int)(w:World)(j:wM o l m):
 Calls prog 207 #[.agg #[o,l,m]] w fun e w'=>e= .returned (.tuple #[knV (vZ o l m) none 0,.bool true])∧Below w.heap.size w w':=by
 have p:decide (wM o l m)=true:=decide_eq_true j;go_enter func207,ntmps207;go_wp2_with fail;refine(tN _ _ _ _).mono ?_;rintro e q ⟨rfl,a⟩;have f:Bk ((w.alloc (.cells #[o,l,m] 24)).alloc (.cells knZ 94)) w.heap.size 24 #[o,l,m]:=tBk;have c:Bk ((w.alloc (.cells #[o,l,m] 24)).alloc (.cells knZ 94)) (w.heap.size+1) 94 knZ:=tBk;have g:Below w.heap.size w ((w.alloc (.cells #[o,l,m] 24)).alloc (.cells knZ 94)):=zx;generalize(w.alloc (.cells #[o,l,m] 24)).alloc (.cells knZ 94)=r at*;have s:=c.lt;have k:=f.below a oo;have d:=c.below a oo;have n:=g.trans (a.mono oo);have t:=k.cell;have u:=d.free;have x:=d.cell;clear f c g a;go_wp2;have h:=(wP d (vZ o l m) none 0).cell;have i:=yt n (b:=w.heap.size+1) oo (vZ o l m) none 0;simp only[vZ,List.length_nil] at h i;exact bodyPost_ret (v:=.tuple #[knV (vZ o l m) none 0,.bool true]) (by simp [results,results207,go_sem,h,vZ]) rfl ⟨rfl,i⟩
def lU (K:Kn)(w:World)(e:Ending)(w':World):Prop:=∃A cap,e= .returned (.tuple #[knV K A cap,.bool true])∧w'.ownsRow w.heap.size 173 2 (.slice A K.ps.length cap) K.ps.length (psV K.ps)∧Below w.heap.size w w'
theorem Zl (K:Kn)(A:Option Addr)(cap:Nat)(d:Bs)(w:World)(hk:K.ok)(n:Sl w A K.ps.length cap 2 (psV K.ps))(i:fits K.o K.l K.m d):
 Calls prog 208 #[knV K A cap,d] w (lU (K.learn d) w):=by
 have M:decide (fits K.o K.l K.m d)=true:=decide_eq_true i;have N:d.length≤2000:=i.2.1;have E:Hid (∀wr,Below w.heap.size w wr→Calls prog 211 #[knV K A cap] wr fun e w'=>e= .returned (.bool true)∧Below wr.heap.size wr w'):=fun wr h=>qH K A cap wr hk (n.below h);have F:Hid (∀wr,Below w.heap.size w wr→Calls prog 231 #[knV K A cap,d] wr (qU (K.learn d) wr)):=fun wr h=>V8 K A cap d wr hk (n.below h) oo i.2.2;clear n i;generalize K.learn d=j at*;go_enter func208,ntmps208;go_wp2_with fail;have x:Bk ((w.alloc (.cells (knC K A cap) 94)).alloc (.cells knZ 94)) w.heap.size 94 (knC K A cap):=tBk;have p:Bk ((w.alloc (.cells (knC K A cap) 94)).alloc (.cells knZ 94)) (w.heap.size+1) 94 knZ:=tBk;have q:Below w.heap.size w ((w.alloc (.cells (knC K A cap) 94)).alloc (.cells knZ 94)):=zx;generalize(w.alloc (.cells (knC K A cap) 94)).alloc (.cells knZ 94)=O at*;refine(E.out _ q).mono ?_;rintro e P ⟨rfl,a⟩;have Q:=p.lt;have R:=a.size;have r:=x.below a oo;have y:=p.below a oo;have z:=q.trans (a.mono oo);have s:=r.cell;clear x p q a;go_wp2_with fail;refine(rC _ _ _ _ _ oo).mono ?_;rintro e S ⟨rfl,c⟩;have T:=c.size;have C:=r.below c oo;have D:=y.below c oo;have t:=z.trans (c.mono oo);clear s;have s:=C.cell;clear r y z c;go_wp2_with fail;refine(F.out _ t).mono ?_;rintro e U ⟨f,g,rfl,G,k⟩;have V:=k.size;have u:=D.below k oo;have H:=t.trans (k.mono oo);have W:=u.free;have X:=u.cell;clear C D t k s;go_wp2;have I:=(wP u j f g).cell;have J:=yt H (b:=w.heap.size+1) oo j f g;have L:=zF (B':=w.heap.size) (yB G (b:=w.heap.size+1) oo j f g) oo;exact bodyPost_ret (v:=.tuple #[knV j f g,.bool true]) (by simp [results,results208,go_sem,I]) rfl ⟨f,g,rfl,L,J⟩
theorem jo (o l m:Int)(d:Bs)(w:World)(f:fits o l m d):
 Calls prog 180 #[.agg #[o,l,m],d] w (lU (zy o l m d) w):=by
 have t:Hid (∀w,Calls prog 207 #[.agg #[o,l,m]] w fun e w'=>e= .returned (.tuple #[.agg #[o,l,m,.slice none 0 0,.int .i64 0,.int .i64 (-1)],.bool true])∧Below w.heap.size w w'):=fun w=>Pn o l m w f.1;have u:Hid (∀w,Calls prog 208 #[.agg #[o,l,m,.slice none 0 0,.int .i64 0,.int .i64 (-1)],d] w (lU (zy o l m d) w)):=fun w=>Zl (vZ o l m) none 0 d w (kV f.1) (Sl.nil _ _) f;clear f;generalize zy o l m d=g at*;go_enter func180,ntmps180;go_wp2_with fail;have x:Bk ((w.alloc (.cells #[o,l,m] 24)).alloc (.cells knZ 94)) w.heap.size 24 #[o,l,m]:=tBk;have j:Bk ((w.alloc (.cells #[o,l,m] 24)).alloc (.cells knZ 94)) (w.heap.size+1) 94 knZ:=tBk;have p:Below w.heap.size w ((w.alloc (.cells #[o,l,m] 24)).alloc (.cells knZ 94)):=zx;generalize(w.alloc (.cells #[o,l,m] 24)).alloc (.cells knZ 94)=H at*;refine(t.out _).mono ?_;rintro e y ⟨rfl,h⟩;have I:=j.lt;have J:=h.size;have q:=(j.below h oo).alloc (.cells #[o,l,m,.slice none 0 0,.int .i64 0,.int .i64 (-1)] 94);have k:=Bk.new y #[o,l,m,.slice none 0 0,.int .i64 0,.int .i64 (-1)] 94;have r:=(p.trans (h.mono oo)).alloc oo (.cells #[o,l,m,.slice none 0 0,.int .i64 0,.int .i64 (-1)] 94);have z:=k.cell;have s:=k.free;clear x j p h;go_wp2_with fail;refine(u.out _).mono ?_;rintro e K ⟨a,c,rfl,A,i⟩;have C:=i.size;simp only[World.size_alloc] at C;have n:=q.below i (by simp;omega);have D:=r.trans (i.mono (by simp;omega));clear z s;have s:=n.free;have L:=n.cell;clear k q r i;go_wp2;have E:=(wP n g a c).cell;have F:=yt D (b:=w.heap.size+1) oo g a c;have G:=zF (B':=w.heap.size) (yB A (b:=w.heap.size+1) (by simp;omega) g a c) (by simp;omega);exact bodyPost_ret (v:=.tuple #[knV g a c,.bool true]) (by simp [results,results180,go_sem,E]) rfl ⟨a,c,rfl,G,F⟩
def yg (o:Option Bs):Ending:=.returned (.tuple #[sv (o.getD []),.bool o.isSome])
def vJ (K:Kn)(d:Bs):Option Bs:=if fits K.o K.l K.m d then some (K.comp d) else none
def V5 (o l m:Int)(dict d:Bs):Option Bs:=vJ (zy o l m dict) d
theorem xG {o l m:Int}{dict:Bs}(a:fits o l m dict):(zy o l m dict).ok:=(Kn.NH (kV a.1) a.2.2).1
theorem XX (K:Kn)(A:Option Addr)(cap:Nat)(d:Bs)(w:World)(hk:K.ok)(j:Sl w A K.ps.length cap 2 (psV K.ps))(E:d.length≤9223372036854775807):
 Calls prog 182 #[knV K A cap,d] w fun e w'=>e=yg (vJ K d)∧Below w.heap.size w w':=by
 have r:Hid (∀wr,Below w.heap.size w wr→Calls prog 211 #[knV K A cap] wr fun e w'=>e= .returned (.bool true)∧Below wr.heap.size wr w'):=fun wr h=>qH K A cap wr hk (j.below h);by_cases b:fits K.o K.l K.m d
 ·have s:decide (fits K.o K.l K.m d)=true:=decide_eq_true b
  have t:Hid (∀wr,Below w.heap.size w wr→Calls prog 212 #[knV K A cap,d] wr fun e w'=>e= .returned (.string ⟨(K.comp d).toArray⟩)∧Below wr.heap.size wr w'):=fun wr h=>Yb K A cap d wr hk (j.below h) b.2.1 b.2.2;have p:Hid (yg (vJ K d)= .returned (.tuple #[sv (K.comp d),.bool true])):=(by show _=_;unfold vJ;rw[if_pos b];rfl);clear j b;generalize K.comp d=R at*;generalize yg (vJ K d)=G at*;go_enter func182,ntmps182;go_wp2_with fail;have c:=Bk.new w (knC K A cap) 94;have f:Below w.heap.size w (w.alloc (.cells (knC K A cap) 94)):=zx;refine(r.out _ f).mono ?_;rintro e u ⟨rfl,a⟩;have v:=c.lt;have x:=a.size;have i:=c.below a oo;have k:=f.trans (a.mono oo);have q:=i.cell;clear c f a;go_wp2_with fail;refine(rC _ _ _ _ _ oo).mono ?_;rintro e y ⟨rfl,g⟩;have F:=g.size;have z:=i.below g oo;have n:=k.trans (g.mono oo);clear q;have q:=z.cell;clear i k g;go_wp2_with fail;refine(t.out _ n).mono ?_;rintro e H ⟨rfl,C⟩;have D:=n.trans (C.mono oo);go_wp2;go_ret2;exact⟨p.out.symm,D⟩
 ·have s:decide (fits K.o K.l K.m d)=false:=decide_eq_false b
  have p:Hid (yg (vJ K d)= .returned (.tuple #[sv [],.bool false])):=(by show _=_;unfold vJ;rw[if_neg b];rfl);clear j b;generalize yg (vJ K d)=G at*;go_enter func182,ntmps182;go_wp2_with fail;have c:=Bk.new w (knC K A cap) 94;have f:Below w.heap.size w (w.alloc (.cells (knC K A cap) 94)):=zx;refine(r.out _ f).mono ?_;rintro e u ⟨rfl,a⟩;have v:=c.lt;have x:=a.size;have i:=c.below a oo;have k:=f.trans (a.mono oo);have q:=i.cell;clear c f a;go_wp2_with fail;refine(rC _ _ _ _ _ oo).mono ?_;rintro e y ⟨rfl,g⟩;have n:=k.trans (g.mono oo);go_wp2;go_ret2;exact⟨p.out.symm,n⟩
theorem fU (o l m:Int)(dict d:Bs)(w:World)(f:fits o l m dict)(q:d.length≤9223372036854775807):
 Calls prog 155 #[.agg #[o,l,m],dict,d] w fun e w'=>e=yg (V5 o l m dict d)∧Below w.heap.size w w':=by
 have r:Hid (∀w,Calls prog 180 #[.agg #[o,l,m],dict] w (lU (zy o l m dict) w)):=fun w=>jo o l m dict w f;have hk:=xG f;unfold V5;generalize zy o l m dict=K at*;obtain⟨R,g⟩:∃R,(vJ K d).getD []=R:=⟨_,rfl⟩;obtain⟨b,h⟩:∃b,(vJ K d).isSome=b:=⟨_,rfl⟩;have a:yg (vJ K d)= .returned (.tuple #[sv R,.bool b]):=(by unfold yg;rw[g,h]);have i:Hid (∀A cap w,Sl w A K.ps.length cap 2 (psV K.ps)→Calls prog 182 #[knV K A cap,d] w fun e w'=>e= .returned (.tuple #[sv R,.bool b])∧Below w.heap.size w w'):=fun A cap w s=>(by rw[←a];exact XX K A cap d w hk s q);rw[a];clear a g h;go_enter func155,ntmps155;go_wp2_with fail;refine(r.out _).mono ?_;rintro e t ⟨A,cap,rfl,j,c⟩;have u:=c.size;simp only[World.size_alloc] at u;have k:=Bk.new t (knC K A cap) 94;have n:=Sl.own (j.alloc (.cells (knC K A cap) 94));have p:Below w.heap.size w (w.alloc (.cells #[o,l,m] 24)):=zx;have v:=(p.trans (c.mono (by simp))).alloc (by omega) (.cells (knC K A cap) 94);have C:=k.cell;have D:=k.free;have x:=i.out A cap _ n;clear p c j n i;go_wp2_with fail;refine x.mono ?_;rintro e E ⟨rfl,y⟩;have z:=v.trans (y.mono (by simp;omega));go_wp2;go_ret2;exact⟨rfl,z⟩
def mW (o l m:Int)(dict:Bs)(n:Int)(d:Bs):Blk:=match V5 o l m dict d with
 |some s=>if s.length<d.length then⟨n,false,d.length,s⟩ else⟨n,true,d.length,d⟩
 |none=>⟨n,true,d.length,d⟩
theorem MK (o l m:Int)(dict:Bs)(n:Int)(d:Bs)(h0:0≤n)(h1:n≤65535)(a:d.length≤65535):(mW o l m dict n d).sm:=by
 unfold mW Blk.sm;split
 ·split<;>simp only<;>omega
 ·simp only;omega
theorem W9 (o l m:Int)(dict:Bs)(n:Int)(d:Bs):(mW o l m dict n d).text.length≤10+d.length:=by
 rw[Blk.lM];unfold mW;split
 ·split<;>simp only<;>omega
 ·simp only;omega
theorem pK (o l m:Int)(dict:Bs)(n:Int)(d:Bs)(w:World)(f:fits o l m dict)(j:d.length≤9223372036854775807):
 Calls prog 129 #[.agg #[o,l,m],dict,n,d] w fun e w'=>e= .returned (bkV (mW o l m dict n d))∧Below w.heap.size w w':=by
 have g:Hid (∀w,Calls prog 155 #[.agg #[o,l,m],dict,d] w fun e w'=>e=yg (V5 o l m dict d)∧Below w.heap.size w w'):=fun w=>fU o l m dict d w f j;unfold mW;clear f;generalize V5 o l m dict d=O at*;go_enter func129,ntmps129;go_wp2_with fail;have b:Bk ((w.alloc (.cells #[o,l,m] 24)).alloc (.cells xM 122)) (w.heap.size+1) 122 xM:=tBk;have h:Below w.heap.size w ((w.alloc (.cells #[o,l,m] 24)).alloc (.cells xM 122)):=zx;refine(g.out _).mono ?_;generalize(w.alloc (.cells #[o,l,m] 24)).alloc (.cells xM 122)=p at*;rintro e q ⟨rfl,c⟩;have r:=b.lt;have a:=b.below c oo;have t:=h.trans (c.mono oo);have u:=a.cell;have x:=a.free;clear g c b h
 cases O with
 |none=>
  unfold yg;go_wp2;have Q:=((((a.set 0 (.int .i64 n)).set 1 (.bool true)).set 2 (.int .i64 (d.length:Int))).set 3 (.string ⟨d.toArray⟩)).cell;exact bodyPost_ret (v:=bkV ⟨n,true,d.length,d⟩) (by simp [results,results129,go_sem,Q]) rfl ⟨rfl,zx⟩
 |some s=>
  unfold yg;by_cases i:s.length<d.length
  ·have k:(s.length:Int)<d.length:=oo
   simp only[if_pos i];go_wp2;have Q:=((((a.set 0 (.int .i64 n)).set 1 (.bool false)).set 2 (.int .i64 (d.length:Int))).set 3 (.string ⟨s.toArray⟩)).cell;exact bodyPost_ret (v:=bkV ⟨n,false,d.length,s⟩) (by simp [results,results129,go_sem,Q]) rfl ⟨rfl,zx⟩
  ·have k:¬(s.length:Int)<d.length:=oo
   simp only[if_neg i];go_wp2;have Q:=((((a.set 0 (.int .i64 n)).set 1 (.bool true)).set 2 (.int .i64 (d.length:Int))).set 3 (.string ⟨d.toArray⟩)).cell;exact bodyPost_ret (v:=bkV ⟨n,true,d.length,d⟩) (by simp [results,results129,go_sem,Q]) rfl ⟨rfl,zx⟩
def VP :Value→Nat
 | .string b=>b.data.size
 |_=>0
def YI (o l m:Int)(dict:Bs)(size:Nat):Nat→Nat→Bs→Bs
 |0,_,_=>[]
 |n+1,f,d=>if d=[] then[] else(mW o l m dict (f:Int) (d.take size)).text++YI o l m dict size n (f+1) (d.drop size)
theorem gG (o l m:Int)(dict:Bs)(size n f:Nat):YI o l m dict size n f []=[]:=by
 cases n with
 |zero=>rfl
 |succ n=>unfold YI;rw[if_pos rfl]
theorem Ql (o l m:Int)(dict:Bs)(size n f:Nat)(d:Bs)(h:d≠[]):YI o l m dict size (n+1) f d=(mW o l m dict (f:Int) (d.take size)).text++YI o l m dict size n (f+1) (d.drop size):=by
 rw[YI,if_neg h]
def mkB (o l m:Int)(dict:Bs)(size:Nat)(f:Nat)(d:Bs):Bs:=YI o l m dict size d.length f d
theorem TC (o l m:Int)(dict:Bs)(size f:Nat)(d:Bs)(w:World)(M:fits o l m dict)(a3:1≤size)(a4:size≤64)(V:d.length≤2000)(a5:f≤1000):
 Calls prog 118 #[.agg #[o,l,m],dict,(f:Int),sv d,(size:Int)] w fun e w'=>e= .returned (sv (mkB o l m dict size f d))∧Below w.heap.size w w':=by
 have N:Hid (∀(n:Nat) (x:Bs) w,x.length≤2000→Calls prog 129 #[.agg #[o,l,m],dict,(n:Int),x] w fun e w'=>e= .returned (bkV (mW o l m dict n x))∧Below w.heap.size w w'):=fun n x w a6=>pK o l m dict n x w M oo;have O:Hid (∀(n:Nat) (x:Bs) w,n≤4000→x.length≤2000→Calls prog 148 #[bkV (mW o l m dict n x)] w fun e w'=>e= .returned (.string ⟨(mW o l m dict n x).text.toArray⟩)∧Below w.heap.size w w'):=fun n x w h1 h2=>jX _ w (MK o l m dict n x oo oo oo);have P:Hid (mkB o l m dict size f d=YI o l m dict size d.length f d):=rfl;generalize mkB o l m dict size f d=G at*;clear M;go_enter func118,ntmps118;go_wp2;have Q:=Bk.new w #[o,l,m] 24;have R:Below w.heap.size w (w.alloc (.cells #[o,l,m] 24)):=zx;go_loopw [2,3,11] (fun a b c wr=>∃(D X:Bs) (q k:Nat),a= .int .i64 (q:Int)∧b=sv D∧c=sv X∧q+D.length≤3000∧D.length≤k∧X.length+11*D.length≤22000∧D.length≤2000∧Hid (G=X++YI o l m dict size k q D)∧Bk wr w.heap.size 24 #[o,l,m]∧Below w.heap.size w wr) (fun _ b _ _=>VP b)
 case atStart=>exact⟨d,[],f,d.length,rfl,rfl,rfl,by omega,Nat.le_refl _,by simp;omega,V,by show _=_;rw[P.out];rfl,Q,R⟩
 case round=>
  obtain⟨D,X,q,k,rfl,rfl,rfl,hq,hk,hX,hD,A,u,g⟩:=hrel;clear Q R P;have hz:=u.lt;by_cases i:D=[]
  ·subst i
   have W:Hid (G=X):=(by show _=_;rw[A.out,gG,List.append_nil]);go_wp2;go_ret;exact⟨by rw[W.out];rfl,g⟩
  ·have b0:=List.length_pos_iff.2 i
   have b1:(decide (D=[]))=false:=(by simpa using i);have b2:(D != [])=true:=(by simpa using i);obtain⟨C,rfl⟩:∃C,k=C+1:=⟨k - 1,oo⟩;have E:=hid (A.out.trans (by rw[Ql _ _ _ _ _ _ _ _ i]));by_cases b3:D.length<size
   ·have T:D.take size=D:=List.take_of_length_le oo
    have U:D.drop size=[]:=List.drop_eq_nil_of_le oo;rw[T,U,gG,List.append_nil] at E;have F:=fun w=>N.out q D w oo;have H:=fun w=>O.out q D w oo oo;have Y:=W9 o l m dict (q:Int) D;have Z:¬9223372036854775807<X.length+(mW o l m dict (q:Int) D).text.length:=oo;clear T U i A;have j:=u.cell;go_wp2_with fail;refine wp_region_held_drew (S:=(fun w'=>w'.cell? ⟨w.heap.size,0,none⟩=some (.int .i64 o)∧w'.cell? ⟨w.heap.size,1,none⟩=some (.int .i64 l)∧w'.cell? ⟨w.heap.size,2,none⟩=some (.int .i64 m))) kr ?_ (fun v=> ?_);focus((refine⟨?_,?_,?_⟩;all_goals first|(simp [p];done)|(simp [r];done)|(simp [j];done)))
    refine tk 0 ?_;refine tk 1 ?_;refine tk 2 ?_;refine tk 3 ?_;refine tk 4 ?_;refine tk 5 ?_;refine tk 6 ?_;try simp only[Act.put,u2,u3,u4]
    refine rd1 7 fun I s=> ?_;go_simp
    (go_at_call 129;refine(F _).mono ?_;rintro e J ⟨rfl,h⟩;have h:Below wr.heap.size wr J:=zK h;have z8:=h.size;have y:=u.below h oo;have K:=g.trans (h.mono oo);have r:=y.cell)
    refine s.out _ _ (by(refine⟨?_,?_,?_⟩;all_goals first|(simp [p];done)|(simp [r];done)|(simp [j];done))) fun v=> ?_;try simp only[Act.put,u2,u3,u4]
    refine rd1 8 fun I s=> ?_;go_simp
    (go_at_call 148;refine(H _).mono ?_;rintro e w9 ⟨rfl,t⟩;have z9:=t.size;have z:=y.below t oo;have L:=K.trans (t.mono oo);have p:=z.cell)
    refine s.out _ _ (by(refine⟨?_,?_,?_⟩;all_goals first|(simp [p];done)|(simp [r];done)|(simp [j];done))) fun v=> ?_;try simp only[Act.put,u2,u3,u4]
    refine tk 9 ?_;refine tk 10 ?_;try simp only[Act.put,u2,u3,u4]
    refine wpAnyH_done kr ?_ _;simp only[List.getElem_toArray,List.getElem_cons_succ,List.getElem_cons_zero,Act.put,List.setIfInBounds_toArray,List.set_cons_zero,List.set_cons_succ];go_wp2;go_roundw
    case rel=>exact⟨[],X++(mW o l m dict (q:Int) D).text,q+1,C,by go_num,by first|rfl|(simp;done),by first|rfl|(simp [sv];done),by simp;omega,by simp,by simp;omega,by simp,by show _=_;rw[E.out,gG,List.append_nil],z,L⟩
    case measure=>simp [VP];omega
   ·have b4:(D.take size).length=size:=by simp;omega
    have b5:(D.drop size).length=D.length - size:=(by simp);have F:=fun w=>N.out q (D.take size) w oo;have H:=fun w=>O.out q (D.take size) w oo oo;have Y:=W9 o l m dict (q:Int) (D.take size);have Z:¬9223372036854775807<X.length+(mW o l m dict (q:Int) (D.take size)).text.length:=oo;have b6:size≤D.length:=oo;clear i A;have j:=u.cell;go_wp2_with fail;refine wp_region_held_drew (S:=(fun w'=>w'.cell? ⟨w.heap.size,0,none⟩=some (.int .i64 o)∧w'.cell? ⟨w.heap.size,1,none⟩=some (.int .i64 l)∧w'.cell? ⟨w.heap.size,2,none⟩=some (.int .i64 m))) kr ?_ (fun v=> ?_);focus((refine⟨?_,?_,?_⟩;all_goals first|(simp [p];done)|(simp [r];done)|(simp [j];done)))
    refine tk 0 ?_;refine tk 1 ?_;refine tk 2 ?_;refine tk 3 ?_;refine tk 4 ?_;refine tk 5 ?_;refine tk 6 ?_;try simp only[Act.put,u2,u3,u4]
    refine rd1 7 fun I s=> ?_;go_simp
    (go_at_call 129;refine(F _).mono ?_;rintro e J ⟨rfl,h⟩;have h:Below wr.heap.size wr J:=zK h;have z8:=h.size;have y:=u.below h oo;have K:=g.trans (h.mono oo);have r:=y.cell)
    refine s.out _ _ (by(refine⟨?_,?_,?_⟩;all_goals first|(simp [p];done)|(simp [r];done)|(simp [j];done))) fun v=> ?_;try simp only[Act.put,u2,u3,u4]
    refine rd1 8 fun I s=> ?_;go_simp
    (go_at_call 148;refine(H _).mono ?_;rintro e w9 ⟨rfl,t⟩;have z9:=t.size;have z:=y.below t oo;have L:=K.trans (t.mono oo);have p:=z.cell)
    refine s.out _ _ (by(refine⟨?_,?_,?_⟩;all_goals first|(simp [p];done)|(simp [r];done)|(simp [j];done))) fun v=> ?_;try simp only[Act.put,u2,u3,u4]
    refine tk 9 ?_;refine tk 10 ?_;try simp only[Act.put,u2,u3,u4]
    refine wpAnyH_done kr ?_ _;simp only[List.getElem_toArray,List.getElem_cons_succ,List.getElem_cons_zero,Act.put,List.setIfInBounds_toArray,List.set_cons_zero,List.set_cons_succ];go_wp2;go_roundw
    case rel=>exact⟨D.drop size,X++(mW o l m dict (q:Int) (D.take size)).text,q+1,C,by go_num,by first|rfl|(simp;done),by first|rfl|(simp [sv];done),by simp;omega,by simp;omega,by simp;omega,by simp;omega,by show _=_;rw[E.out,List.append_assoc],z,L⟩
    case measure=>simp [VP];omega
def mkC (o l m:Int)(dict d:Bs)(size:Int):Option Bs:=if fits o l m dict∧1≤size∧size≤64∧(d.length:Int)≤size*40∧d.length≤2000 then some (mkB o l m dict size.toNat 0 d) else none
theorem iO (o l m:Int)(dict d:Bs)(size:Int)(w:World)(t:dict.length≤9223372036854775807)(E:d.length≤9223372036854775807)(F: -1000000≤size)(H:size≤1000000):
 Calls prog 86 #[.agg #[o,l,m],dict,sv d,size] w fun e w'=>e=yg (mkC o l m dict d size)∧Below w.heap.size w w':=by
 have i:Hid (∀w,Calls prog 49 #[.agg #[o,l,m],dict] w fun e w'=>e= .returned (.bool (decide (fits o l m dict)))∧Below w.heap.size w w'):=fun w=>rJ o l m dict w t;have j:Below w.heap.size w (w.alloc (.cells #[o,l,m] 24)):=zx;have b:Hid (¬(fits o l m dict∧1≤size∧size≤64∧(d.length:Int)≤size*40∧d.length≤2000)→yg (mkC o l m dict d size)= .returned (.tuple #[sv [],.bool false])):=fun h=>(by unfold mkC;rw[if_neg h];rfl);have g:Hid ((fits o l m dict∧1≤size∧size≤64∧(d.length:Int)≤size*40∧d.length≤2000)→yg (mkC o l m dict d size)= .returned (.tuple #[sv (mkB o l m dict size.toNat 0 d),.bool true])):=fun h=>(by unfold mkC;rw[if_pos h];rfl);generalize yg (mkC o l m dict d size)=G at*;by_cases h1:fits o l m dict
 case neg=>
  have f:=hid (b.out (fun h=>h1 h.1));have u:decide (fits o l m dict)=false:=decide_eq_false h1;clear h1 b g;go_enter func86,ntmps86;go_wp2_with fail;refine(i.out _).mono ?_;rintro e k ⟨rfl,a⟩;have c:=j.trans (a.mono (by simp));go_wp2;go_ret2;exact⟨f.out.symm,c⟩
 have u:decide (fits o l m dict)=true:=decide_eq_true h1;by_cases h2:1≤size∧size≤64
 case neg=>
  have f:=hid (b.out (fun h=>h2 ⟨h.2.1,h.2.2.1⟩));have v:decide (1≤size∧size≤64)=false:=decide_eq_false h2;clear h1 b g;go_enter func86,ntmps86;go_wp2_with fail;refine(i.out _).mono ?_;rintro e k ⟨rfl,a⟩;have c:=j.trans (a.mono (by simp));go_wp2_with(go_at_call 117;refine(uk _ _ _ _).mono ?_;rintro e w' ⟨rfl,rfl⟩);go_ret2;exact⟨f.out.symm,c⟩
 have v:decide (1≤size∧size≤64)=true:=decide_eq_true h2;obtain⟨x,y⟩:=h2;obtain⟨n,rfl⟩:=Int.eq_ofNat_of_zero_le (by omega:0≤size);by_cases q:(d.length:Int)≤(n:Int)*40
 case neg=>
  have f:=hid (b.out (fun h=>q h.2.2.2.1));have z:(n:Int)*40<d.length:=oo;clear h1 b g;go_enter func86,ntmps86;go_wp2_with fail;refine(i.out _).mono ?_;rintro e k ⟨rfl,a⟩;have c:=j.trans (a.mono (by simp));go_wp2_with(go_at_call 117;refine(uk _ _ _ _).mono ?_;rintro e w' ⟨rfl,rfl⟩);go_ret2;exact⟨f.out.symm,c⟩
 have z:¬(n:Int)*40<d.length:=oo;by_cases p:d.length≤2000
 case neg=>
  have f:=hid (b.out (fun h=>p h.2.2.2.2));have A:(2000:Int)<d.length:=oo;clear h1 b g;go_enter func86,ntmps86;go_wp2_with fail;refine(i.out _).mono ?_;rintro e k ⟨rfl,a⟩;have c:=j.trans (a.mono (by simp));go_wp2_with(go_at_call 117;refine(uk _ _ _ _).mono ?_;rintro e w' ⟨rfl,rfl⟩);go_ret2;exact⟨f.out.symm,c⟩
 have A:¬(2000:Int)<d.length:=oo;have r:=hid (g.out ⟨h1,x,y,q,p⟩);have C:Hid (∀w,Calls prog 118 #[.agg #[o,l,m],dict,.int .i64 0,sv d,(n:Int)] w fun e w'=>e= .returned (sv (mkB o l m dict n 0 d))∧Below w.heap.size w w'):=fun w=>TC o l m dict n 0 d w h1 oo oo p oo;rw[Int.toNat_natCast] at r;clear h1 b g;generalize mkB o l m dict n 0 d=R at*;go_enter func86,ntmps86;go_wp2_with fail;have D:=Bk.new w #[o,l,m] 24;refine(i.out _).mono ?_;rintro e k ⟨rfl,a⟩;have c:=j.trans (a.mono (by simp));have I:=(D.below a (by simp)).cell;go_wp2_with(first|(go_at_call 117;refine(uk _ _ _ _).mono ?_;rintro e w' ⟨rfl,rfl⟩)|(go_at_call 118;refine(C.out _).mono ?_;rintro e J ⟨rfl,s⟩;have K:=s.size));go_ret2;exact⟨r.out.symm,c.trans (s.mono (by have:=a.size;simp at this;omega))⟩
def mz (x:Int):Nat:=if x<0 then 0 else(8001 - x).toNat
theorem Sl.je {w:World}{A:Option Addr}{n cap size:Nat}{cs:List Value}(h:Sl w A n cap size cs){k:Nat}(hk:k<n):∃g a,A=some ⟨g,a,none⟩∧g<w.heap.size∧∀j u,cs[k*size+j]? =some u→w.cell? ⟨g,a+k*size+j,none⟩=some u:=by
 obtain⟨_,_,_,b⟩:=h;obtain⟨g,a,rfl,c,d⟩:=b oo;exact⟨g,a,rfl,c,fun j u e=>by rw[Nat.add_assoc];exact d _ _ e⟩
theorem wo :(prog.info? 122).map (fun i=>(i.zero,i.size,i.bytes))=some (some (.agg #[.int .i64 0,.bool false,.int .i64 0,.string ⟨#[]⟩]),4,40):=by kernel_rfl
theorem OG {w:World}{B:Nat}{e:TypeId}{A:Option Addr}{n cap size:Nat}{cs:List Value}(h:w.ownsRow B e size (.slice A n cap) n cs):Sl w A n cap size cs:=by
 obtain⟨a,b,h1,h2⟩:=Sl.uU h;injection h1 with e1 e2 e3
 subst e1 e3;exact h2
def bkL (b:Blk):List Value:=[.int .i64 b.num,.bool b.raw,.int .i64 b.size,.string ⟨b.body.toArray⟩]
def zU (a:List Blk):List Value:=a.flatMap bkL
theorem xJ (a:List Blk)(b:Blk):zU (a++[b])=zU a++bkL b:=by unfold zU;rw[List.flatMap_append];simp
theorem xX (a:List Blk):(zU a).length=a.length*4:=by
 induction a with
 |nil=>rfl
 |cons f fs b=>unfold zU at*;rw[List.flatMap_cons,List.length_append,b];simp [bkL];omega
theorem qo (a:List Blk)(k:Nat)(h:k<a.length):(zU a)[k*4+0]? =some (.int .i64 a[k].num)∧(zU a)[k*4+1]? =some (.bool a[k].raw)∧(zU a)[k*4+2]? =some (.int .i64 a[k].size)∧(zU a)[k*4+3]? =some (.string ⟨a[k].body.toArray⟩):=by
 have e:a=a.take k++(a[k]::a.drop (k+1)):=(by rw[List.getElem_cons_drop,List.take_append_drop]);have b:(zU (a.take k)).length=k*4:=(by rw[xX,List.length_take];omega);have c:zU a=zU (a.take k)++(bkL a[k]++zU (a.drop (k+1))):=by
  conv=>lhs;rw[e]
  unfold zU;rw[List.flatMap_append,List.flatMap_cons]
 rw[c];refine⟨?_,?_,?_,?_⟩<;>(rw[List.getElem?_append_right (by omega),b];simp [bkL])
def nM (o:Option (List Blk))(w:World)(e:Ending)(w':World):Prop:=
 ∃A cap,e= .returned (.tuple #[.slice A (o.getD []).length cap,.bool o.isSome])∧w'.ownsRow w.heap.size 122 4 (.slice A (o.getD []).length cap) (o.getD []).length (zU (o.getD []))∧Below w.heap.size w w'
theorem vK (a:List Blk)(b:Blk):zn (a++[b])=zn a+b.size:=by unfold zn;rw[List.foldl_append];rfl
theorem Blk.vz {b:Blk}(h:b.ok=true):1≤b.size∧b.size≤64∧0≤b.num∧b.num<40:=by
 obtain⟨n,r,s,d⟩:=b;rw[Blk.lC] at h;exact⟨h.2.2.1,h.2.2.2.1,h.1,h.2.1⟩
theorem vV (a:List Blk)(h:∀b ∈ a,b.ok=true):0≤zn a∧zn a≤64*a.length:=by
 induction a using y7 with
 |h0=>simp [zn]
 |h1 a b d=>
  rw[vK];have h1:=d (fun c e=>h c (by simp [e]));have h2:=Blk.vz (h b (by simp));simp;omega
theorem iD {l:Bs}{n:Nat}{a:Int}{b:List Blk}(h:(l.length:Int)≤a):y9 l (n+1) a b=if zn b≤2000 then some b else none:=by rw[y9,if_pos h]
theorem bD {l:Bs}{n:Nat}{a:Int}{b:List Blk}(h:¬(l.length:Int)≤a)(c:yO l a=true)(d:(xy l a).num=b.length):y9 l (n+1) a b=y9 l n (yV l a) (b++[xy l a]):=by
 rw[y9,if_neg h,if_pos ⟨c,d⟩]
theorem qh {l:Bs}{n:Nat}{a:Int}{b:List Blk}(h:¬(l.length:Int)≤a)(c:¬(yO l a=true∧(xy l a).num=b.length)):y9 l (n+1) a b=none:=by
 rw[y9,if_neg h,if_neg c]
theorem jH (a:List Blk)(A:Option Addr)(cap:Nat)(w:World)(l:Sl w A a.length cap 4 (zU a))(m:∀b ∈ a,b.ok=true)(J:a.length≤1000000):
 Calls prog 94 #[.slice A a.length cap] w fun e w'=>e= .returned (.int .i64 (zn a))∧Below w.heap.size w w':=by
 have n:=hid m;have K:=l.1;go_enter func94,ntmps94;go_wp2;have t:Hid (∀wr,Below w.heap.size w wr→Sl wr A a.length cap 4 (zU a)):=fun wr h=>l.below h;clear l m;go_loopw [3,8] (fun s i wr=>∃k:Nat,s= .int .i64 (zn (a.take k))∧i= .int .i64 k∧k≤a.length∧Below w.heap.size w wr) (fun _ i _=>a.length - (intOf i).toNat)
 case atStart=>exact⟨0,rfl,rfl,oo,zx⟩
 case round=>
  obtain⟨k,rfl,rfl,hk,c⟩:=hrel;have L:=c.size;have u:=vV (a.take k) (fun b c=>n.out b (List.mem_of_mem_take c));have o:(a.take k).length≤1000000:=(by simp;omega);have M:=hid o;obtain⟨N,v⟩:=u;have O:zn (a.take k)≤64000000:=oo;clear v o;by_cases j:k<a.length
  ·have x:(k:Int)<a.length:=oo
   have p:=t.out wr c;obtain⟨g,P,rfl,Q,d⟩:=Sl.je p j;have f:=qo a k j;have y:=d 0 _ f.1;have z:=d 1 _ f.2.1;have C:=d 2 _ f.2.2.1;have E:=d 3 _ f.2.2.2;clear d f p;have F:=Blk.vz (n.out a[k] (List.getElem_mem j));obtain⟨G,H,_,_⟩:=F;have q:Hid (zn (a.take (k+1))=zn (a.take k)+a[k].size):=(by show _=_;rw[List.take_succ_eq_append_getElem j,vK]);generalize a[k]=b at*;obtain⟨R,r,T,D⟩:=b;simp only[Nat.add_zero] at y z C E G H q;generalize zn (a.take k)=S at*;go_wp2;go_roundw
   case rel=>exact⟨k+1,(by rw[q.out]),by go_num,by omega,zx⟩
   case measure=>simp [intOf];omega
  ·have x:¬(k:Int)<a.length:=oo
   have I:Hid (zn (a.take k)=zn a):=(by show _=_;rw[List.take_of_length_le (by omega)]);go_wp2;go_ret;exact⟨yP I.out,c⟩
theorem qc (l:Bs)(w:World)(J:l.length≤1500000):
 Calls prog 62 #[l] w (nM (zX l) w):=by
 obtain⟨i,X,Y,Z,a0⟩:=info_parts wo;have K:Hid (zX l=y9 l (l.length+1) 0 []):=rfl;generalize zX l=G at*;have HR:Hid (nM G w=nM G w):=rfl;go_enter func62,ntmps62;go_wp2;go_loopw [4,5] (fun a b wr=>∃(A:Option Addr) (cap m x:Nat) (c:List Blk),a= .slice A c.length cap∧b= .int .i64 x∧x≤l.length∧l.length<m+x∧10*c.length≤x∧Hid (∀b ∈ c,b.ok=true)∧Hid (G=y9 l m x c)∧wr.ownsRow w.heap.size 122 4 (.slice A c.length cap) c.length (zU c)∧Below w.heap.size w wr) (fun _ b _=>l.length - (intOf b).toNat)
 case atStart=>exact⟨none,0,l.length+1,0,[],rfl,rfl,by omega,by omega,by simp,fun b f=>(by cases f),K,⟨by simp [zU],.inl ⟨rfl,rfl⟩⟩,zx⟩
 case round=>
  obtain⟨A,cap,m,x,c,rfl,rfl,hx,hm,ha,L,o,p,f⟩:=hrel;have b7:=f.size;clear K;obtain⟨C,rfl⟩:∃C,m=C+1:=⟨m - 1,oo⟩;by_cases b8:x<l.length
  ·have a1:(x:Int)<l.length:=oo
   have v:¬(l.length:Int)≤(x:Int):=oo;by_cases q:yO l x=true
   ·have a2:=gY q
    obtain⟨_,b9,b',M⟩:=a2;have s:=fun w=>UR l x w oo oo oo q;have E:Hid ((xy l x).num=c.length→G=y9 l C (yV l x) (c++[xy l x])):=fun h=>(by rw[o.out,bD v q h]);have F:Hid (¬(xy l x).num=c.length→G=none):=fun h=>(by rw[o.out,qh v (fun h2=>h h2.2)]);clear q o v;have a3:=hid M;clear M;generalize xy l x=b at*;generalize yV l x=ex at*;obtain⟨a5,rfl⟩:=Int.eq_ofNat_of_zero_le (by omega:0≤ex);obtain⟨g,r,j,D⟩:=b;simp only at E F;by_cases t:g=c.length
    ·have hd:(g != (c.length:Int))=false:=by simpa using t
     have n:=hid (E.out t);clear E F t;have a7:c.length+1≤maxLen:=(by unfold maxLen;omega);have a8:(c.length+1)*40≤140737488355328:=oo;go_wp2_with fail;refine(s _).mono ?_;rintro e y ⟨rfl,d⟩;have I:=d.size;have z:=(zf p d).alloc (.cells (bkC ⟨g,r,j,D⟩) 122);have u:Below w.heap.size w (y.alloc (.cells (bkC ⟨g,r,j,D⟩) 122)):=by
      have h:=f.trans (d.mono oo);exact zx
     clear s d f p;go_wp2_with(at_builtin;go_must(refine zQ _ rfl _ _ 97 rfl (w.heap.size) 122 i _ 4 40 underlying97 X Y Z a0 rfl (by omega) _ _ _ rfl (z.alloc _) _ 1 1 [.int .i64 g,.bool r,.int .i64 j,.string ⟨D.toArray⟩] rfl (Sl.newAt (y.alloc (.cells (bkC ⟨g,r,j,D⟩) 122)) #[g,.bool r,j,D] _ 1 4 (by first|rfl|simp) (by simp) (by omega)) (by simp [Value.oneCell']) a7 a8 ?_ ?_));try(case refine_1=>first|omega|(simp<;>omega;done))
     intro N O w3 P Q _;have g3:=yz u Q (by simp;omega) (fun k hk=>by have:=(z.lt k hk).1;omega);have b0:w3.ownsRow w.heap.size 122 4 (.slice N (c++[(⟨g,r,j,D⟩:Blk)]).length O) (c++[(⟨g,r,j,D⟩:Blk)]).length (zU (c++[(⟨g,r,j,D⟩:Blk)])):=by
      rw[xJ,List.length_append];exact P
     have R:(c++[(⟨g,r,j,D⟩:Blk)]).length=c.length+1:=(by simp);have S:=hid R;have b1:Hid (∀b ∈ c++[(⟨g,r,j,D⟩:Blk)],b.ok=true):=fun b f=>by
      rcases List.mem_append.1 f with h|h
      ·exact L.out b h
      ·simp at h;subst h;exact a3.out
     clear P Q z u R;go_wp2;go_roundw
     case rel=>exact⟨N,O,C,a5,_,(by rw[S.out]),rfl,by omega,by omega,by rw[S.out];omega,b1,n,b0,g3⟩
     case measure=>simp [intOf];omega
    ·have hd:(g != (c.length:Int))=true:=by simpa using t
     have n:=hid (F.out t);clear E F t;go_wp2_with fail;refine(s _).mono ?_;rintro e y ⟨rfl,d⟩;have I:=d.size;have u:=f.trans (d.mono oo);clear s d f p;go_wp2;go_ret2;have h:=n.out;subst h;exact⟨none,0,rfl,⟨by simp [zU],.inl ⟨rfl,rfl⟩⟩,zx⟩
   ·have T:yO l x=false:=by simpa using q
    have s:=fun w=>Q8 l x w oo oo oo T;have n:Hid (G=none):=(by show _=_;rw[o.out,qh v (fun h=>q h.1)]);clear q T o v;go_wp2_with fail;refine(s _).mono ?_;rintro e y ⟨rfl,d⟩;have I:=d.size;have u:=f.trans (d.mono oo);clear s d f p;go_wp2;go_ret2;have h:=n.out;subst h;exact⟨none,0,rfl,⟨by simp [zU],.inl ⟨rfl,rfl⟩⟩,zx⟩
  ·have a1:¬(x:Int)<l.length:=oo
   have H:Hid (G=if zn c≤2000 then some c else none):=(by show _=_;rw[o.out,iD (by omega)]);have U:=fun w J=>jH c A cap w J L.out oo;have V:=hid U;clear o U;go_wp2_with fail;refine(V.out _ (OG p)).mono ?_;rintro e y ⟨rfl,d⟩;have I:=d.size;have u:=f.trans (d.mono oo);have z:=zf p d;clear d f p V;by_cases W:zn c≤2000
   ·have b2:¬2000<zn c:=oo
    have n:Hid (G=some c):=(by show _=_;rw[H.out,if_pos W]);clear H;go_wp2;go_ret2;have h:=n.out;subst h;exact⟨A,cap,rfl,z,u⟩
   ·have b2:2000<zn c:=oo
    have n:Hid (G=none):=(by show _=_;rw[H.out,if_neg W]);clear H;go_wp2;go_ret2;have h:=n.out;subst h;exact⟨none,0,rfl,⟨by simp [zU],.inl ⟨rfl,rfl⟩⟩,zx⟩
theorem qm (l:Bs)(w:World)(hs:l.length≤1500000):
 Calls prog 119 #[l] w (nM (zX l) w):=by
 obtain⟨i,hi,a1,a2,a3⟩:=info_parts wo;have K:Hid (zX l=y9 l (l.length+1) 0 []):=rfl;generalize zX l=G at*;go_enter func119,ntmps119;go_wp2;have L:=vP (base:=w.heap.size) (size:=4) (Bk.new w #[] 122) (Nat.le_refl _);go_loopw [4,5,6] (fun a a4 b wr=>∃(A:Option Addr) (cap m x:Nat) (c:List Blk),a= .slice A c.length cap∧a4= .int .i64 (zn c)∧b= .int .i64 x∧x≤l.length∧l.length<m+x∧10*c.length≤x∧Hid (∀b ∈ c,b.ok=true)∧Hid (G=y9 l m x c)∧wr.ownsRow w.heap.size 122 4 (.slice A c.length cap) c.length (zU c)∧Below w.heap.size w wr) (fun _ _ b _=>l.length - (intOf b).toNat)
 case atStart=>exact⟨_,0,l.length+1,0,[],rfl,rfl,rfl,by omega,by omega,by simp,fun b j=>(by cases j),K,L,zx⟩
 case round=>
  obtain⟨A,cap,m,x,c,rfl,rfl,rfl,hx,hm,ha,M,o,s,j⟩:=hrel;have c6:=j.size;clear K L;have a5:=vV c M.out;obtain⟨c7,a6⟩:=a5;have c8:zn c≤64*1500000:=oo;clear a6;obtain⟨y,rfl⟩:∃y,m=y+1:=⟨m - 1,oo⟩;by_cases c9:x<l.length
  ·have a7:(x:Int)<l.length:=oo
   have v:¬(l.length:Int)≤(x:Int):=oo;by_cases p:yO l x=true
   ·have a8:=gY p
    obtain⟨_,c',d0,H⟩:=a8;have q:=fun w=>UZ l x w oo oo oo p;have z:Hid ((xy l x).num=c.length→G=y9 l y (yV l x) (c++[xy l x])):=fun h=>(by rw[o.out,bD v p h]);have C:Hid (¬(xy l x).num=c.length→G=none):=fun h=>(by rw[o.out,qh v (fun h2=>h h2.2)]);clear p o v;have a9:=Blk.vz H;obtain⟨a',b0,_,_⟩:=a9;have b1:=hid H;clear H;generalize xy l x=b at*;generalize yV l x=ex at*;obtain⟨b3,rfl⟩:=Int.eq_ofNat_of_zero_le (by omega:0≤ex);obtain⟨d,r,f,D⟩:=b;simp only at z C a' b0;have b4:Hid (zn (c++[(⟨d,r,f,D⟩:Blk)])=zn c+f):=vK c ⟨d,r,f,D⟩;generalize zn c=S at*;by_cases t:d=c.length
    ·have hd:(d != (c.length:Int))=false:=by simpa using t
     have n:=hid (z.out t);clear z C t;have b6:c.length+1≤maxLen:=(by unfold maxLen;omega);have b7:(c.length+1)*40≤140737488355328:=oo;go_wp2_with fail;refine(q _).mono ?_;rintro e u ⟨rfl,g⟩;have N:=g.size;have O:=Bk.new u (bkC ⟨d,r,f,D⟩) 122;have P:=zf s g;have Q:∀k,(Value.slice A c.length cap).ownBlock=some k→k≠u.heap.size:=fun k hk=>(by have:=(P.lt k hk).2;omega);have I:=(zf s g).alloc (.cells (bkC ⟨d,r,f,D⟩) 122);have E:Below w.heap.size w (u.alloc (.cells (bkC ⟨d,r,f,D⟩) 122)):=by
      have h:=j.trans (g.mono oo);exact zx
     clear q g j s;go_wp2_with(at_builtin;go_must(refine zQ _ rfl _ _ 97 rfl (w.heap.size) 122 i _ 4 40 underlying97 hi a1 a2 a3 rfl (by omega) _ _ _ rfl (I.alloc _) _ 1 1 [.int .i64 d,.bool r,.int .i64 f,.string ⟨D.toArray⟩] rfl (Sl.newAt (u.alloc (.cells (bkC ⟨d,r,f,D⟩) 122)) #[d,.bool r,f,D] _ 1 4 (by first|rfl|simp) (by simp) (by omega)) (by simp [Value.oneCell']) b6 b7 ?_ ?_));try(case refine_1=>first|omega|(simp<;>omega;done))
     intro R T w3 U J _;have g3:=yz E J (by simp;omega) (fun k hk=>by have:=(I.lt k hk).1;omega);have V:=(O.alloc (.cells #[d,.bool r,f,D] 122)).grown J Q;have X3:=V.cell;have b':w3.ownsRow w.heap.size 122 4 (.slice R (c++[(⟨d,r,f,D⟩:Blk)]).length T) (c++[(⟨d,r,f,D⟩:Blk)]).length (zU (c++[(⟨d,r,f,D⟩:Blk)])):=by
      rw[xJ,List.length_append];exact U
     have W:(c++[(⟨d,r,f,D⟩:Blk)]).length=c.length+1:=(by simp);have X:=hid W;have c0:Hid (∀b ∈ c++[(⟨d,r,f,D⟩:Blk)],b.ok=true):=fun b j=>by
      rcases List.mem_append.1 j with h|h
      ·exact M.out b h
      ·simp at h;subst h;exact b1.out
     clear U J I E W O V Q P;go_wp2;go_roundw
     case rel=>exact⟨R,T,y,b3,_,(by rw[X.out]),(by rw[b4.out]),rfl,by omega,by omega,by rw[X.out];omega,c0,n,b',g3⟩
     case measure=>simp [intOf];omega
    ·have hd:(d != (c.length:Int))=true:=by simpa using t
     have n:=hid (C.out t);clear z C t;go_wp2_with fail;refine(q _).mono ?_;rintro e u ⟨rfl,g⟩;have N:=g.size;have E:=j.trans (g.mono oo);clear q g j s;go_wp2;go_ret2;have h:=n.out;subst h;exact⟨_,0,rfl,vP (size:=4) (Bk.newAt _ _ _ (by first|rfl|simp)) (by first|omega|(simp;omega)),zx⟩
   ·have Y:yO l x=false:=by simpa using p
    have q:=fun w=>QW l x w oo oo oo Y;have n:Hid (G=none):=(by show _=_;rw[o.out,qh v (fun h=>p h.1)]);clear p Y o v;generalize zn c=S at*;go_wp2_with fail;refine(q _).mono ?_;rintro e u ⟨rfl,g⟩;have N:=g.size;have E:=j.trans (g.mono oo);clear q g j s;go_wp2;go_ret2;have h:=n.out;subst h;exact⟨_,0,rfl,vP (size:=4) (Bk.newAt _ _ _ (by first|rfl|simp)) (by first|omega|(simp;omega)),zx⟩
  ·have a7:¬(x:Int)<l.length:=oo
   have F:Hid (G=if zn c≤2000 then some c else none):=(by show _=_;rw[o.out,iD (by omega)]);clear o;by_cases Z:zn c≤2000
   ·have c1:¬2000<zn c:=oo
    have n:Hid (G=some c):=(by show _=_;rw[F.out,if_pos Z]);clear F;go_wp2;go_ret2;have h:=n.out;subst h;exact⟨A,cap,rfl,s,j⟩
   ·have c1:2000<zn c:=oo
    have n:Hid (G=none):=(by show _=_;rw[F.out,if_neg Z]);clear F;go_wp2;go_ret2;have h:=n.out;subst h;exact⟨_,0,rfl,vP (size:=4) (Bk.newAt _ _ _ (by first|rfl|simp)) (by first|omega|(simp;omega)),zx⟩
theorem Uk (p:Bs)(n:Nat):(ByteArray.mk p.toArray).extract n p.length=⟨(p.drop n).toArray⟩:=by
 apply ByteArray.ext;simp [ByteArray.data_extract];rw[List.take_of_length_le (by simp)]
theorem Rf (r M:Nat)(b sl sm:Int)(d:Bs)(w:World)(p:Rd w r M)(G:M≤40000000)(H:d.length≤1000)(q:wM b sl sm):
 Calls prog 65 #[.pointer (some ⟨r,0,none⟩),.agg #[b,sl,sm],sv d] w fun e w'=>(∃x:Bs,e= .returned (sv x)∧x.length≤d.length+20)∧Rd w' r (M+66)∧zo w.heap.size r w w':=by
 have I:=p.lt;have s:=Bk.new w #[b,sl,sm] 24;have A:=p.alloc (.cells #[b,sl,sm] 24);have t:zo w.heap.size r w (w.alloc (.cells #[b,sl,sm] 24)):=xm zx r;go_enter func65,ntmps65;go_wp2_with fail;refine(pick_any r M 4 _ A oo oo oo).mono ?_;rintro e J ⟨⟨v,rfl,K,o⟩,m,n⟩;have C:=n.size;try simp only[World.size_alloc,World.size_setCell,World.size_drew] at C
 have c:=s.zV n oA oo;have f:=t.trans (n.mono oA);clear n t s;have L:=c.cell;by_cases u:v=0
 ·subst u
  go_wp2;go_ret;exact⟨⟨[],rfl,by simp⟩,m.mono (by omega),f⟩
 have N:(v==0)=false:=(by rw[beq_eq_false_iff_ne];exact u);by_cases g:v=1∧0<d.length
 ·obtain⟨g,O⟩:=g
  subst g;have D:(0:Int)<d.length:=oo;go_wp2_with fail;refine(pick_any r _ (d.length:Int) _ m oo oo oo).mono ?_;rintro e y ⟨⟨k,rfl,E,P⟩,i,a⟩;have j:=a.size;try simp only[World.size_alloc,World.size_setCell,World.size_drew] at j
  have z:=c.zV a oA oo;have l:=f.trans (a.mono oA);clear a f c;obtain⟨k,rfl⟩:=Int.eq_ofNat_of_zero_le E;have Q:k≤d.length:=oo;go_wp2;go_ret;exact⟨⟨d.drop k,by first|rfl|(simp only[Uk];rfl),by simp;omega⟩,i.mono (by omega),l⟩
 ·by_cases o:v=1
  ·subst o
   have D:¬(0:Int)<d.length:=by
    intro h;exact g ⟨rfl,oo⟩
   clear g;go_wp2_with fail;refine(jT r _ 20 b sl sm _ m oo oo q).mono ?_;rintro e y ⟨⟨x,rfl,F⟩,i,a⟩;have j:=a.size;try simp only[World.size_alloc,World.size_setCell,World.size_drew] at j
   have z:=c.zV a oA oo;have l:=f.trans (a.mono oA);clear a f c;go_wp2;go_ret;exact⟨⟨x,rfl,oo⟩,i.mono oo,l⟩
  ·have R:(v==1)=false:=by rw[beq_eq_false_iff_ne];exact o
   clear g;go_wp2_with fail;refine(jT r _ 20 b sl sm _ m oo oo q).mono ?_;rintro e y ⟨⟨x,rfl,F⟩,i,a⟩;have j:=a.size;try simp only[World.size_alloc,World.size_setCell,World.size_drew] at j
   have z:=c.zV a oA oo;have l:=f.trans (a.mono oA);clear a f c;go_wp2;go_ret;exact⟨⟨x,rfl,oo⟩,i.mono oo,l⟩
theorem Vj (r M:Nat)(w:World)(C:Rd w r M)(hM:M≤30000000):
 Calls prog 37 #[.pointer (some ⟨r,0,none⟩)] w fun e w'=>(∃(o l m:Int) (x:Bs),e= .returned (.tuple #[.agg #[o,l,m],sv x])∧wM o l m∧x.length≤40)∧Rd w' r (M+111)∧zo w.heap.size r w w':=by
 have q:=C.lt;have D:=Bk.new w #[.int .i64 0,.int .i64 0,.int .i64 0] 24;have N:=C.alloc (.cells #[.int .i64 0,.int .i64 0,.int .i64 0] 24);have E:zo w.heap.size r w (w.alloc (.cells #[.int .i64 0,.int .i64 0,.int .i64 0] 24)):=xm zx r;go_enter func37,ntmps37;go_wp2_with fail;refine(SN r M _ N oo).mono ?_;rintro e i ⟨⟨o,l,m,rfl,s⟩,F,j⟩;have O:=j.size;try simp only[World.size_alloc,World.size_setCell,World.size_drew] at O
 have t:=D.zV j oA oo;have G:=E.trans (j.mono oA);clear j E D;have c:=Bk.new i #[o,l,m] 24;have P:=t.alloc (.cells #[o,l,m] 24);have Q:=F.alloc (.cells #[o,l,m] 24);have R:=G.alloc oo (.cells #[o,l,m] 24);have a:=c.cell;have H:=c.free;go_wp2_with fail;have T:w.heap.size<i.heap.size:=t.lt;obtain⟨d,U⟩:∃d,i.heap.size=d:=⟨_,rfl⟩;rw[U] at c a H T;have V:=c.lt;generalize i.alloc (.cells #[o,l,m] 24)=u at*;clear F G t H;refine wp_region_held_drew (S:=(fun w'=>w'.cell? ⟨d,0,none⟩=some (.int .i64 o)∧w'.cell? ⟨d,1,none⟩=some (.int .i64 l)∧w'.cell? ⟨d,2,none⟩=some (.int .i64 m))) kr ?_ (fun y=> ?_);focus((refine⟨?_,?_,?_⟩;all_goals first|(simp [f];done)|(simp [g];done)|(simp [h];done)|(simp [a];done)))
 refine tk 0 ?_;refine tk 1 ?_;refine tk 2 ?_;refine tk 3 ?_;refine tk 4 ?_;try simp only[Act.put,u2,u3,u4]
 refine rd1 5 fun I b=> ?_;go_simp
 (go_at_call 66;refine(jT r _ 12 o l m _ Q.drew oo oo s).mono ?_;rintro e W ⟨⟨X,rfl,a8⟩,Y,k⟩;have z7:u.heap.size≤W.heap.size:=k.size;have J:=c.drew.zV k V oo;have Z:=P.drew.zV k (by show _<u.heap.size;omega) oo;have g7:=R.drew.trans (k.mono (by show _≤u.heap.size;omega));have h:=J.cell)
 refine b.out _ _ (by(refine⟨?_,?_,?_⟩;all_goals first|(simp [f];done)|(simp [g];done)|(simp [h];done)|(simp [a];done))) fun y=> ?_;try simp only[Act.put,u2,u3,u4]
 refine rd1 6 fun I b=> ?_;go_simp
 (go_at_call 65;refine(Rf r _ o l m X _ Y (by omega) (by omega) s).mono ?_;rintro e K ⟨⟨x,rfl,hx⟩,z,n⟩;have z8:=n.size;have L:=J.zV n (by omega) (by omega);have A:=Z.zV n (by omega) (by omega);have g8:=g7.trans (n.mono (by omega));have g:=L.cell;have a2:=A.free;have a3:=A.cell;have f:=(((L.far (p:=⟨w.heap.size,0,none⟩) (by simp;omega) (.int .i64 o)).far (p:=⟨w.heap.size,1,none⟩) (by simp;omega) (.int .i64 l)).far (p:=⟨w.heap.size,2,none⟩) (by simp;omega) (.int .i64 m)).cell)
 refine b.out _ _ (by(refine⟨?_,?_,?_⟩;all_goals first|(simp [f];done)|(simp [g];done)|(simp [h];done)|(simp [a];done))) fun y=> ?_;try simp only[Act.put,u2,u3,u4]
 refine rd1 7 fun I b=> ?_;go_simp;refine b.out _ _ (by(refine⟨?_,?_,?_⟩;all_goals first|(simp [f];done)|(simp [g];done)|(simp [h];done)|(simp [a];done))) fun y=> ?_;try simp only[Act.put,u2,u3,u4]
 refine tk 8 ?_;try simp only[Act.put,u2,u3,u4]
 refine wpAnyH_done kr ?_ _;simp only[List.getElem_toArray,List.getElem_cons_succ,List.getElem_cons_zero,Act.put,List.setIfInBounds_toArray,List.set_cons_zero,List.set_cons_succ];have a4:=(((A.set 0 (.int .i64 o)).set 1 (.int .i64 l)).set 2 (.int .i64 m)).cell;replace z:=z.mono (show _≤M+111 by omega);clear b f g h a a3 a2;go_wp2;have R9:Rd (((K.setCell ⟨w.heap.size,0,none⟩ (.int .i64 o)).setCell ⟨w.heap.size,1,none⟩ (.int .i64 l)).setCell ⟨w.heap.size,2,none⟩ (.int .i64 m)) r (M+111):=Rd.far (Rd.far (Rd.far z q _) q _) q _;have g9:zo w.heap.size r w (((K.setCell ⟨w.heap.size,0,none⟩ (.int .i64 o)).setCell ⟨w.heap.size,1,none⟩ (.int .i64 l)).setCell ⟨w.heap.size,2,none⟩ (.int .i64 m)):=zo.setCell (zo.setCell (zo.setCell g8 (.inr (Nat.le_refl _)) _) (.inr (Nat.le_refl _)) _) (.inr (Nat.le_refl _)) _;exact bodyPost_ret (v:=.tuple #[.agg #[o,l,m],sv x]) (by simp [results,results37,go_sem,a4]) rfl ⟨⟨o,l,m,x,rfl,s,by omega⟩,R9,g9⟩
end Go.Proofs.YtoedhpcmgondjaaGreatDoor
namespace Go.Proofs.YtoedhpcmgondjaaGreatDoor
open Go.RowKit
set_option maxRecDepth 100000
def Blk.dat (K:Kn)(b:Blk):Option Bs:=
 if b.raw=true then some b.body else
 if(uO K b.body).2.1≠0∨(uO K b.body).2.2≠b.body.length∨((uO K b.body).1.length:Int)≠b.size then none else some (uO K b.body).1
def x9 (o:Option Bs):Ending:=.returned (.tuple #[sv (o.getD []),.bool o.isSome])
end Go.Proofs.YtoedhpcmgondjaaGreatDoor
namespace Go.Proofs.YtoedhpcmgondjaaGreatDoor
open Go.RowKit
set_option maxRecDepth 100000
attribute [local go_sem high] zA zB zD zS zL yf zC zk zl zt zi zu yR zG yu zH
theorem WL (p:Bs)(n:Nat):(ByteArray.mk p.toArray).extract n p.length=⟨(p.drop n).toArray⟩:=by
 rw[ByteArray.extract_mk];simp;rw[List.take_of_length_le (by simp)]
section
variable {B : Nat}
end
def Apart (v a:Value):Prop:=∀k,v.ownBlock=some k→a.ownBlock=some k→False
theorem Apart.symm {v a:Value}(h:Apart v a):Apart a v:=fun k h1 h2=>h k h2 h1
end Go.Proofs.YtoedhpcmgondjaaGreatDoor
namespace Go.Proofs.YtoedhpcmgondjaaGreatDoor
open Go.RowKit
def xH (K:Kn)(n:Int)(d:Bs):Blk:=match vJ K d with
 |some s=>if s.length<d.length then⟨n,false,d.length,s⟩ else⟨n,true,d.length,d⟩
 |none=>⟨n,true,d.length,d⟩
theorem Ko (o l m:Int)(dict:Bs)(n:Int)(d:Bs):mW o l m dict n d=xH (zy o l m dict) n d:=rfl
theorem YT {K:Kn}{n:Int}{d s:Bs}(h:vJ K d=some s):xH K n d=if s.length<d.length then⟨n,false,d.length,s⟩ else⟨n,true,d.length,d⟩:=by unfold xH;rw[h]
theorem YU {K:Kn}{n:Int}{d:Bs}(h:vJ K d=none):xH K n d=⟨n,true,d.length,d⟩:=by unfold xH;rw[h]
theorem dD (K:Kn)(n:Int)(d:Bs):(xH K n d).size=d.length:=by
 unfold xH;split
 ·split<;>rfl
 ·rfl
theorem VS (K:Kn)(n:Int)(d:Bs)(k:Int):({ xH K n d with num:=k } :Blk)=xH K k d:=by
 unfold xH;split
 ·split<;>rfl
 ·rfl
theorem OB (K:Kn)(c:Int)(r:List Int)(a:1≤K.width):1≤(K.bits (c::r)).length:=by
 unfold Kn.bits;rw[oP,List.zip_cons_cons,List.flatMap_cons,List.length_append,xB];simp only;omega
theorem OT {K:Kn}(hk:K.ok)(d:Bs):1≤(K.comp d).length:=by
 unfold Kn.comp;rw[gW];have h:1≤(K.bits (K.yh d)).length:=(by unfold Kn.yh;exact OB K _ _ (l9 hk).1);omega
theorem Wy {K:Kn}(hk:K.ok){n:Int}(h0:0≤n)(h1:n<40){d:Bs}(c:1≤d.length)(e:d.length≤64):(xH K n d).ok=true:=by
 have b:(⟨n,true,(d.length:Int),d⟩:Blk).ok=true:=by rw[Blk.lC];simp;omega
 cases a:vJ K d with
 |none=>rw[YU a];exact b
 |some s=>
  rw[YT a];split
  ·rename_i f
   have g:1≤s.length:=by
    unfold vJ at a;split at a
    ·injection a with a;rw[←a];exact OT hk d
    ·cases a
   rw[Blk.lC];simp;omega
  ·exact b
def chunks (size:Nat):Nat→Bs→List Bs
 |0,_=>[]
 |n+1,d=>if d=[] then[] else d.take size::chunks size n (d.drop size)
theorem qL (size n:Nat):chunks size n []=[]:=by
 cases n with
 |zero=>rfl
 |succ n=>unfold chunks;rw[if_pos rfl]
theorem kF (size n:Nat){d:Bs}(h:d≠[]):chunks size (n+1) d=d.take size::chunks size n (d.drop size):=by rw[chunks,if_neg h]
theorem oZ (size:Nat)(b:1≤size):∀(n:Nat) (d:Bs),∀x ∈ chunks size n d,1≤x.length∧x.length≤size
 |0,d,x,h=>by cases h
 |n+1,d,x,h=>by
  by_cases a:d=[]
  ·rw[a,qL] at h;cases h
  ·have c:=List.length_pos_iff.2 a
   rw[kF _ _ a] at h;rcases List.mem_cons.1 h with rfl|h
   ·rw[List.length_take];omega
   ·exact oZ size b n _ x h
theorem uQ (size:Nat)(b:1≤size):∀(k n:Nat) (d:Bs),d.length≤k*size→(chunks size n d).length≤k
 |0,n,d,h=>by
  have:d=[]:=List.eq_nil_of_length_eq_zero oo;rw[this,qL];simp
 |k+1,0,d,h=>by simp [chunks]
 |k+1,n+1,d,h=>by
  by_cases a:d=[]
  ·rw[a,qL];simp
  ·rw[kF _ _ a,List.length_cons]
   have:=uQ size b k n (d.drop size) (by rw[List.length_drop];rw[Nat.add_mul] at h;omega);omega
theorem mg (size:Nat)(b:1≤size):∀(n:Nat) (d:Bs),d.length≤n→((chunks size n d).flatten=d)
 |0,d,h=>by
  have:d=[]:=List.eq_nil_of_length_eq_zero oo;rw[this];rfl
 |n+1,d,h=>by
  by_cases a:d=[]
  ·rw[a,qL];rfl
  ·have c:=List.length_pos_iff.2 a
   rw[kF _ _ a,List.flatten_cons,mg size b n _ (by rw[List.length_drop];omega),List.take_append_drop]
def mks (K:Kn)(size n:Nat)(d:Bs):List Blk:=(chunks size n d).map (xH K 0)
theorem XC (K:Kn)(size n:Nat):mks K size n []=[]:=by unfold mks;rw[qL];rfl
theorem UT (K:Kn)(size n:Nat){d:Bs}(h:d≠[]):mks K size (n+1) d=xH K 0 (d.take size)::mks K size n (d.drop size):=by unfold mks;rw[kF _ _ h];rfl
theorem Yg {K:Kn}(hk:K.ok)(size n:Nat)(c:1≤size)(f:size≤64)(d:Bs):∀b ∈ mks K size n d,b.ok=true:=by
 intro b a;unfold mks at a;obtain⟨x,e,rfl⟩:=List.mem_map.1 a;have h:=oZ size c n d x e;exact Wy hk oo oo h.1 oo
theorem QM (K:Kn)(a:List Bs):zn (a.map (xH K 0))=(a.flatten.length:Int):=by
 induction a with
 |nil=>rfl
 |cons x a b=>rw[List.map_cons,ry,b,dD,List.flatten_cons,List.length_append];omega
theorem Xx (K:Kn)(size n:Nat)(a:1≤size)(d:Bs)(h:d.length≤n):zn (mks K size n d)=(d.length:Int):=by
 unfold mks;rw[QM,mg size a n d h]
def vI :Nat→List Blk→List Blk
 |_,[]=>[]
 |f,b::a=> { b with num:=(f:Int) } ::vI (f+1) a
theorem dX (f:Nat)(a:List Blk):(vI f a).length=a.length:=by
 induction a generalizing f with
 |nil=>rfl
 |cons b a c=>simp [vI,c]
theorem Xh (f:Nat)(a:List Blk)(b:Blk):vI f (a++[b])=vI f a++[{ b with num:=((f+a.length:Nat):Int) }]:=by
 induction a generalizing f with
 |nil=>simp [vI]
 |cons c a d=>rw[List.cons_append,vI,d,vI,List.cons_append,List.length_cons];congr 4;omega
theorem aJ (f:Nat)(a:List Blk):zn (vI f a)=zn a:=by
 induction a generalizing f with
 |nil=>rfl
 |cons b a c=>rw[vI,ry,ry,c]
theorem U4 {b:Blk}(h:b.ok=true){n:Int}(h0:0≤n)(h1:n<40):({ b with num:=n } :Blk).ok=true:=by
 rw[Blk.lC] at*;obtain⟨x,r,s,t⟩:=b;simp only at*;exact⟨h0,h1,h.2.2⟩
theorem Yh (o l m:Int)(dict:Bs)(size:Nat):∀(n f:Nat) (d:Bs),YI o l m dict size n f d=wW (vI f (mks (zy o l m dict) size n d))
 |0,f,d=>rfl
 |n+1,f,d=>by
  by_cases a:d=[]
  ·rw[a,gG,XC];rfl
  ·rw[Ql _ _ _ _ _ _ _ _ a,UT _ _ _ a,vI,oM,VS,Yh o l m dict size n (f+1),Ko]
def mcO (a:List Blk):Option Bs:=if a.length≤40∧zn a≤2000 then some (wW (vI 0 a)) else none
theorem MW (o l m:Int)(dict d:Bs)(size:Nat)(a:1≤size)(b:d.length≤40*size)(h2:d.length≤2000):mcO (mks (zy o l m dict) size d.length d)=some (mkB o l m dict size 0 d):=by
 unfold mcO;rw[if_pos ⟨by unfold mks;rw[List.length_map];exact uQ size a 40 _ d b,by rw[Xx _ _ _ a d (Nat.le_refl _)];omega⟩];unfold mkB;rw[Yh]
