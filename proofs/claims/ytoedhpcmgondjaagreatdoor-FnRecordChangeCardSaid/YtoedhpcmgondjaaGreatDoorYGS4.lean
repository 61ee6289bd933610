import Derived.Test.YtoedhpcmgondjaaGreatDoorYGS3
import Derived.Test.YtoedhpcmgondjaaGreatDoorYGP1
import Derived.Test.YtoedhpcmgondjaaGreatDoorYGD1
import Derived.Test.YtoedhpcmgondjaaGreatDoorYGT
set_option linter.all false
set_option maxHeartbeats 8000000
namespace Go.Proofs.YtoedhpcmgondjaaGreatDoor
open Go.Lib(hid)
open Go.RowKit Go.Proofs.Tryz
set_option maxRecDepth 100000
attribute [local instance] mU hZ cvZ
attribute [local go_sem high] zG zF zH zV zN yu zD zl zn zt zi zu y9 zK yE zJ
theorem OJ (o l m:Int)(w:World)(j:vk o l m):
 Calls prog 207 #[.agg #[(o:Int),l,m]] w fun e w'=>e= .returned (.tuple #[knV (uC o l m) none 0,.bool true])∧Below w.heap.size w w':=by
 have p:decide (vk o l m)=true:=decide_eq_true j;go_enter func207,ntmps207;go_wp2_with fail;refine(sQ _ _ _ _).mono ?_;rintro e q ⟨rfl,a⟩;have f:Bk ((w.alloc (.cells #[(o:Int),l,m] 24)).alloc (.cells knZ 94)) w.heap.size 24 #[(o:Int),l,m]:=tBk;have c:Bk ((w.alloc (.cells #[(o:Int),l,m] 24)).alloc (.cells knZ 94)) (w.heap.size+1) 94 knZ:=tBk;have g:Below w.heap.size w ((w.alloc (.cells #[(o:Int),l,m] 24)).alloc (.cells knZ 94)):=zy;generalize(w.alloc (.cells #[(o:Int),l,m] 24)).alloc (.cells knZ 94)=r at*;have s:=c.lt;have k:=f.below a oo;have d:=c.below a oo;have n:=g.trans (a.mono oo);have t:=k.cell;have u:=d.free;have x:=d.cell;clear f c g a;go_wp2;have h:=(vw d (uC o l m) none 0).cell;have i:=yC n (b:=w.heap.size+1) oo (uC o l m) none 0;simp only[uC,List.length_nil] at h i;exact bodyPost_ret (v:=.tuple #[knV (uC o l m) none 0,.bool true]) (by simp [results,results207,go_sem,h,uC]) rfl ⟨rfl,i⟩
def l7 (K:Kn)(w:World)(e:Ending)(w':World):Prop:=∃A cap,e= .returned (.tuple #[knV K A cap,.bool true])∧w'.ownsRow w.heap.size 173 2 (.slice A K.ps.length cap) K.ps.length (psV K.ps)∧Below w.heap.size w w'
theorem Yl (K:Kn)(A:Option Addr)(cap:Nat)(d:Bs)(w:World)(hk:K.ok)(n:Sl w A K.ps.length cap 2 (psV K.ps))(i:fits K.o K.l K.m d):
 Calls prog 208 #[knV K A cap,d] w (l7 (K.learn d) w):=by
 have M:decide (fits K.o K.l K.m d)=true:=decide_eq_true i;have N:d.length≤2000:=i.2.1;have E:Hid (∀wr,Below w.heap.size w wr→Calls prog 211 #[knV K A cap] wr fun e w'=>e= .returned (.bool true)∧Below wr.heap.size wr w'):=fun wr h=>pG K A cap wr hk (n.below h);have F:Hid (∀wr,Below w.heap.size w wr→Calls prog 231 #[knV K A cap,d] wr (og (K.learn d) wr)):=fun wr h=>Si K A cap d wr hk (n.below h) oo i.2.2;clear n i;generalize K.learn d=j at*;go_enter func208,ntmps208;go_wp2_with fail;have x:Bk ((w.alloc (.cells (knC K A cap) 94)).alloc (.cells knZ 94)) w.heap.size 94 (knC K A cap):=tBk;have p:Bk ((w.alloc (.cells (knC K A cap) 94)).alloc (.cells knZ 94)) (w.heap.size+1) 94 knZ:=tBk;have q:Below w.heap.size w ((w.alloc (.cells (knC K A cap) 94)).alloc (.cells knZ 94)):=zy;generalize(w.alloc (.cells (knC K A cap) 94)).alloc (.cells knZ 94)=O at*;refine(E.out _ q).mono ?_;rintro e P ⟨rfl,a⟩;have Q:=p.lt;have R:=a.size;have r:=x.below a oo;have y:=p.below a oo;have z:=q.trans (a.mono oo);have s:=r.cell;clear x p q a;go_wp2_with fail;refine(qm _ _ _ _ _ oo).mono ?_;rintro e S ⟨rfl,c⟩;have T:=c.size;have C:=r.below c oo;have D:=y.below c oo;have t:=z.trans (c.mono oo);clear s;have s:=C.cell;clear r y z c;go_wp2_with fail;refine(F.out _ t).mono ?_;rintro e U ⟨f,g,rfl,G,k⟩;have V:=k.size;have u:=D.below k oo;have H:=t.trans (k.mono oo);have W:=u.free;have X:=u.cell;clear C D t k s;go_wp2;have I:=(vw u j f g).cell;have J:=yC H (b:=w.heap.size+1) oo j f g;have L:=zI (B':=w.heap.size) (yI G (b:=w.heap.size+1) oo j f g) oo;exact bodyPost_ret (v:=.tuple #[knV j f g,.bool true]) (by simp [results,results208,go_sem,I]) rfl ⟨f,g,rfl,L,J⟩
theorem iy (o l m:Int)(d:Bs)(w:World)(f:fits o l m d):
 Calls prog 180 #[.agg #[(o:Int),l,m],d] w (l7 (zA o l m d) w):=by
 have t:Hid (∀w,Calls prog 207 #[.agg #[(o:Int),l,m]] w fun e w'=>e= .returned (.tuple #[.agg #[(o:Int),l,m,.slice none 0 0,.int .i64 0,.int .i64 (-1)],.bool true])∧Below w.heap.size w w'):=fun w=>OJ o l m w f.1;have u:Hid (∀w,Calls prog 208 #[.agg #[(o:Int),l,m,.slice none 0 0,.int .i64 0,.int .i64 (-1)],d] w (l7 (zA o l m d) w)):=fun w=>Yl (uC o l m) none 0 d w (jM f.1) (Sl.nil _ _) f;clear f;generalize zA o l m d=g at*;go_enter func180,ntmps180;go_wp2_with fail;have x:Bk ((w.alloc (.cells #[(o:Int),l,m] 24)).alloc (.cells knZ 94)) w.heap.size 24 #[(o:Int),l,m]:=tBk;have j:Bk ((w.alloc (.cells #[(o:Int),l,m] 24)).alloc (.cells knZ 94)) (w.heap.size+1) 94 knZ:=tBk;have p:Below w.heap.size w ((w.alloc (.cells #[(o:Int),l,m] 24)).alloc (.cells knZ 94)):=zy;generalize(w.alloc (.cells #[(o:Int),l,m] 24)).alloc (.cells knZ 94)=H at*;refine(t.out _).mono ?_;rintro e y ⟨rfl,h⟩;have I:=j.lt;have J:=h.size;have q:=(j.below h oo).alloc (.cells #[(o:Int),l,m,.slice none 0 0,.int .i64 0,.int .i64 (-1)] 94);have k:=Bk.new y #[(o:Int),l,m,.slice none 0 0,.int .i64 0,.int .i64 (-1)] 94;have r:=(p.trans (h.mono oo)).alloc oo (.cells #[(o:Int),l,m,.slice none 0 0,.int .i64 0,.int .i64 (-1)] 94);have z:=k.cell;have s:=k.free;clear x j p h;go_wp2_with fail;refine(u.out _).mono ?_;rintro e K ⟨a,c,rfl,A,i⟩;have C:=i.size;simp only[World.size_alloc] at C;have n:=q.below i (by simp;omega);have D:=r.trans (i.mono (by simp;omega));clear z s;have s:=n.free;have L:=n.cell;clear k q r i;go_wp2;have E:=(vw n g a c).cell;have F:=yC D (b:=w.heap.size+1) oo g a c;have G:=zI (B':=w.heap.size) (yI A (b:=w.heap.size+1) (by simp;omega) g a c) (by simp;omega);exact bodyPost_ret (v:=.tuple #[knV g a c,.bool true]) (by simp [results,results180,go_sem,E]) rfl ⟨a,c,rfl,G,F⟩
def yA (o:Option Bs):Ending:=.returned (.tuple #[sv (o.getD []),.bool o.isSome])
def uh (K:Kn)(d:Bs):Option Bs:=if fits K.o K.l K.m d then some (K.comp d) else none
def UW (o l m:Int)(dict d:Bs):Option Bs:=uh (zA o l m dict) d
theorem xN {o l m:Int}{dict:Bs}(a:fits o l m dict):(zA o l m dict).ok:=(Kn.LY (jM a.1) a.2.2).1
theorem Vt (K:Kn)(A:Option Addr)(cap:Nat)(d:Bs)(w:World)(hk:K.ok)(j:Sl w A K.ps.length cap 2 (psV K.ps))(E:d.length≤9223372036854775807):
 Calls prog 182 #[knV K A cap,d] w fun e w'=>e=yA (uh K d)∧Below w.heap.size w w':=by
 have r:Hid (∀wr,Below w.heap.size w wr→Calls prog 211 #[knV K A cap] wr fun e w'=>e= .returned (.bool true)∧Below wr.heap.size wr w'):=fun wr h=>pG K A cap wr hk (j.below h);by_cases b:fits K.o K.l K.m d
 ·have s:decide (fits K.o K.l K.m d)=true:=decide_eq_true b
  have t:Hid (∀wr,Below w.heap.size w wr→Calls prog 212 #[knV K A cap,d] wr fun e w'=>e= .returned (.string ⟨(K.comp d).toArray⟩)∧Below wr.heap.size wr w'):=fun wr h=>YB K A cap d wr hk (j.below h) b.2.1 b.2.2;have p:Hid (yA (uh K d)= .returned (.tuple #[sv (K.comp d),.bool true])):=(by show _=_;unfold uh;rw[if_pos b];rfl);clear j b;generalize K.comp d=R at*;generalize yA (uh K d)=G at*;go_enter func182,ntmps182;go_wp2_with fail;have c:=Bk.new w (knC K A cap) 94;have f:Below w.heap.size w (w.alloc (.cells (knC K A cap) 94)):=zy;refine(r.out _ f).mono ?_;rintro e u ⟨rfl,a⟩;have v:=c.lt;have x:=a.size;have i:=c.below a oo;have k:=f.trans (a.mono oo);have q:=i.cell;clear c f a;go_wp2_with fail;refine(qm _ _ _ _ _ oo).mono ?_;rintro e y ⟨rfl,g⟩;have F:=g.size;have z:=i.below g oo;have n:=k.trans (g.mono oo);clear q;have q:=z.cell;clear i k g;go_wp2_with fail;refine(t.out _ n).mono ?_;rintro e H ⟨rfl,C⟩;have D:=n.trans (C.mono oo);go_wp2;go_ret2;exact⟨p.out.symm,D⟩
 ·have s:decide (fits K.o K.l K.m d)=false:=decide_eq_false b
  have p:Hid (yA (uh K d)= .returned (.tuple #[sv [],.bool false])):=(by show _=_;unfold uh;rw[if_neg b];rfl);clear j b;generalize yA (uh K d)=G at*;go_enter func182,ntmps182;go_wp2_with fail;have c:=Bk.new w (knC K A cap) 94;have f:Below w.heap.size w (w.alloc (.cells (knC K A cap) 94)):=zy;refine(r.out _ f).mono ?_;rintro e u ⟨rfl,a⟩;have v:=c.lt;have x:=a.size;have i:=c.below a oo;have k:=f.trans (a.mono oo);have q:=i.cell;clear c f a;go_wp2_with fail;refine(qm _ _ _ _ _ oo).mono ?_;rintro e y ⟨rfl,g⟩;have n:=k.trans (g.mono oo);go_wp2;go_ret2;exact⟨p.out.symm,n⟩
theorem af (o l m:Int)(dict d:Bs)(w:World)(f:fits o l m dict)(q:d.length≤9223372036854775807):
 Calls prog 155 #[.agg #[o,l,m],dict,d] w fun e w'=>e=yA (UW o l m dict d)∧Below w.heap.size w w':=by
 have r:Hid (∀w,Calls prog 180 #[.agg #[o,l,m],dict] w (l7 (zA o l m dict) w)):=fun w=>iy o l m dict w f;have hk:=xN f;unfold UW;generalize zA o l m dict=K at*;obtain⟨R,g⟩:∃R,(uh K d).getD []=R:=⟨_,rfl⟩;obtain⟨b,h⟩:∃b,(uh K d).isSome=b:=⟨_,rfl⟩;have a:yA (uh K d)= .returned (.tuple #[sv R,.bool b]):=(by unfold yA;rw[g,h]);have i:Hid (∀A cap w,Sl w A K.ps.length cap 2 (psV K.ps)→Calls prog 182 #[knV K A cap,d] w fun e w'=>e= .returned (.tuple #[sv R,.bool b])∧Below w.heap.size w w'):=fun A cap w s=>(by rw[←a];exact Vt K A cap d w hk s q);rw[a];clear a g h;go_enter func155,ntmps155;go_wp2_with fail;refine(r.out _).mono ?_;rintro e t ⟨A,cap,rfl,j,c⟩;have u:=c.size;simp only[World.size_alloc] at u;have k:=Bk.new t (knC K A cap) 94;have n:=Sl.own (j.alloc (.cells (knC K A cap) 94));have p:Below w.heap.size w (w.alloc (.cells #[o,l,m] 24)):=zy;have v:=(p.trans (c.mono (by simp))).alloc (by omega) (.cells (knC K A cap) 94);have C:=k.cell;have D:=k.free;have x:=i.out A cap _ n;clear p c j n i;go_wp2_with fail;refine x.mono ?_;rintro e E ⟨rfl,y⟩;have z:=v.trans (y.mono (by simp;omega));go_wp2;go_ret2;exact⟨rfl,z⟩
def jb (o l m:Int)(dict:Bs)(n:Int)(d:Bs):Blk:=match UW o l m dict d with
 |some s=>if s.length<d.length then⟨n,false,d.length,s⟩ else⟨n,true,d.length,d⟩
 |none=>⟨n,true,d.length,d⟩
theorem Jy (o l m:Int)(dict:Bs)(n:Int)(d:Bs)(h0:0≤n)(h1:n≤65535)(a:d.length≤65535):(jb o l m dict n d).sm:=by
 unfold jb Blk.sm;split
 ·split<;>simp only<;>omega
 ·simp only;omega
theorem Ue (o l m:Int)(dict:Bs)(n:Int)(d:Bs):(jb o l m dict n d).text.length≤10+d.length:=by
 rw[Blk.kZ];unfold jb;split
 ·split<;>simp only<;>omega
 ·simp only;omega
theorem oL (o l m:Int)(dict:Bs)(n:Int)(d:Bs)(w:World)(f:fits o l m dict)(j:d.length≤9223372036854775807):
 Calls prog 129 #[.agg #[o,l,m],dict,n,d] w fun e w'=>e= .returned (bkV (jb o l m dict n d))∧Below w.heap.size w w':=by
 have g:Hid (∀w,Calls prog 155 #[.agg #[o,l,m],dict,d] w fun e w'=>e=yA (UW o l m dict d)∧Below w.heap.size w w'):=fun w=>af o l m dict d w f j;unfold jb;clear f;generalize UW o l m dict d=O at*;go_enter func129,ntmps129;go_wp2_with fail;have b:Bk ((w.alloc (.cells #[o,l,m] 24)).alloc (.cells xZ 122)) (w.heap.size+1) 122 xZ:=tBk;have h:Below w.heap.size w ((w.alloc (.cells #[o,l,m] 24)).alloc (.cells xZ 122)):=zy;refine(g.out _).mono ?_;generalize(w.alloc (.cells #[o,l,m] 24)).alloc (.cells xZ 122)=p at*;rintro e q ⟨rfl,c⟩;have r:=b.lt;have a:=b.below c oo;have t:=h.trans (c.mono oo);have u:=a.cell;have x:=a.free;clear g c b h
 cases O with
 |none=>
  unfold yA;go_wp2;have Q:=((((a.set 0 (.int .i64 n)).set 1 (.bool true)).set 2 (.int .i64 (d.length:Int))).set 3 (.string ⟨d.toArray⟩)).cell;exact bodyPost_ret (v:=bkV ⟨n,true,d.length,d⟩) (by simp [results,results129,go_sem,Q]) rfl ⟨rfl,zy⟩
 |some s=>
  unfold yA;by_cases i:s.length<d.length
  ·have k:(s.length:Int)<d.length:=oo
   simp only[if_pos i];go_wp2;have Q:=((((a.set 0 (.int .i64 n)).set 1 (.bool false)).set 2 (.int .i64 (d.length:Int))).set 3 (.string ⟨s.toArray⟩)).cell;exact bodyPost_ret (v:=bkV ⟨n,false,d.length,s⟩) (by simp [results,results129,go_sem,Q]) rfl ⟨rfl,zy⟩
  ·have k:¬(s.length:Int)<d.length:=oo
   simp only[if_neg i];go_wp2;have Q:=((((a.set 0 (.int .i64 n)).set 1 (.bool true)).set 2 (.int .i64 (d.length:Int))).set 3 (.string ⟨d.toArray⟩)).cell;exact bodyPost_ret (v:=bkV ⟨n,true,d.length,d⟩) (by simp [results,results129,go_sem,Q]) rfl ⟨rfl,zy⟩
def UR :Value→Nat
 | .string b=>b.data.size
 |_=>0
def Xw (o l m:Int)(dict:Bs)(size:Nat):Nat→Nat→Bs→Bs
 |0,_,_=>[]
 |n+1,f,d=>if d=[] then[] else(jb o l m dict (f:Int) (d.take size)).text++Xw o l m dict size n (f+1) (d.drop size)
theorem fK (o l m:Int)(dict:Bs)(size n f:Nat):Xw o l m dict size n f []=[]:=by
 cases n with
 |zero=>rfl
 |succ n=>unfold Xw;rw[if_pos rfl]
theorem PQ (o l m:Int)(dict:Bs)(size n f:Nat)(d:Bs)(h:d≠[]):Xw o l m dict size (n+1) f d=(jb o l m dict (f:Int) (d.take size)).text++Xw o l m dict size n (f+1) (d.drop size):=by
 rw[Xw,if_neg h]
def mkB (o l m:Int)(dict:Bs)(size:Nat)(f:Nat)(d:Bs):Bs:=Xw o l m dict size d.length f d
theorem QP (o l m:Int)(dict:Bs)(size f:Nat)(d:Bs)(w:World)(M:fits o l m dict)(a3:1≤size)(a4:size≤64)(V:d.length≤2000)(a5:f≤1000):
 Calls prog 118 #[.agg #[(o:Int),l,m],dict,(f:Int),sv d,(size:Int)] w fun e w'=>e= .returned (sv (mkB o l m dict size f d))∧Below w.heap.size w w':=by
 have N:Hid (∀(n:Nat) (x:Bs) w,x.length≤2000→Calls prog 129 #[.agg #[(o:Int),l,m],dict,(n:Int),x] w fun e w'=>e= .returned (bkV (jb o l m dict n x))∧Below w.heap.size w w'):=fun n x w a6=>oL o l m dict n x w M oo;have O:Hid (∀(n:Nat) (x:Bs) w,n≤4000→x.length≤2000→Calls prog 148 #[bkV (jb o l m dict n x)] w fun e w'=>e= .returned (.string ⟨(jb o l m dict n x).text.toArray⟩)∧Below w.heap.size w w'):=fun n x w h1 h2=>fC _ w (Jy o l m dict n x oo oo oo);have P:Hid (mkB o l m dict size f d=Xw o l m dict size d.length f d):=rfl;generalize mkB o l m dict size f d=G at*;clear M;go_enter func118,ntmps118;go_wp2;have Q:=Bk.new w #[(o:Int),l,m] 24;have R:Below w.heap.size w (w.alloc (.cells #[(o:Int),l,m] 24)):=zy;go_loopw [2,3,11] (fun a b c wr=>∃(D X:Bs) (q k:Nat),a= .int .i64 (q:Int)∧b=sv D∧c=sv X∧q+D.length≤3000∧D.length≤k∧X.length+11*D.length≤22000∧D.length≤2000∧Hid (G=X++Xw o l m dict size k q D)∧Bk wr w.heap.size 24 #[(o:Int),l,m]∧Below w.heap.size w wr) (fun _ b _ _=>UR b)
 case atStart=>exact⟨d,[],f,d.length,rfl,rfl,rfl,by omega,Nat.le_refl _,by simp;omega,V,by show _=_;rw[P.out];rfl,Q,R⟩
 case round=>
  obtain⟨D,X,q,k,rfl,rfl,rfl,hq,hk,hX,hD,A,u,g⟩:=hrel;clear Q R P;have hz:=u.lt;by_cases i:D=[]
  ·subst i
   have W:Hid (G=X):=(by show _=_;rw[A.out,fK,List.append_nil]);go_wp2;go_ret;exact⟨by rw[W.out];rfl,g⟩
  ·have b0:=List.length_pos_iff.2 i
   have b1:(decide (D=[]))=false:=(by simpa using i);have b2:(D != [])=true:=(by simpa using i);obtain⟨C,rfl⟩:∃C,k=C+1:=⟨k - 1,oo⟩;have E:=hid (A.out.trans (by rw[PQ _ _ _ _ _ _ _ _ i]));by_cases b3:D.length<size
   ·have T:D.take size=D:=List.take_of_length_le oo
    have U:D.drop size=[]:=List.drop_eq_nil_of_le oo;rw[T,U,fK,List.append_nil] at E;have F:=fun w=>N.out q D w oo;have H:=fun w=>O.out q D w oo oo;have Y:=Ue o l m dict (q:Int) D;have Z:¬9223372036854775807<X.length+(jb o l m dict (q:Int) D).text.length:=oo;clear T U i A;have j:=u.cell;go_wp2_with fail;refine wp_region_held_drew (S:=(fun w'=>w'.cell? ⟨w.heap.size,0,none⟩=some (.int .i64 o)∧w'.cell? ⟨w.heap.size,1,none⟩=some (.int .i64 l)∧w'.cell? ⟨w.heap.size,2,none⟩=some (.int .i64 m))) kr ?_ (fun v=> ?_);focus((refine⟨?_,?_,?_⟩;all_goals first|(simp [p];done)|(simp [r];done)|(simp [j];done)))
    refine tk 0 ?_;refine tk 1 ?_;refine tk 2 ?_;refine tk 3 ?_;refine tk 4 ?_;refine tk 5 ?_;refine tk 6 ?_;try simp only[Act.put,u2,u3,u4]
    refine rd1 7 fun I s=> ?_;go_simp
    (go_at_call 129;refine(F _).mono ?_;rintro e J ⟨rfl,h⟩;have h:Below wr.heap.size wr J:=zB h;have z8:=h.size;have y:=u.below h oo;have K:=g.trans (h.mono oo);have r:=y.cell)
    refine s.out _ _ (by(refine⟨?_,?_,?_⟩;all_goals first|(simp [p];done)|(simp [r];done)|(simp [j];done))) fun v=> ?_;try simp only[Act.put,u2,u3,u4]
    refine rd1 8 fun I s=> ?_;go_simp
    (go_at_call 148;refine(H _).mono ?_;rintro e w9 ⟨rfl,t⟩;have z9:=t.size;have z:=y.below t oo;have L:=K.trans (t.mono oo);have p:=z.cell)
    refine s.out _ _ (by(refine⟨?_,?_,?_⟩;all_goals first|(simp [p];done)|(simp [r];done)|(simp [j];done))) fun v=> ?_;try simp only[Act.put,u2,u3,u4]
    refine tk 9 ?_;refine tk 10 ?_;try simp only[Act.put,u2,u3,u4]
    refine wpAnyH_done kr ?_ _;simp only[List.getElem_toArray,List.getElem_cons_succ,List.getElem_cons_zero,Act.put,List.setIfInBounds_toArray,List.set_cons_zero,List.set_cons_succ];go_wp2;go_roundw
    case rel=>exact⟨[],X++(jb o l m dict (q:Int) D).text,q+1,C,by go_num,by first|rfl|(simp;done),by first|rfl|(simp [sv];done),by simp;omega,by simp,by simp;omega,by simp,by show _=_;rw[E.out,fK,List.append_nil],z,L⟩
    case measure=>simp [UR];omega
   ·have b4:(D.take size).length=size:=by simp;omega
    have b5:(D.drop size).length=D.length - size:=(by simp);have F:=fun w=>N.out q (D.take size) w oo;have H:=fun w=>O.out q (D.take size) w oo oo;have Y:=Ue o l m dict (q:Int) (D.take size);have Z:¬9223372036854775807<X.length+(jb o l m dict (q:Int) (D.take size)).text.length:=oo;have b6:size≤D.length:=oo;clear i A;have j:=u.cell;go_wp2_with fail;refine wp_region_held_drew (S:=(fun w'=>w'.cell? ⟨w.heap.size,0,none⟩=some (.int .i64 o)∧w'.cell? ⟨w.heap.size,1,none⟩=some (.int .i64 l)∧w'.cell? ⟨w.heap.size,2,none⟩=some (.int .i64 m))) kr ?_ (fun v=> ?_);focus((refine⟨?_,?_,?_⟩;all_goals first|(simp [p];done)|(simp [r];done)|(simp [j];done)))
    refine tk 0 ?_;refine tk 1 ?_;refine tk 2 ?_;refine tk 3 ?_;refine tk 4 ?_;refine tk 5 ?_;refine tk 6 ?_;try simp only[Act.put,u2,u3,u4]
    refine rd1 7 fun I s=> ?_;go_simp
    (go_at_call 129;refine(F _).mono ?_;rintro e J ⟨rfl,h⟩;have h:Below wr.heap.size wr J:=zB h;have z8:=h.size;have y:=u.below h oo;have K:=g.trans (h.mono oo);have r:=y.cell)
    refine s.out _ _ (by(refine⟨?_,?_,?_⟩;all_goals first|(simp [p];done)|(simp [r];done)|(simp [j];done))) fun v=> ?_;try simp only[Act.put,u2,u3,u4]
    refine rd1 8 fun I s=> ?_;go_simp
    (go_at_call 148;refine(H _).mono ?_;rintro e w9 ⟨rfl,t⟩;have z9:=t.size;have z:=y.below t oo;have L:=K.trans (t.mono oo);have p:=z.cell)
    refine s.out _ _ (by(refine⟨?_,?_,?_⟩;all_goals first|(simp [p];done)|(simp [r];done)|(simp [j];done))) fun v=> ?_;try simp only[Act.put,u2,u3,u4]
    refine tk 9 ?_;refine tk 10 ?_;try simp only[Act.put,u2,u3,u4]
    refine wpAnyH_done kr ?_ _;simp only[List.getElem_toArray,List.getElem_cons_succ,List.getElem_cons_zero,Act.put,List.setIfInBounds_toArray,List.set_cons_zero,List.set_cons_succ];go_wp2;go_roundw
    case rel=>exact⟨D.drop size,X++(jb o l m dict (q:Int) (D.take size)).text,q+1,C,by go_num,by first|rfl|(simp;done),by first|rfl|(simp [sv];done),by simp;omega,by simp;omega,by simp;omega,by simp;omega,by show _=_;rw[E.out,List.append_assoc],z,L⟩
    case measure=>simp [UR];omega
def mkC (o l m:Int)(dict d:Bs)(size:Int):Option Bs:=if fits o l m dict∧1≤size∧size≤64∧(d.length:Int)≤size*40∧d.length≤2000 then some (mkB o l m dict size.toNat 0 d) else none
theorem ed (o l m:Int)(dict d:Bs)(size:Int)(w:World)(t:dict.length≤9223372036854775807)(E:d.length≤9223372036854775807)(F: -1000000≤size)(H:size≤1000000):
 Calls prog 86 #[.agg #[o,l,m],dict,sv d,size] w fun e w'=>e=yA (mkC o l m dict d size)∧Below w.heap.size w w':=by
 have i:Hid (∀w,Calls prog 49 #[.agg #[o,l,m],dict] w fun e w'=>e= .returned (.bool (decide (fits o l m dict)))∧Below w.heap.size w w'):=fun w=>qy o l m dict w t;have j:Below w.heap.size w (w.alloc (.cells #[o,l,m] 24)):=zy;have b:Hid (¬(fits o l m dict∧1≤size∧size≤64∧(d.length:Int)≤size*40∧d.length≤2000)→yA (mkC o l m dict d size)= .returned (.tuple #[sv [],.bool false])):=fun h=>(by unfold mkC;rw[if_neg h];rfl);have g:Hid ((fits o l m dict∧1≤size∧size≤64∧(d.length:Int)≤size*40∧d.length≤2000)→yA (mkC o l m dict d size)= .returned (.tuple #[sv (mkB o l m dict size.toNat 0 d),.bool true])):=fun h=>(by unfold mkC;rw[if_pos h];rfl);generalize yA (mkC o l m dict d size)=G at*;by_cases h1:fits o l m dict
 case neg=>
  have f:=hid (b.out (fun h=>h1 h.1));have u:decide (fits o l m dict)=false:=decide_eq_false h1;clear h1 b g;go_enter func86,ntmps86;go_wp2_with fail;refine(i.out _).mono ?_;rintro e k ⟨rfl,a⟩;have c:=j.trans (a.mono (by simp));go_wp2;go_ret2;exact⟨f.out.symm,c⟩
 have u:decide (fits o l m dict)=true:=decide_eq_true h1;by_cases h2:1≤size∧size≤64
 case neg=>
  have f:=hid (b.out (fun h=>h2 ⟨h.2.1,h.2.2.1⟩));have v:decide (1≤size∧size≤64)=false:=decide_eq_false h2;clear h1 b g;go_enter func86,ntmps86;go_wp2_with fail;refine(i.out _).mono ?_;rintro e k ⟨rfl,a⟩;have c:=j.trans (a.mono (by simp));go_wp2_with(go_at_call 117;refine(uI _ _ _ _).mono ?_;rintro e w' ⟨rfl,rfl⟩);go_ret2;exact⟨f.out.symm,c⟩
 have v:decide (1≤size∧size≤64)=true:=decide_eq_true h2;obtain⟨x,y⟩:=h2;obtain⟨n,rfl⟩:=Int.eq_ofNat_of_zero_le (by omega:0≤size);by_cases q:(d.length:Int)≤(n:Int)*40
 case neg=>
  have f:=hid (b.out (fun h=>q h.2.2.2.1));have z:(n:Int)*40<d.length:=oo;clear h1 b g;go_enter func86,ntmps86;go_wp2_with fail;refine(i.out _).mono ?_;rintro e k ⟨rfl,a⟩;have c:=j.trans (a.mono (by simp));go_wp2_with(go_at_call 117;refine(uI _ _ _ _).mono ?_;rintro e w' ⟨rfl,rfl⟩);go_ret2;exact⟨f.out.symm,c⟩
 have z:¬(n:Int)*40<d.length:=oo;by_cases p:d.length≤2000
 case neg=>
  have f:=hid (b.out (fun h=>p h.2.2.2.2));have A:(2000:Int)<d.length:=oo;clear h1 b g;go_enter func86,ntmps86;go_wp2_with fail;refine(i.out _).mono ?_;rintro e k ⟨rfl,a⟩;have c:=j.trans (a.mono (by simp));go_wp2_with(go_at_call 117;refine(uI _ _ _ _).mono ?_;rintro e w' ⟨rfl,rfl⟩);go_ret2;exact⟨f.out.symm,c⟩
 have A:¬(2000:Int)<d.length:=oo;have r:=hid (g.out ⟨h1,x,y,q,p⟩);have C:Hid (∀w,Calls prog 118 #[.agg #[o,l,m],dict,.int .i64 0,sv d,(n:Int)] w fun e w'=>e= .returned (sv (mkB o l m dict n 0 d))∧Below w.heap.size w w'):=fun w=>QP o l m dict n 0 d w h1 oo oo p oo;rw[Int.toNat_natCast] at r;clear h1 b g;generalize mkB o l m dict n 0 d=R at*;go_enter func86,ntmps86;go_wp2_with fail;have D:=Bk.new w #[o,l,m] 24;refine(i.out _).mono ?_;rintro e k ⟨rfl,a⟩;have c:=j.trans (a.mono (by simp));have I:=(D.below a (by simp)).cell;go_wp2_with(first|(go_at_call 117;refine(uI _ _ _ _).mono ?_;rintro e w' ⟨rfl,rfl⟩)|(go_at_call 118;refine(C.out _).mono ?_;rintro e J ⟨rfl,s⟩;have K:=s.size));go_ret2;exact⟨r.out.symm,c.trans (s.mono (by have:=a.size;simp at this;omega))⟩
def mz (x:Int):Nat:=if x<0 then 0 else(8001 - x).toNat
theorem Sl.jf {w:World}{A:Option Addr}{n cap size:Nat}{cs:List Value}(h:Sl w A n cap size cs){k:Nat}(hk:k<n):∃g a,A=some ⟨g,a,none⟩∧g<w.heap.size∧∀j u,cs[k*size+j]? =some u→w.cell? ⟨g,a+k*size+j,none⟩=some u:=by
 obtain⟨_,_,_,b⟩:=h;obtain⟨g,a,rfl,c,d⟩:=b oo;exact⟨g,a,rfl,c,fun j u e=>by rw[Nat.add_assoc];exact d _ _ e⟩
theorem wH :(prog.info? 122).map (fun i=>(i.zero,i.size,i.bytes))=some (some (.agg #[.int .i64 0,.bool false,.int .i64 0,.string ⟨#[]⟩]),4,40):=by kernel_rfl
theorem QM {w:World}{B:Nat}{e:TypeId}{A:Option Addr}{n cap size:Nat}{cs:List Value}(h:w.ownsRow B e size (.slice A n cap) n cs):Sl w A n cap size cs:=by
 obtain⟨a,b,h1,h2⟩:=Sl.sG h;injection h1 with e1 e2 e3
 subst e1 e3;exact h2
def bkL (b:Blk):List Value:=[.int .i64 b.num,.bool b.raw,.int .i64 b.size,.string ⟨b.body.toArray⟩]
def zY (a:List Blk):List Value:=a.flatMap bkL
theorem xW (a:List Blk)(b:Blk):zY (a++[b])=zY a++bkL b:=by unfold zY;rw[List.flatMap_append];simp
theorem wC (a:List Blk):(zY a).length=a.length*4:=by
 induction a with
 |nil=>rfl
 |cons f fs b=>unfold zY at*;rw[List.flatMap_cons,List.length_append,b];simp [bkL];omega
theorem qp (a:List Blk)(k:Nat)(h:k<a.length):(zY a)[k*4+0]? =some (.int .i64 a[k].num)∧(zY a)[k*4+1]? =some (.bool a[k].raw)∧(zY a)[k*4+2]? =some (.int .i64 a[k].size)∧(zY a)[k*4+3]? =some (.string ⟨a[k].body.toArray⟩):=by
 have e:a=a.take k++(a[k]::a.drop (k+1)):=(by rw[List.getElem_cons_drop,List.take_append_drop]);have b:(zY (a.take k)).length=k*4:=(by rw[wC,List.length_take];omega);have c:zY a=zY (a.take k)++(bkL a[k]++zY (a.drop (k+1))):=by
  conv=>lhs;rw[e]
  unfold zY;rw[List.flatMap_append,List.flatMap_cons]
 rw[c];refine⟨?_,?_,?_,?_⟩<;>(rw[List.getElem?_append_right (by omega),b];simp [bkL])
def lM (o:Option (List Blk))(w:World)(e:Ending)(w':World):Prop:=
 ∃A cap,e= .returned (.tuple #[.slice A (o.getD []).length cap,.bool o.isSome])∧w'.ownsRow w.heap.size 122 4 (.slice A (o.getD []).length cap) (o.getD []).length (zY (o.getD []))∧Below w.heap.size w w'
theorem uj (a:List Blk)(b:Blk):zo (a++[b])=zo a+b.size:=by unfold zo;rw[List.foldl_append];rfl
theorem Blk.vT {b:Blk}(h:b.ok=true):1≤b.size∧b.size≤64∧0≤b.num∧b.num<40:=by
 obtain⟨n,r,s,d⟩:=b;rw[Blk.jh] at h;exact⟨h.2.2.1,h.2.2.2.1,h.1,h.2.1⟩
theorem uu (a:List Blk)(h:∀b ∈ a,b.ok=true):0≤zo a∧zo a≤64*a.length:=by
 induction a using xx with
 |h0=>simp [zo]
 |h1 a b d=>
  rw[uj];have h1:=d (fun c e=>h c (by simp [e]));have h2:=Blk.vT (h b (by simp));simp;omega
theorem dU {l:Bs}{n:Nat}{a:Int}{b:List Blk}(h:(l.length:Int)≤a):xA l (n+1) a b=if zo b≤2000 then some b else none:=by rw[xA,if_pos h]
theorem aV {l:Bs}{n:Nat}{a:Int}{b:List Blk}(h:¬(l.length:Int)≤a)(c:yX l a=true)(d:(xK l a).num=b.length):xA l (n+1) a b=xA l n (xm l a) (b++[xK l a]):=by
 rw[xA,if_neg h,if_pos ⟨c,d⟩]
theorem qM {l:Bs}{n:Nat}{a:Int}{b:List Blk}(h:¬(l.length:Int)≤a)(c:¬(yX l a=true∧(xK l a).num=b.length)):xA l (n+1) a b=none:=by
 rw[xA,if_neg h,if_neg c]
theorem iK (a:List Blk)(A:Option Addr)(cap:Nat)(w:World)(l:Sl w A a.length cap 4 (zY a))(m:∀b ∈ a,b.ok=true)(J:a.length≤1000000):
 Calls prog 94 #[.slice A a.length cap] w fun e w'=>e= .returned (.int .i64 (zo a))∧Below w.heap.size w w':=by
 have n:=hid m;have K:=l.1;go_enter func94,ntmps94;go_wp2;have t:Hid (∀wr,Below w.heap.size w wr→Sl wr A a.length cap 4 (zY a)):=fun wr h=>l.below h;clear l m;go_loopw [3,8] (fun s i wr=>∃k:Nat,s= .int .i64 (zo (a.take k))∧i= .int .i64 k∧k≤a.length∧Below w.heap.size w wr) (fun _ i _=>a.length - (intOf i).toNat)
 case atStart=>exact⟨0,rfl,rfl,oo,zy⟩
 case round=>
  obtain⟨k,rfl,rfl,hk,c⟩:=hrel;have L:=c.size;have u:=uu (a.take k) (fun b c=>n.out b (List.mem_of_mem_take c));have o:(a.take k).length≤1000000:=(by simp;omega);have M:=hid o;obtain⟨N,v⟩:=u;have O:zo (a.take k)≤64000000:=oo;clear v o;by_cases j:k<a.length
  ·have x:(k:Int)<a.length:=oo
   have p:=t.out wr c;obtain⟨g,P,rfl,Q,d⟩:=Sl.jf p j;have f:=qp a k j;have y:=d 0 _ f.1;have z:=d 1 _ f.2.1;have C:=d 2 _ f.2.2.1;have E:=d 3 _ f.2.2.2;clear d f p;have F:=Blk.vT (n.out a[k] (List.getElem_mem j));obtain⟨G,H,_,_⟩:=F;have q:Hid (zo (a.take (k+1))=zo (a.take k)+a[k].size):=(by show _=_;rw[List.take_succ_eq_append_getElem j,uj]);generalize a[k]=b at*;obtain⟨R,r,T,D⟩:=b;simp only[Nat.add_zero] at y z C E G H q;generalize zo (a.take k)=S at*;go_wp2;go_roundw
   case rel=>exact⟨k+1,(by rw[q.out]),by go_num,by omega,zy⟩
   case measure=>simp [intOf];omega
  ·have x:¬(k:Int)<a.length:=oo
   have I:Hid (zo (a.take k)=zo a):=(by show _=_;rw[List.take_of_length_le (by omega)]);go_wp2;go_ret;exact⟨yZ I.out,c⟩
theorem uY (l:Bs)(w:World)(J:l.length≤1500000):
 Calls prog 62 #[l] w (lM (zX l) w):=by
 obtain⟨i,X,Y,Z,a0⟩:=info_parts wH;have K:Hid (zX l=xA l (l.length+1) 0 []):=rfl;generalize zX l=G at*;have HR:Hid (lM G w=lM G w):=rfl;go_enter func62,ntmps62;go_wp2;go_loopw [4,5] (fun a b wr=>∃(A:Option Addr) (cap m x:Nat) (c:List Blk),a= .slice A c.length cap∧b= .int .i64 x∧x≤l.length∧l.length<m+x∧10*c.length≤x∧Hid (∀b ∈ c,b.ok=true)∧Hid (G=xA l m x c)∧wr.ownsRow w.heap.size 122 4 (.slice A c.length cap) c.length (zY c)∧Below w.heap.size w wr) (fun _ b _=>l.length - (intOf b).toNat)
 case atStart=>exact⟨none,0,l.length+1,0,[],rfl,rfl,by omega,by omega,by simp,fun b f=>(by cases f),K,⟨by simp [zY],.inl ⟨rfl,rfl⟩⟩,zy⟩
 case round=>
  obtain⟨A,cap,m,x,c,rfl,rfl,hx,hm,ha,L,o,p,f⟩:=hrel;have b7:=f.size;clear K;obtain⟨C,rfl⟩:∃C,m=C+1:=⟨m - 1,oo⟩;by_cases b8:x<l.length
  ·have a1:(x:Int)<l.length:=oo
   have v:¬(l.length:Int)≤(x:Int):=oo;by_cases q:yX l x=true
   ·have a2:=dK q
    obtain⟨_,b9,b',M⟩:=a2;have s:=fun w=>SE l x w oo oo oo q;have E:Hid ((xK l x).num=c.length→G=xA l C (xm l x) (c++[xK l x])):=fun h=>(by rw[o.out,aV v q h]);have F:Hid (¬(xK l x).num=c.length→G=none):=fun h=>(by rw[o.out,qM v (fun h2=>h h2.2)]);clear q o v;have a3:=hid M;clear M;generalize xK l x=b at*;generalize xm l x=ex at*;obtain⟨a5,rfl⟩:=Int.eq_ofNat_of_zero_le (by omega:0≤ex);obtain⟨g,r,j,D⟩:=b;simp only at E F;by_cases t:g=c.length
    ·have hd:(g != (c.length:Int))=false:=by simpa using t
     have n:=hid (E.out t);clear E F t;have a7:c.length+1≤maxLen:=(by unfold maxLen;omega);have a8:(c.length+1)*40≤140737488355328:=oo;go_wp2_with fail;refine(s _).mono ?_;rintro e y ⟨rfl,d⟩;have I:=d.size;have z:=(zf p d).alloc (.cells (bkC ⟨g,r,j,D⟩) 122);have u:Below w.heap.size w (y.alloc (.cells (bkC ⟨g,r,j,D⟩) 122)):=by
      have h:=f.trans (d.mono oo);exact zy
     clear s d f p;go_wp2_with(at_builtin;go_must(refine zT _ rfl _ _ 97 rfl (w.heap.size) 122 i _ 4 40 underlying97 X Y Z a0 rfl (by omega) _ _ _ rfl (z.alloc _) _ 1 1 [.int .i64 g,.bool r,.int .i64 j,.string ⟨D.toArray⟩] rfl (Sl.newAt (y.alloc (.cells (bkC ⟨g,r,j,D⟩) 122)) #[(g:Int),.bool r,j,D] _ 1 4 (by first|rfl|simp) (by simp) (by omega)) (by simp [Value.oneCell']) a7 a8 ?_ ?_));try(case refine_1=>first|omega|(simp<;>omega;done))
     intro N O w3 P Q _;have g3:=yD u Q (by simp;omega) (fun k hk=>by have:=(z.lt k hk).1;omega);have b0:w3.ownsRow w.heap.size 122 4 (.slice N (c++[(⟨g,r,j,D⟩:Blk)]).length O) (c++[(⟨g,r,j,D⟩:Blk)]).length (zY (c++[(⟨g,r,j,D⟩:Blk)])):=by
      rw[xW,List.length_append];exact P
     have R:(c++[(⟨g,r,j,D⟩:Blk)]).length=c.length+1:=(by simp);have S:=hid R;have b1:Hid (∀b ∈ c++[(⟨g,r,j,D⟩:Blk)],b.ok=true):=fun b f=>by
      rcases List.mem_append.1 f with h|h
      ·exact L.out b h
      ·simp at h;subst h;exact a3.out
     clear P Q z u R;go_wp2;go_roundw
     case rel=>exact⟨N,O,C,a5,_,(by rw[S.out]),rfl,by omega,by omega,by rw[S.out];omega,b1,n,b0,g3⟩
     case measure=>simp [intOf];omega
    ·have hd:(g != (c.length:Int))=true:=by simpa using t
     have n:=hid (F.out t);clear E F t;go_wp2_with fail;refine(s _).mono ?_;rintro e y ⟨rfl,d⟩;have I:=d.size;have u:=f.trans (d.mono oo);clear s d f p;go_wp2;go_ret2;have h:=n.out;subst h;exact⟨none,0,rfl,⟨by simp [zY],.inl ⟨rfl,rfl⟩⟩,zy⟩
   ·have T:yX l x=false:=by simpa using q
    have s:=fun w=>Nh l x w oo oo oo T;have n:Hid (G=none):=(by show _=_;rw[o.out,qM v (fun h=>q h.1)]);clear q T o v;go_wp2_with fail;refine(s _).mono ?_;rintro e y ⟨rfl,d⟩;have I:=d.size;have u:=f.trans (d.mono oo);clear s d f p;go_wp2;go_ret2;have h:=n.out;subst h;exact⟨none,0,rfl,⟨by simp [zY],.inl ⟨rfl,rfl⟩⟩,zy⟩
  ·have a1:¬(x:Int)<l.length:=oo
   have H:Hid (G=if zo c≤2000 then some c else none):=(by show _=_;rw[o.out,dU (by omega)]);have U:=fun w J=>iK c A cap w J L.out oo;have V:=hid U;clear o U;go_wp2_with fail;refine(V.out _ (QM p)).mono ?_;rintro e y ⟨rfl,d⟩;have I:=d.size;have u:=f.trans (d.mono oo);have z:=zf p d;clear d f p V;by_cases W:zo c≤2000
   ·have b2:¬2000<zo c:=oo
    have n:Hid (G=some c):=(by show _=_;rw[H.out,if_pos W]);clear H;go_wp2;go_ret2;have h:=n.out;subst h;exact⟨A,cap,rfl,z,u⟩
   ·have b2:2000<zo c:=oo
    have n:Hid (G=none):=(by show _=_;rw[H.out,if_neg W]);clear H;go_wp2;go_ret2;have h:=n.out;subst h;exact⟨none,0,rfl,⟨by simp [zY],.inl ⟨rfl,rfl⟩⟩,zy⟩
theorem qP (l:Bs)(w:World)(hs:l.length≤1500000):
 Calls prog 119 #[l] w (lM (zX l) w):=by
 obtain⟨i,hi,a2,a3,a4⟩:=info_parts wH;have L:Hid (zX l=xA l (l.length+1) 0 []):=rfl;generalize zX l=G at*;go_enter func119,ntmps119;go_wp2;have M:=vS (base:=w.heap.size) (size:=4) (Bk.new w #[] 122) (Nat.le_refl _);go_loopw [4,5,6] (fun a s b wr=>∃(A:Option Addr) (cap m x:Nat) (c:List Blk),a= .slice A c.length cap∧s= .int .i64 (zo c)∧b= .int .i64 x∧x≤l.length∧l.length<m+x∧10*c.length≤x∧Hid (∀b ∈ c,b.ok=true)∧Hid (G=xA l m x c)∧wr.ownsRow w.heap.size 122 4 (.slice A c.length cap) c.length (zY c)∧Below w.heap.size w wr) (fun _ _ b _=>l.length - (intOf b).toNat)
 case atStart=>exact⟨_,0,l.length+1,0,[],rfl,rfl,rfl,by omega,by omega,by simp,fun b j=>(by cases j),L,M,zy⟩
 case round=>
  obtain⟨A,cap,m,x,c,rfl,rfl,rfl,hx,hm,ha,N,o,t,j⟩:=hrel;have c6:=j.size;clear L M;have a5:=uu c N.out;obtain⟨c7,a6⟩:=a5;have c8:zo c≤64*1500000:=oo;clear a6;obtain⟨z,rfl⟩:∃z,m=z+1:=⟨m - 1,oo⟩;by_cases c9:x<l.length
  ·have a7:(x:Int)<l.length:=oo
   have y:¬(l.length:Int)≤(x:Int):=oo;by_cases p:yX l x=true
   ·have a8:=dK p
    obtain⟨_,c',d0,I⟩:=a8;have q:=fun w=>SH l x w oo oo oo p;have C:Hid ((xK l x).num=c.length→G=xA l z (xm l x) (c++[xK l x])):=fun h=>(by rw[o.out,aV y p h]);have E:Hid (¬(xK l x).num=c.length→G=none):=fun h=>(by rw[o.out,qM y (fun h2=>h h2.2)]);clear p o y;have a9:=Blk.vT I;obtain⟨a',b0,_,_⟩:=a9;have b1:=hid I;clear I;generalize xK l x=b at*;generalize xm l x=ex at*;obtain⟨b3,rfl⟩:=Int.eq_ofNat_of_zero_le (by omega:0≤ex);obtain⟨d,r,f,D⟩:=b;simp only at C E a' b0;have b4:Hid (zo (c++[(⟨d,r,f,D⟩:Blk)])=zo c+f):=uj c ⟨d,r,f,D⟩;generalize zo c=S at*;by_cases u:d=c.length
    ·have hd:(d != (c.length:Int))=false:=by simpa using u
     have n:=hid (C.out u);clear C E u;have b6:c.length+1≤maxLen:=(by unfold maxLen;omega);have b7:(c.length+1)*40≤140737488355328:=oo;go_wp2_with fail;refine(q _).mono ?_;rintro e v ⟨rfl,g⟩;have O:=g.size;have P:=Bk.new v (bkC ⟨d,r,f,D⟩) 122;have Q:=zf t g;have R:∀k,(Value.slice A c.length cap).ownBlock=some k→k≠v.heap.size:=fun k hk=>(by have:=(Q.lt k hk).2;omega);have J:=(zf t g).alloc (.cells (bkC ⟨d,r,f,D⟩) 122);have F:Below w.heap.size w (v.alloc (.cells (bkC ⟨d,r,f,D⟩) 122)):=by
      have h:=j.trans (g.mono oo);exact zy
     clear q g j t;go_wp2_with(at_builtin;go_must(refine zT _ rfl _ _ 97 rfl (w.heap.size) 122 i _ 4 40 underlying97 hi a2 a3 a4 rfl (by omega) _ _ _ rfl (J.alloc _) _ 1 1 [.int .i64 d,.bool r,.int .i64 f,.string ⟨D.toArray⟩] rfl (Sl.newAt (v.alloc (.cells (bkC ⟨d,r,f,D⟩) 122)) #[(d:Int),.bool r,f,D] _ 1 4 (by first|rfl|simp) (by simp) (by omega)) (by simp [Value.oneCell']) b6 b7 ?_ ?_));try(case refine_1=>first|omega|(simp<;>omega;done))
     intro T U w3 V K _;have g3:=yD F K (by simp;omega) (fun k hk=>by have:=(J.lt k hk).1;omega);have W:=(P.alloc (.cells #[(d:Int),.bool r,f,D] 122)).grown K R;have X3:=W.cell;have b':w3.ownsRow w.heap.size 122 4 (.slice T (c++[(⟨d,r,f,D⟩:Blk)]).length U) (c++[(⟨d,r,f,D⟩:Blk)]).length (zY (c++[(⟨d,r,f,D⟩:Blk)])):=by
      rw[xW,List.length_append];exact V
     have X:(c++[(⟨d,r,f,D⟩:Blk)]).length=c.length+1:=(by simp);have Y:=hid X;have c0:Hid (∀b ∈ c++[(⟨d,r,f,D⟩:Blk)],b.ok=true):=fun b j=>by
      rcases List.mem_append.1 j with h|h
      ·exact N.out b h
      ·simp at h;subst h;exact b1.out
     clear V K J F X P W R Q;go_wp2;go_roundw
     case rel=>exact⟨T,U,z,b3,_,(by rw[Y.out]),(by rw[b4.out]),rfl,by omega,by omega,by rw[Y.out];omega,c0,n,b',g3⟩
     case measure=>simp [intOf];omega
    ·have hd:(d != (c.length:Int))=true:=by simpa using u
     have n:=hid (E.out u);clear C E u;go_wp2_with fail;refine(q _).mono ?_;rintro e v ⟨rfl,g⟩;have O:=g.size;have F:=j.trans (g.mono oo);clear q g j t;go_wp2;go_ret2;have h:=n.out;subst h;exact⟨_,0,rfl,vS (size:=4) (Bk.newAt _ _ _ (by first|rfl|simp)) (by first|omega|(simp;omega)),zy⟩
   ·have Z:yX l x=false:=by simpa using p
    have q:=fun w=>O9 l x w oo oo oo Z;have n:Hid (G=none):=(by show _=_;rw[o.out,qM y (fun h=>p h.1)]);clear p Z o y;generalize zo c=S at*;go_wp2_with fail;refine(q _).mono ?_;rintro e v ⟨rfl,g⟩;have O:=g.size;have F:=j.trans (g.mono oo);clear q g j t;go_wp2;go_ret2;have h:=n.out;subst h;exact⟨_,0,rfl,vS (size:=4) (Bk.newAt _ _ _ (by first|rfl|simp)) (by first|omega|(simp;omega)),zy⟩
  ·have a7:¬(x:Int)<l.length:=oo
   have H:Hid (G=if zo c≤2000 then some c else none):=(by show _=_;rw[o.out,dU (by omega)]);clear o;by_cases hz:zo c≤2000
   ·have c1:¬2000<zo c:=oo
    have n:Hid (G=some c):=(by show _=_;rw[H.out,if_pos hz]);clear H;go_wp2;go_ret2;have h:=n.out;subst h;exact⟨A,cap,rfl,t,j⟩
   ·have c1:2000<zo c:=oo
    have n:Hid (G=none):=(by show _=_;rw[H.out,if_neg hz]);clear H;go_wp2;go_ret2;have h:=n.out;subst h;exact⟨_,0,rfl,vS (size:=4) (Bk.newAt _ _ _ (by first|rfl|simp)) (by first|omega|(simp;omega)),zy⟩
theorem TC (p:Bs)(n:Nat):(ByteArray.mk p.toArray).extract n p.length=⟨(p.drop n).toArray⟩:=by
 apply ByteArray.ext;simp [ByteArray.data_extract];rw[List.take_of_length_le (by simp)]
theorem RX (r M:Nat)(b sl sm:Int)(d:Bs)(w:World)(p:Rd w r M)(G:M≤40000000)(H:d.length≤1000)(q:vk b sl sm):
 Calls prog 65 #[.pointer (some ⟨r,0,none⟩),.agg #[b,sl,sm],sv d] w fun e w'=>(∃x:Bs,e= .returned (sv x)∧x.length≤d.length+20)∧Rd w' r (M+66)∧zk w.heap.size r w w':=by
 have I:=p.lt;have s:=Bk.new w #[b,sl,sm] 24;have A:=p.alloc (.cells #[b,sl,sm] 24);have t:zk w.heap.size r w (w.alloc (.cells #[b,sl,sm] 24)):=y8 zy r;go_enter func65,ntmps65;go_wp2_with fail;refine(pick_any r M 4 _ A oo oo oo).mono ?_;rintro e J ⟨⟨v,rfl,K,o⟩,m,n⟩;have C:=n.size;try simp only[World.size_alloc,World.size_setCell,World.size_drew] at C
 have c:=s.zC n oA oo;have f:=t.trans (n.mono oA);clear n t s;have L:=c.cell;by_cases u:v=0
 ·subst u
  go_wp2;go_ret;exact⟨⟨[],rfl,by simp⟩,m.mono (by omega),f⟩
 have N:(v==0)=false:=(by rw[beq_eq_false_iff_ne];exact u);by_cases g:v=1∧0<d.length
 ·obtain⟨g,O⟩:=g
  subst g;have D:(0:Int)<d.length:=oo;go_wp2_with fail;refine(pick_any r _ (d.length:Int) _ m oo oo oo).mono ?_;rintro e y ⟨⟨k,rfl,E,P⟩,i,a⟩;have j:=a.size;try simp only[World.size_alloc,World.size_setCell,World.size_drew] at j
  have z:=c.zC a oA oo;have l:=f.trans (a.mono oA);clear a f c;obtain⟨k,rfl⟩:=Int.eq_ofNat_of_zero_le E;have Q:k≤d.length:=oo;go_wp2;go_ret;exact⟨⟨d.drop k,by first|rfl|(simp only[TC];rfl),by simp;omega⟩,i.mono (by omega),l⟩
 ·by_cases o:v=1
  ·subst o
   have D:¬(0:Int)<d.length:=by
    intro h;exact g ⟨rfl,oo⟩
   clear g;go_wp2_with fail;refine(iM r _ 20 b sl sm _ m oo oo q).mono ?_;rintro e y ⟨⟨x,rfl,F⟩,i,a⟩;have j:=a.size;try simp only[World.size_alloc,World.size_setCell,World.size_drew] at j
   have z:=c.zC a oA oo;have l:=f.trans (a.mono oA);clear a f c;go_wp2;go_ret;exact⟨⟨x,rfl,oo⟩,i.mono oo,l⟩
  ·have R:(v==1)=false:=by rw[beq_eq_false_iff_ne];exact o
   clear g;go_wp2_with fail;refine(iM r _ 20 b sl sm _ m oo oo q).mono ?_;rintro e y ⟨⟨x,rfl,F⟩,i,a⟩;have j:=a.size;try simp only[World.size_alloc,World.size_setCell,World.size_drew] at j
   have z:=c.zC a oA oo;have l:=f.trans (a.mono oA);clear a f c;go_wp2;go_ret;exact⟨⟨x,rfl,oo⟩,i.mono oo,l⟩
theorem UH (r M:Nat)(w:World)(C:Rd w r M)(hM:M≤30000000):
 Calls prog 37 #[.pointer (some ⟨r,0,none⟩)] w fun e w'=>(∃(o l m:Int) (x:Bs),e= .returned (.tuple #[.agg #[(o:Int),l,m],sv x])∧vk o l m∧x.length≤40)∧Rd w' r (M+111)∧zk w.heap.size r w w':=by
 have q:=C.lt;have D:=Bk.new w #[.int .i64 0,.int .i64 0,.int .i64 0] 24;have N:=C.alloc (.cells #[.int .i64 0,.int .i64 0,.int .i64 0] 24);have E:zk w.heap.size r w (w.alloc (.cells #[.int .i64 0,.int .i64 0,.int .i64 0] 24)):=y8 zy r;go_enter func37,ntmps37;go_wp2_with fail;refine(Rj r M _ N oo).mono ?_;rintro e i ⟨⟨o,l,m,rfl,s⟩,F,j⟩;have O:=j.size;try simp only[World.size_alloc,World.size_setCell,World.size_drew] at O
 have t:=D.zC j oA oo;have G:=E.trans (j.mono oA);clear j E D;have c:=Bk.new i #[(o:Int),l,m] 24;have P:=t.alloc (.cells #[(o:Int),l,m] 24);have Q:=F.alloc (.cells #[(o:Int),l,m] 24);have R:=G.alloc oo (.cells #[(o:Int),l,m] 24);have a:=c.cell;have H:=c.free;go_wp2_with fail;have T:w.heap.size<i.heap.size:=t.lt;obtain⟨d,U⟩:∃d,i.heap.size=d:=⟨_,rfl⟩;rw[U] at c a H T;have V:=c.lt;generalize i.alloc (.cells #[(o:Int),l,m] 24)=u at*;clear F G t H;refine wp_region_held_drew (S:=(fun w'=>w'.cell? ⟨d,0,none⟩=some (.int .i64 o)∧w'.cell? ⟨d,1,none⟩=some (.int .i64 l)∧w'.cell? ⟨d,2,none⟩=some (.int .i64 m))) kr ?_ (fun y=> ?_);focus((refine⟨?_,?_,?_⟩;all_goals first|(simp [f];done)|(simp [g];done)|(simp [h];done)|(simp [a];done)))
 refine tk 0 ?_;refine tk 1 ?_;refine tk 2 ?_;refine tk 3 ?_;refine tk 4 ?_;try simp only[Act.put,u2,u3,u4]
 refine rd1 5 fun I b=> ?_;go_simp
 (go_at_call 66;refine(iM r _ 12 o l m _ Q.drew oo oo s).mono ?_;rintro e W ⟨⟨X,rfl,a8⟩,Y,k⟩;have z7:u.heap.size≤W.heap.size:=k.size;have J:=c.drew.zC k V oo;have Z:=P.drew.zC k (by show _<u.heap.size;omega) oo;have g7:=R.drew.trans (k.mono (by show _≤u.heap.size;omega));have h:=J.cell)
 refine b.out _ _ (by(refine⟨?_,?_,?_⟩;all_goals first|(simp [f];done)|(simp [g];done)|(simp [h];done)|(simp [a];done))) fun y=> ?_;try simp only[Act.put,u2,u3,u4]
 refine rd1 6 fun I b=> ?_;go_simp
 (go_at_call 65;refine(RX r _ o l m X _ Y (by omega) (by omega) s).mono ?_;rintro e K ⟨⟨x,rfl,hx⟩,z,n⟩;have z8:=n.size;have L:=J.zC n (by omega) (by omega);have A:=Z.zC n (by omega) (by omega);have g8:=g7.trans (n.mono (by omega));have g:=L.cell;have a2:=A.free;have a3:=A.cell;have f:=(((L.far (p:=⟨w.heap.size,0,none⟩) (by simp;omega) (.int .i64 o)).far (p:=⟨w.heap.size,1,none⟩) (by simp;omega) (.int .i64 l)).far (p:=⟨w.heap.size,2,none⟩) (by simp;omega) (.int .i64 m)).cell)
 refine b.out _ _ (by(refine⟨?_,?_,?_⟩;all_goals first|(simp [f];done)|(simp [g];done)|(simp [h];done)|(simp [a];done))) fun y=> ?_;try simp only[Act.put,u2,u3,u4]
 refine rd1 7 fun I b=> ?_;go_simp;refine b.out _ _ (by(refine⟨?_,?_,?_⟩;all_goals first|(simp [f];done)|(simp [g];done)|(simp [h];done)|(simp [a];done))) fun y=> ?_;try simp only[Act.put,u2,u3,u4]
 refine tk 8 ?_;try simp only[Act.put,u2,u3,u4]
 refine wpAnyH_done kr ?_ _;simp only[List.getElem_toArray,List.getElem_cons_succ,List.getElem_cons_zero,Act.put,List.setIfInBounds_toArray,List.set_cons_zero,List.set_cons_succ];have a4:=(((A.set 0 (.int .i64 o)).set 1 (.int .i64 l)).set 2 (.int .i64 m)).cell;replace z:=z.mono (show _≤M+111 by omega);clear b f g h a a3 a2;go_wp2;have R9:Rd (((K.setCell ⟨w.heap.size,0,none⟩ (.int .i64 o)).setCell ⟨w.heap.size,1,none⟩ (.int .i64 l)).setCell ⟨w.heap.size,2,none⟩ (.int .i64 m)) r (M+111):=Rd.far (Rd.far (Rd.far z q _) q _) q _;have g9:zk w.heap.size r w (((K.setCell ⟨w.heap.size,0,none⟩ (.int .i64 o)).setCell ⟨w.heap.size,1,none⟩ (.int .i64 l)).setCell ⟨w.heap.size,2,none⟩ (.int .i64 m)):=zk.setCell (zk.setCell (zk.setCell g8 (.inr (Nat.le_refl _)) _) (.inr (Nat.le_refl _)) _) (.inr (Nat.le_refl _)) _;exact bodyPost_ret (v:=.tuple #[.agg #[(o:Int),l,m],sv x]) (by simp [results,results37,go_sem,a4]) rfl ⟨⟨o,l,m,x,rfl,s,by omega⟩,R9,g9⟩
end Go.Proofs.YtoedhpcmgondjaaGreatDoor
namespace Go.Proofs.YtoedhpcmgondjaaGreatDoor
open Go.RowKit
set_option maxRecDepth 100000
def Blk.dat (K:Kn)(b:Blk):Option Bs:=
 if b.raw=true then some b.body else
 if(sF K b.body).2.1≠0∨(sF K b.body).2.2≠b.body.length∨((sF K b.body).1.length:Int)≠b.size then none else some (sF K b.body).1
def xw (o:Option Bs):Ending:=.returned (.tuple #[sv (o.getD []),.bool o.isSome])
end Go.Proofs.YtoedhpcmgondjaaGreatDoor
namespace Go.Proofs.YtoedhpcmgondjaaGreatDoor
open Go.RowKit
set_option maxRecDepth 100000
attribute [local go_sem high] zG zF zH zV zN yu zD zl zn zt zi zu y9 zK yE zJ
theorem dh (p:Bs)(n:Nat):(ByteArray.mk p.toArray).extract n p.length=⟨(p.drop n).toArray⟩:=by
 rw[ByteArray.extract_mk];simp;rw[List.take_of_length_le (by simp)]
section
variable {B : Nat}
end
def Apart (v a:Value):Prop:=∀k,v.ownBlock=some k→a.ownBlock=some k→False
theorem Apart.symm {v a:Value}(h:Apart v a):Apart a v:=fun k h1 h2=>h k h2 h1
end Go.Proofs.YtoedhpcmgondjaaGreatDoor
namespace Go.Proofs.YtoedhpcmgondjaaGreatDoor
open Go.RowKit
def xY (K:Kn)(n:Int)(d:Bs):Blk:=match uh K d with
 |some s=>if s.length<d.length then⟨n,false,d.length,s⟩ else⟨n,true,d.length,d⟩
 |none=>⟨n,true,d.length,d⟩
theorem JU (o l m:Int)(dict:Bs)(n:Int)(d:Bs):jb o l m dict n d=xY (zA o l m dict) n d:=rfl
theorem WB {K:Kn}{n:Int}{d s:Bs}(h:uh K d=some s):xY K n d=if s.length<d.length then⟨n,false,d.length,s⟩ else⟨n,true,d.length,d⟩:=by unfold xY;rw[h]
theorem X9 {K:Kn}{n:Int}{d:Bs}(h:uh K d=none):xY K n d=⟨n,true,d.length,d⟩:=by unfold xY;rw[h]
theorem bI (K:Kn)(n:Int)(d:Bs):(xY K n d).size=d.length:=by
 unfold xY;split
 ·split<;>rfl
 ·rfl
theorem Tn (K:Kn)(n:Int)(d:Bs)(k:Int):({ xY K n d with num:=k } :Blk)=xY K k d:=by
 unfold xY;split
 ·split<;>rfl
 ·rfl
theorem Md (K:Kn)(c:Int)(r:List Int)(a:1≤K.width):1≤(K.bits (c::r)).length:=by
 unfold Kn.bits;rw[nO,List.zip_cons_cons,List.flatMap_cons,List.length_append,xP];simp only;omega
theorem Lc {K:Kn}(hk:K.ok)(d:Bs):1≤(K.comp d).length:=by
 unfold Kn.comp;rw[eU];have h:1≤(K.bits (K.yw d)).length:=(by unfold Kn.yw;exact Md K _ _ (kT hk).1);omega
theorem V5 {K:Kn}(hk:K.ok){n:Int}(h0:0≤n)(h1:n<40){d:Bs}(c:1≤d.length)(e:d.length≤64):(xY K n d).ok=true:=by
 have b:(⟨n,true,(d.length:Int),d⟩:Blk).ok=true:=by rw[Blk.jh];simp;omega
 cases a:uh K d with
 |none=>rw[X9 a];exact b
 |some s=>
  rw[WB a];split
  ·rename_i f
   have g:1≤s.length:=by
    unfold uh at a;split at a
    ·injection a with a;rw[←a];exact Lc hk d
    ·cases a
   rw[Blk.jh];simp;omega
  ·exact b
def chunks (size:Nat):Nat→Bs→List Bs
 |0,_=>[]
 |n+1,d=>if d=[] then[] else d.take size::chunks size n (d.drop size)
theorem pK (size n:Nat):chunks size n []=[]:=by
 cases n with
 |zero=>rfl
 |succ n=>unfold chunks;rw[if_pos rfl]
theorem jB (size n:Nat){d:Bs}(h:d≠[]):chunks size (n+1) d=d.take size::chunks size n (d.drop size):=by rw[chunks,if_neg h]
theorem mO (size:Nat)(b:1≤size):∀(n:Nat) (d:Bs),∀x ∈ chunks size n d,1≤x.length∧x.length≤size
 |0,d,x,h=>by cases h
 |n+1,d,x,h=>by
  by_cases a:d=[]
  ·rw[a,pK] at h;cases h
  ·have c:=List.length_pos_iff.2 a
   rw[jB _ _ a] at h;rcases List.mem_cons.1 h with rfl|h
   ·rw[List.length_take];omega
   ·exact mO size b n _ x h
theorem tZ (size:Nat)(b:1≤size):∀(k n:Nat) (d:Bs),d.length≤k*size→(chunks size n d).length≤k
 |0,n,d,h=>by
  have:d=[]:=List.eq_nil_of_length_eq_zero oo;rw[this,pK];simp
 |k+1,0,d,h=>by simp [chunks]
 |k+1,n+1,d,h=>by
  by_cases a:d=[]
  ·rw[a,pK];simp
  ·rw[jB _ _ a,List.length_cons]
   have:=tZ size b k n (d.drop size) (by rw[List.length_drop];rw[Nat.add_mul] at h;omega);omega
theorem lh (size:Nat)(b:1≤size):∀(n:Nat) (d:Bs),d.length≤n→((chunks size n d).flatten=d)
 |0,d,h=>by
  have:d=[]:=List.eq_nil_of_length_eq_zero oo;rw[this];rfl
 |n+1,d,h=>by
  by_cases a:d=[]
  ·rw[a,pK];rfl
  ·have c:=List.length_pos_iff.2 a
   rw[jB _ _ a,List.flatten_cons,lh size b n _ (by rw[List.length_drop];omega),List.take_append_drop]
def mks (K:Kn)(size n:Nat)(d:Bs):List Blk:=(chunks size n d).map (xY K 0)
theorem VG (K:Kn)(size n:Nat):mks K size n []=[]:=by unfold mks;rw[pK];rfl
theorem Qi (K:Kn)(size n:Nat){d:Bs}(h:d≠[]):mks K size (n+1) d=xY K 0 (d.take size)::mks K size n (d.drop size):=by unfold mks;rw[jB _ _ h];rfl
theorem Z5 {K:Kn}(hk:K.ok)(size n:Nat)(c:1≤size)(f:size≤64)(d:Bs):∀b ∈ mks K size n d,b.ok=true:=by
 intro b a;unfold mks at a;obtain⟨x,e,rfl⟩:=List.mem_map.1 a;have h:=mO size c n d x e;exact V5 hk oo oo h.1 oo
theorem Oz (K:Kn)(a:List Bs):zo (a.map (xY K 0))=(a.flatten.length:Int):=by
 induction a with
 |nil=>rfl
 |cons x a b=>rw[List.map_cons,ql,b,bI,List.flatten_cons,List.length_append];omega
theorem XT (K:Kn)(size n:Nat)(a:1≤size)(d:Bs)(h:d.length≤n):zo (mks K size n d)=(d.length:Int):=by
 unfold mks;rw[Oz,lh size a n d h]
def uf :Nat→List Blk→List Blk
 |_,[]=>[]
 |f,b::a=> { b with num:=(f:Int) } ::uf (f+1) a
theorem Ze (f:Nat)(a:List Blk):(uf f a).length=a.length:=by
 induction a generalizing f with
 |nil=>rfl
 |cons b a c=>simp [uf,c]
theorem WN (f:Nat)(a:List Blk)(b:Blk):uf f (a++[b])=uf f a++[{ b with num:=((f+a.length:Nat):Int) }]:=by
 induction a generalizing f with
 |nil=>simp [uf]
 |cons c a d=>rw[List.cons_append,uf,d,uf,List.cons_append,List.length_cons];congr 4;omega
theorem Y0 (f:Nat)(a:List Blk):zo (uf f a)=zo a:=by
 induction a generalizing f with
 |nil=>rfl
 |cons b a c=>rw[uf,ql,ql,c]
theorem QI {b:Blk}(h:b.ok=true){n:Int}(h0:0≤n)(h1:n<40):({ b with num:=n } :Blk).ok=true:=by
 rw[Blk.jh] at*;obtain⟨x,r,s,t⟩:=b;simp only at*;exact⟨h0,h1,h.2.2⟩
theorem Z7 (o l m:Int)(dict:Bs)(size:Nat):∀(n f:Nat) (d:Bs),Xw o l m dict size n f d=vJ (uf f (mks (zA o l m dict) size n d))
 |0,f,d=>rfl
 |n+1,f,d=>by
  by_cases a:d=[]
  ·rw[a,fK,VG];rfl
  ·rw[PQ _ _ _ _ _ _ _ _ a,Qi _ _ _ a,uf,nT,Tn,Z7 o l m dict size n (f+1),JU]
def mcO (a:List Blk):Option Bs:=if a.length≤40∧zo a≤2000 then some (vJ (uf 0 a)) else none
theorem Je (o l m:Int)(dict d:Bs)(size:Nat)(a:1≤size)(b:d.length≤40*size)(h2:d.length≤2000):mcO (mks (zA o l m dict) size d.length d)=some (mkB o l m dict size 0 d):=by
 unfold mcO;rw[if_pos ⟨by unfold mks;rw[List.length_map];exact tZ size a 40 _ d b,by rw[XT _ _ _ a d (Nat.le_refl _)];omega⟩];unfold mkB;rw[Z7]
