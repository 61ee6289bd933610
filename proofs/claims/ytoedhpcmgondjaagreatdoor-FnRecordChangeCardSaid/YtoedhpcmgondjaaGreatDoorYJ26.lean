import Derived.Test.YtoedhpcmgondjaaGreatDoorYJ22
import Derived.Test.YtoedhpcmgondjaaGreatDoorYGP4
import Derived.Test.YtoedhpcmgondjaaGreatDoorYR1
set_option linter.all false
set_option maxHeartbeats 8000000
namespace Go.Proofs.YtoedhpcmgondjaaGreatDoor
open Go.Lib(hid)
open Go.RowKit Go.Proofs.Tryz
set_option maxRecDepth 100000
attribute [local instance] mU hZ
attribute [local go_sem high] zG zF zH zV zN yu zD zl zn zt zi zu y9 zK yE zJ
theorem OQ (a:List Blk)(k:Nat)(h:k<a.length):uf 0 (a.take (k+1))=uf 0 (a.take k)++[{ a[k] with num:=(k:Int) }]:=by
 rw[List.take_succ_eq_append_getElem h,WN,List.length_take,Nat.min_eq_left (by omega),Nat.zero_add]
theorem Ll {b:Blk}(h:b.ok=true):TS b= .returned (.tuple #[sv b.text,.bool true]):=by unfold TS;rw[if_pos h,h]
theorem oG (a:List Blk)(A:Option Addr)(cap:Nat)(w:World)(o:Sl w A a.length cap 4 (zY a))(y:∀b ∈ a,b.ok=true)(hl:a.length≤100000):
 Calls prog 105 #[.slice A a.length cap] w (rS w (yA (mcO a))):=by
 have d3:=o.1;have d4:=o.2.1;have l:=fun(_:True)=>iK a A cap w o y oo;have d5:=uu a y;obtain⟨R,j⟩:∃R,mcO a=R:=⟨_,rfl⟩;rw[j];by_cases S:a.length≤40
 case neg=>
  have p:R=none:=(by rw[←j];unfold mcO;rw[if_neg (fun h=>S h.1)]);subst p;have b3:(40:Int)<a.length:=oo;unfold yA;clear j;go_enter func105,ntmps105;go_wp2;go_ret2;exact⟨rfl,Below.refl _ _⟩
 have b3:¬(40:Int)<a.length:=oo;by_cases U:zo a≤2000
 case neg=>
  have p:R=none:=(by rw[←j];unfold mcO;rw[if_neg (fun h=>U h.2)]);subst p;have b4:(2000:Int)<zo a:=oo;unfold yA;clear j;generalize zo a=z at*;go_enter func105,ntmps105;go_wp2_with fail;refine(l trivial).mono ?_;rintro e w1 ⟨rfl,b5⟩;go_wp2;go_ret2;exact⟨rfl,b5⟩
 have p:R=some (vJ (uf 0 a)):=(by rw[←j];unfold mcO;rw[if_pos ⟨S,U⟩]);subst p;have b4:¬(2000:Int)<zo a:=oo;have b6:=hid y;have b7:Hid (∀wr,Below w.heap.size w wr→Sl wr A a.length cap 4 (zY a)):=fun wr h=>o.below h;have V:Hid (yA (some (vJ (uf 0 a)))= .returned (.tuple #[sv (vJ (uf 0 a)),.bool true])):=rfl;rw[V.out];obtain⟨T,G⟩:∃T,vJ (uf 0 a)=T:=⟨_,rfl⟩;rw[G];have HT:=hid G;clear j o y G V;generalize zo a=z at*;go_enter func105,ntmps105;go_wp2_with fail;refine(l trivial).mono ?_;rintro e c ⟨rfl,H⟩;have b9:=H.size;clear l;have I:=TI (w:=c) (B:=c.heap.size) (Nat.le_refl _);have J:Below c.heap.size c (c.alloc (.cells #[.pointer none,.slice none 0 0] 128)):=zy;have K:Hid (∀wr,Below c.heap.size c wr→Below w.heap.size w wr):=fun wr h=>H.trans (h.mono oo);have W:c.heap.size≤(c.alloc (.cells #[.pointer none,.slice none 0 0] 128)).heap.size:=(by simp);obtain⟨f,Y⟩:∃f,c.heap.size=f:=⟨_,rfl⟩;rw[Y] at I J K b9 W;clear H;go_wp2;go_loopw [19] (fun i wr=>∃(k:Nat) (X:Bs),i= .int .i64 (k:Int)∧k≤a.length∧X.length≤74*k∧Hid (vJ (uf 0 (a.take k))=X)∧Go.Lib.IsBuilderF 128 5 f f (X.map u8v) wr∧Below f c wr) (fun i _=>a.length - (intOf i).toNat)
 case atStart=>exact⟨0,[],rfl,by omega,by simp,rfl,I,J⟩
 case round=>
  obtain⟨k,X,rfl,hk,hX,L,C,q⟩:=hrel;clear I J W;have M:=q.size;rw[Y] at M;have b':=K.out wr q;by_cases E:k<a.length
  ·have c4:(k:Int)<a.length:=oo
   have Z:=b7.out wr b';obtain⟨g,d8,rfl,hg,s⟩:=Sl.jf Z E;have t:=qp a k E;have c0:=s 0 _ t.1;have c1:=s 1 _ t.2.1;have c2:=s 2 _ t.2.2.1;have c3:=s 3 _ t.2.2.2;have m:=QI (b6.out a[k] (List.getElem_mem E)) (n:=(k:Int)) oo oo;have N:=hid (OQ a k E);generalize a[k]=b at*;obtain⟨n2,r,u,D⟩:=b;simp only at m N;have e0:=WY m;have a4:=Blk.vT m;have a5:=qO m;have O:=fun w=>Zv ⟨(k:Int),r,u,D⟩ w (by unfold Blk.sm;simp only at a4 a5⊢;omega);rw[Ll m] at O;have c5:Hid (vJ (uf 0 (a.take (k+1)))=X++(⟨(k:Int),r,u,D⟩:Blk).text):=(by show _=_;rw[N.out,az,L.out]);generalize(⟨(k:Int),r,u,D⟩:Blk).text=d at*;simp only[Nat.add_zero] at c0 c1 c2 c3;have P:Below wr.heap.size wr (wr.alloc (.cells (bkC ⟨(k:Int),r,u,D⟩) 122)):=zy;have a6:=jE C P;have Q:=Bk.new wr (bkC ⟨(k:Int),r,u,D⟩) 122;have g1:=q.trans (P.mono M);clear s t L N m Z C P a4 a5;go_upto_region 8 with(fail)
   generalize wr.alloc (.cells _ 122)=e1 at*;have c6:=Q.cell;have e2:=Q.lt;clear c0 c1 c2 c3;go_wp2_with fail;refine(O _).mono ?_;rintro e w2 ⟨rfl,F⟩;have z2:=F.size;have a8:=jE a6 F;have g2:=g1.trans (F.mono oo);clear O F a6 Q g1 c6;have cW:=XR f f (X.map u8v) d _ a8 (by simp;omega) (by omega);have a':(X++d).length≤74*(k+1):=(by simp;omega);have c8:=hid a';clear a';go_wp2_with fail;refine cW.mono ?_;rintro e w3 ⟨rfl,b1,x,k3⟩;have g3:=g2.trans x;have b2:Go.Lib.IsBuilderF 128 5 f f ((X++d).map u8v) w3:=(by rw[List.map_append];exact .inr b1);have d0:=hid b2;clear cW b1 x k3 a8 b2;go_wp2;go_roundw
   case rel=>exact⟨k+1,X++d,by go_num,oo,c8.out,c5,d0.out,g3⟩
   case measure=>simp [intOf];omega
  ·have c4:¬(k:Int)<a.length:=oo
   have h:T=X:=(by rw[←HT.out,←L.out,List.take_of_length_le (by omega)]);subst h;have l:=Tryz.Builder_String_any_k f f T wr (by unfold Go.Lib.byteCells;exact C) M;go_wp2_with fail;refine l.mono ?_;rintro e w3 ⟨rfl,_,x,_⟩;have gw:=K.out _ (q.trans x);clear l x q C;go_wp2;exact bodyPost_ret (v:=.tuple #[sv T,.bool true]) (by simp [results,results105,go_sem]) rfl ⟨rfl,gw⟩
theorem fE (o l m:Int)(dict d:Bs)(size:Int)(w:World)(S:dict.length≤9223372036854775807)(hd:d.length≤9223372036854775807)(a5: -1000000≤size)(a6:size≤1000000):
 Calls prog 73 #[.agg #[(o:Int),l,m],sv dict,sv d,size] w (rS w (yA (mkC o l m dict d size))):=by
 have t:Hid (¬(fits o l m dict∧1≤size∧size≤64∧(d.length:Int)≤size*40∧d.length≤2000)→yA (mkC o l m dict d size)= .returned (.tuple #[sv [],.bool false])):=fun h=>(by unfold mkC;rw[if_neg h];rfl);by_cases h1:fits o l m dict
 case neg=>
  have s:=hid (t.out (fun h=>h1 h.1));have q:=fun w=>ng o l m dict w h1 S;rw[s.out];clear h1 t s;go_enter func73,ntmps73;have c:Bk (w.alloc (.cells #[(o:Int),l,m] 24)) w.heap.size 24 #[(o:Int),l,m]:=tBk;have i:Below w.heap.size w (w.alloc (.cells #[(o:Int),l,m] 24)):=zy;go_upto_region 1 with(fail)
  generalize w.alloc (.cells #[(o:Int),l,m] 24)=C at*;have y:=c.cell;have D:=c.lt;go_wp2_with fail;refine(q _).mono ?_;rintro e p ⟨rfl,f⟩;have j:=i.trans (f.mono oo);have E:=j.size;go_wp2;exact bodyPost_ret (v:=.tuple #[sv [],.bool false]) (by simp [results,results73,go_sem]) rfl ⟨rfl,zy⟩
 have q:=fun w=>sW o l m dict w h1;have hk:=xN h1;have z:Hid (∀n:Nat,size=n→1≤n→n≤64→d.length≤n*40→d.length≤2000→yA (mkC o l m dict d size)=yA (mcO (mks (zA o l m dict) n d.length d))):=fun n h0 T hb hc N=>by
  rw[Je o l m dict d n T (by omega) N];unfold mkC;rw[if_pos ⟨h1,by omega,by omega,by omega,N⟩,h0,Int.toNat_natCast]
 unfold l7 at q;clear h1;generalize yA (mkC o l m dict d size)=a9 at*;generalize zA o l m dict=K at*;by_cases h2:1≤size∧size≤64
 case neg=>
  have s:=t.out (fun h=>h2 ⟨h.2.1,h.2.2.1⟩);have B:decide (1≤size∧size≤64)=false:=decide_eq_false h2;subst s;clear t z h2;go_enter func73,ntmps73;have c:Bk (w.alloc (.cells #[(o:Int),l,m] 24)) w.heap.size 24 #[(o:Int),l,m]:=tBk;have i:Below w.heap.size w (w.alloc (.cells #[(o:Int),l,m] 24)):=zy;go_upto_region 1 with(fail)
  generalize w.alloc (.cells #[(o:Int),l,m] 24)=C at*;have y:=c.cell;have D:=c.lt;go_wp2_with fail;refine(q _).mono ?_;rintro e p ⟨a,b,rfl,r,f⟩;have E:=f.size;have j:=i.trans (f.mono oo);have k:=Bk.new p (knC K a b) 94;have u:=r.alloc (.cells (knC K a b) 94);have g:=j.alloc oo (.cells (knC K a b) 94);clear f y c i r j q;go_upto_region 2 with(fail)
  unfold knC at k u g;generalize p.alloc (.cells #[(K.o:Int),(K.l:Int),(K.m:Int),.slice a K.ps.length b,(K.base:Int),(K.last:Int)] 94)=W at*;have F:=k.lt;have G:=g.size;go_wp2_with fail;refine(xB _ _).mono ?_;rintro e w' ⟨rfl,rfl⟩;rw[B];go_wp2;exact bodyPost_ret (v:=.tuple #[sv [],.bool false]) (by simp [results,results73,go_sem]) rfl ⟨rfl,g⟩
 have B:decide (1≤size∧size≤64)=true:=decide_eq_true h2;obtain⟨a',b0⟩:=h2;obtain⟨n,rfl⟩:=Int.eq_ofNat_of_zero_le (by omega:0≤size);have H:∀x:Int,(x≤40*(n:Int))↔x≤(n:Int)*40:=fun x=>(by omega);by_cases I:d.length≤2000
 case neg=>
  have s:=t.out (fun h=>I h.2.2.2.2);have U:(2000:Int)<d.length:=oo;subst s;clear t z H;go_enter func73,ntmps73;have c:Bk (w.alloc (.cells #[(o:Int),l,m] 24)) w.heap.size 24 #[(o:Int),l,m]:=tBk;have i:Below w.heap.size w (w.alloc (.cells #[(o:Int),l,m] 24)):=zy;go_upto_region 1 with(fail)
  generalize w.alloc (.cells #[(o:Int),l,m] 24)=C at*;have y:=c.cell;have D:=c.lt;go_wp2_with fail;refine(q _).mono ?_;rintro e p ⟨a,b,rfl,r,f⟩;have E:=f.size;have j:=i.trans (f.mono oo);have k:=Bk.new p (knC K a b) 94;have u:=r.alloc (.cells (knC K a b) 94);have g:=j.alloc oo (.cells (knC K a b) 94);clear f y c i r j q;go_upto_region 2 with(fail)
  unfold knC at k u g;generalize p.alloc (.cells #[(K.o:Int),(K.l:Int),(K.m:Int),.slice a K.ps.length b,(K.base:Int),(K.last:Int)] 94)=W at*;have F:=k.lt;have G:=g.size;go_wp2_with fail;refine(xB _ _).mono ?_;rintro e w' ⟨rfl,rfl⟩;rw[B];go_wp2;exact bodyPost_ret (v:=.tuple #[sv [],.bool false]) (by simp [results,results73,go_sem]) rfl ⟨rfl,g⟩
 have U:¬(2000:Int)<d.length:=oo;by_cases P:d.length≤n*40
 case neg=>
  have s:=t.out (fun h=>P (by have:=h.2.2.2.1;omega));have V:(40:Int)*(n:Int)<d.length:=oo;subst s;clear t z H;go_enter func73,ntmps73;have c:Bk (w.alloc (.cells #[(o:Int),l,m] 24)) w.heap.size 24 #[(o:Int),l,m]:=tBk;have i:Below w.heap.size w (w.alloc (.cells #[(o:Int),l,m] 24)):=zy;go_upto_region 1 with(fail)
  generalize w.alloc (.cells #[(o:Int),l,m] 24)=C at*;have y:=c.cell;have D:=c.lt;go_wp2_with fail;refine(q _).mono ?_;rintro e p ⟨a,b,rfl,r,f⟩;have E:=f.size;have j:=i.trans (f.mono oo);have k:=Bk.new p (knC K a b) 94;have u:=r.alloc (.cells (knC K a b) 94);have g:=j.alloc oo (.cells (knC K a b) 94);clear f y c i r j q;go_upto_region 2 with(fail)
  unfold knC at k u g;generalize p.alloc (.cells #[(K.o:Int),(K.l:Int),(K.m:Int),.slice a K.ps.length b,(K.base:Int),(K.last:Int)] 94)=W at*;have F:=k.lt;have G:=g.size;go_wp2_with fail;refine(xB _ _).mono ?_;rintro e w' ⟨rfl,rfl⟩;rw[B];go_wp2;exact bodyPost_ret (v:=.tuple #[sv [],.bool false]) (by simp [results,results73,go_sem]) rfl ⟨rfl,g⟩
 ·have V:¬(40:Int)*(n:Int)<d.length:=oo
  have s:=z.out n rfl oo oo P I;have J:Hid (∀A cap wr,Sl wr A K.ps.length cap 2 (psV K.ps)→Calls prog 106 #[knV K A cap,sv d,(n:Int)] wr (BkR (mks K n d.length d) wr)):=fun A cap wr L=>kW K A cap d n wr hk L oo oo I;have X:Hid (∀A cap wr,Sl wr A (mks K n d.length d).length cap 4 (zY (mks K n d.length d))→Calls prog 105 #[.slice A (mks K n d.length d).length cap] wr (rS wr (yA (mcO (mks K n d.length d))))):=fun A cap wr L=>oG _ A cap wr L (Z5 hk n _ (by omega) (by omega) d) (by have:=tZ n (by omega) 40 d.length d (by omega);unfold mks;rw[List.length_map];omega);unfold BkR at J;subst s;clear t z H hk;generalize mks K n d.length d=Y at*;generalize mcO Y=O at*;go_enter func73,ntmps73;have c:Bk (w.alloc (.cells #[(o:Int),l,m] 24)) w.heap.size 24 #[(o:Int),l,m]:=tBk;have i:Below w.heap.size w (w.alloc (.cells #[(o:Int),l,m] 24)):=zy;go_upto_region 1 with(fail)
  generalize w.alloc (.cells #[(o:Int),l,m] 24)=C at*;have y:=c.cell;have D:=c.lt;go_wp2_with fail;refine(q _).mono ?_;rintro e p ⟨a,b,rfl,r,f⟩;have E:=f.size;have j:=i.trans (f.mono oo);have k:=Bk.new p (knC K a b) 94;have u:=r.alloc (.cells (knC K a b) 94);have g:=j.alloc oo (.cells (knC K a b) 94);clear f y c i r j q;go_upto_region 2 with(fail)
  unfold knC at k u g;generalize p.alloc (.cells #[(K.o:Int),(K.l:Int),(K.m:Int),.slice a K.ps.length b,(K.base:Int),(K.last:Int)] 94)=W at*;have F:=k.lt;have G:=g.size;go_wp2_with fail;refine(xB _ _).mono ?_;rintro e w' ⟨rfl,rfl⟩;rw[B];have Q:=Sl.own u;have Z:=k.cell;go_wp2_with fail;refine(J.out _ _ _ Q).mono ?_;rintro e w3 ⟨A3,c3,rfl,R,M⟩;have g3:=g.trans (M.mono oo);have s3:=Sl.own R;have z3:=M.size;clear J Q M R g k Z u;go_wp2_with fail;refine(X.out _ _ _ s3).mono ?_;rintro e w4 ⟨rfl,b4⟩;have g4:=g3.trans (b4.mono oo);unfold yA;go_wp2;exact bodyPost_ret (v:=.tuple #[sv (O.getD []),.bool O.isSome]) (by simp [results,results73,go_sem]) rfl ⟨rfl,g4⟩
theorem Y8 (K:Kn)(c:Option Addr)(f:Nat)(a:List Blk)(A:Option Addr)(cap:Nat)(w:World)(hk:K.ok)(M:Sl w c K.ps.length f 2 (psV K.ps))(m:Sl w A a.length cap 4 (zY a))(N:∀b ∈ a,b.ok=true)(hl:a.length≤100000):
 Calls prog 63 #[knV K c f,.slice A a.length cap] w (rS w (xw (yM K a))):=by
 have cL:Hid (∀b w,b.ok=true→Sl w c K.ps.length f 2 (psV K.ps)→Calls prog 95 #[knV K c f,bkV b] w (rS w (xw (b.dat K)))):=fun b w h m=>nG K c f b w hk m (by have:=qO h;omega);clear hk;have d3:=m.1;have d4:=m.2.1;have b9:=hid N;clear N;have b':Hid (∀wr,Below w.heap.size w wr→Sl wr A a.length cap 4 (zY a)∧Sl wr c K.ps.length f 2 (psV K.ps)):=fun wr h=>⟨m.below h,M.below h⟩;clear m M;obtain⟨R,D⟩:∃R,yM K a=R:=⟨_,rfl⟩;rw[D];have O:=hid D;clear D;go_enter func63,ntmps63;have E:Bk (w.alloc (.cells (knC K c f) 94)) w.heap.size 94 (knC K c f):=tBk;have P:Below w.heap.size w (w.alloc (.cells (knC K c f) 94)):=zy;go_upto_region 1 with(fail)
 generalize w.alloc (.cells (knC K c f) 94)=j at*;have Q:=E.lt;have F:=TI (w:=j) (B:=j.heap.size) (Nat.le_refl _);have G:Below j.heap.size j (j.alloc (.cells #[.pointer none,.slice none 0 0] 128)):=zy;have x:Hid (∀wr,Below j.heap.size j wr→Bk wr w.heap.size 94 (knC K c f)∧Below w.heap.size w wr):=fun wr h=>⟨E.below h Q,P.trans (h.mono oo)⟩;clear E P;have S:j.heap.size≤(j.alloc (.cells #[.pointer none,.slice none 0 0] 128)).heap.size:=(by simp);obtain⟨l,U⟩:∃l,j.heap.size=l:=⟨_,rfl⟩;rw[U] at F G x Q S;go_wp2;go_loopw [13] (fun i wr=>∃(k:Nat) (X:Bs),i= .int .i64 (k:Int)∧k≤a.length∧X.length≤64*k∧Hid (yM K (a.take k)=some X)∧Go.Lib.IsBuilderF 128 5 l l (X.map u8v) wr∧Below l j wr) (fun i _=>a.length - (intOf i).toNat)
 case atStart=>exact⟨0,[],rfl,by omega,by simp,rfl,F,G⟩
 case round=>
  obtain⟨k,X,rfl,hk,hX,H,y,n⟩:=hrel;clear F G S;have I:=n.size;rw[U] at I;obtain⟨V,c0⟩:=x.out wr n;by_cases o:k<a.length
  ·have c4:(k:Int)<a.length:=oo
   obtain⟨W,Y⟩:=b'.out wr c0;obtain⟨g,d6,rfl,hg,p⟩:=Sl.jf W o;have q:=qp a k o;have Z:=p 0 _ q.1;have c1:=p 1 _ q.2.1;have c2:=p 2 _ q.2.2.1;have c3:=p 3 _ q.2.2.2;have z:=b9.out a[k] (List.getElem_mem o);have cD:=fun w=>cL.out a[k] w z;have HN:Hid (a[k].dat K=none→R=none):=fun h=>(by rw[←O.out];exact gU o h);have HS:Hid (∀d,a[k].dat K=some d→yM K (a.take (k+1))=some (X++d)):=fun d h=>iO o H.out h;have HL:Hid (∀d,a[k].dat K=some d→d.length≤64):=fun d h=>(by have:=tY z h;have:=Blk.vT z;omega);generalize a[k].dat K=c5 at*;generalize a[k]=b at*;obtain⟨s,r,t,T⟩:=b;simp only[Nat.add_zero] at Z c1 c2 c3;have a7:=jE y ((Below.refl _ wr).alloc (Nat.le_refl _) (.cells (bkC ⟨s,r,t,T⟩) 122));have a8:=V.alloc (.cells (bkC ⟨s,r,t,T⟩) 122);have J:=Bk.new wr (bkC ⟨s,r,t,T⟩) 122;have a9:=Y.alloc (.cells (bkC ⟨s,r,t,T⟩) 122);have g1:=n.alloc I (.cells (bkC ⟨s,r,t,T⟩) 122);clear p q H z W Y y V;go_upto_region 5 with(fail)
   generalize wr.alloc (.cells _ 122)=d8 at*;have c6:=a8.cell;have c7:=J.cell;have d9:=J.lt;clear Z c1 c2 c3;go_wp2_with fail;refine(cD _ a9).mono ?_;rintro e w2 ⟨rfl,C⟩;have z2:=C.size;have b0:=jE a7 C;have g2:=g1.trans (C.mono oo);clear cD C a7 a8 J a9 g1 c6 c7
   cases c5 with
   |none=>
    have h:=HN.out rfl;subst h;have L:=(x.out _ g2).2;unfold xw;go_wp2;exact bodyPost_ret (v:=.tuple #[sv [],.bool false]) (by simp [results,results63,go_sem]) rfl ⟨rfl,L⟩
   |some d=>
    have c8:=hid (HS.out d rfl);have e1:=HL.out d rfl;have cW:=XR l l (X.map u8v) d _ b0 (by simp;omega) (by omega);have b3:(X++d).length≤64*(k+1):=(by simp;omega);have c9:=hid b3;clear b3 HS HN HL;unfold xw;go_wp2_with fail;refine cW.mono ?_;rintro e w3 ⟨rfl,b5,u,k3⟩;have g3:=g2.trans u;have b6:Go.Lib.IsBuilderF 128 5 l l ((X++d).map u8v) w3:=(by rw[List.map_append];exact .inr b5);have d1:=hid b6;clear cW b5 u k3 b0 b6;go_wp2;go_roundw
    case rel=>exact⟨k+1,X++d,by go_num,oo,c9.out,c8,d1.out,g3⟩
    case measure=>simp [intOf];omega
  ·have c4:¬(k:Int)<a.length:=oo
   have h:R=some X:=(by rw[←O.out,←H.out,List.take_of_length_le (by omega)]);subst h;have cS:=Tryz.Builder_String_any_k l l X wr (by unfold Go.Lib.byteCells;exact y) I;go_wp2_with fail;refine cS.mono ?_;rintro e w3 ⟨rfl,_,u,_⟩;have L:=(x.out _ (n.trans u)).2;clear cS u n y;go_wp2;exact bodyPost_ret (v:=.tuple #[sv X,.bool true]) (by simp [results,results63,go_sem]) rfl ⟨rfl,L⟩
theorem dE (o l m:Int)(dict t:Bs)(w:World)(I:dict.length≤9223372036854775807)(J:t.length≤1500000):
 Calls prog 36 #[.agg #[(o:Int),l,m],sv dict,sv t] w (rS w (xw (cdB o l m dict t))):=by
 by_cases c:fits o l m dict
 ·have k:=fun w=>sW o l m dict w c
  have y:=fun w=>uY t w J;have hk:=xN c;have z:Hid (zX t=none→cdB o l m dict t=none):=fun h=>UU h;have A:Hid (∀a,zX t=some a→cdB o l m dict t=yM (zA o l m dict) a):=fun a h2=>sU c h2;have B:Hid (∀a,zX t=some a→(∀b ∈ a,b.ok=true)∧a.length≤40):=fun a h=>⟨xU h,(xI h).2⟩;clear c;unfold l7 at k;generalize cdB o l m dict t=R at*;generalize zX t=L at*;generalize zA o l m dict=K at*;go_enter func36,ntmps36;have d:Bk (w.alloc (.cells #[(o:Int),l,m] 24)) w.heap.size 24 #[(o:Int),l,m]:=tBk;have n:Below w.heap.size w (w.alloc (.cells #[(o:Int),l,m] 24)):=zy;go_upto_region 1 with(fail)
  generalize w.alloc (.cells #[(o:Int),l,m] 24)=M at*;have C:=d.cell;have N:=d.lt;go_wp2_with fail;refine(k _).mono ?_;rintro e s ⟨f,g,rfl,D,i⟩;have O:=i.size;have p:=n.trans (i.mono oo);have q:=Bk.new s (knC K f g) 94;have u:=D.alloc (.cells (knC K f g) 94);have r:=p.alloc oo (.cells (knC K f g) 94);clear i C d n D p;go_upto_region 2 with(fail)
  unfold knC at q u r;generalize s.alloc (.cells #[K.o,K.l,K.m,.slice f K.ps.length g,K.base,K.last] 94)=W at*;have P:=q.lt;go_wp2_with fail;refine(y _).mono ?_;rintro e Q ⟨S,T,rfl,E,j⟩;have Z:=j.size;have U:=q.below j P;have x:=r.trans (j.mono (by have:=r.size;omega));have V:=Sl.own (zf u j);have F:=QM E;have a0:=U.cell;clear j E u r q y
  cases L with
  |none=>
   have h:=z.out rfl;subst h;go_wp2;exact bodyPost_ret (v:=.tuple #[sv [],.bool false]) (by simp [results,results36,go_sem]) rfl ⟨rfl,x⟩
  |some a=>
   simp only[Option.getD_some,Option.isSome_some] at F⊢;have G:=A.out a rfl;obtain⟨h1,h2⟩:=B.out a rfl;have H:=Y8 K f g a S T Q hk V F h1 oo;rw[←G] at H;clear z A B h1 hk G;go_wp2_with fail;refine H.mono ?_;rintro e w4 ⟨rfl,X⟩;have Y:=x.trans (X.mono (by have:=x.size;omega));unfold xw;go_wp2;exact bodyPost_ret (v:=.tuple #[sv (R.getD []),.bool R.isSome]) (by simp [results,results36,go_sem]) rfl ⟨rfl,Y⟩
 ·have k:=fun w=>ng o l m dict w c I
  rw[Mc c];clear c;go_enter func36,ntmps36;have d:Bk (w.alloc (.cells #[(o:Int),l,m] 24)) w.heap.size 24 #[(o:Int),l,m]:=tBk;have n:Below w.heap.size w (w.alloc (.cells #[(o:Int),l,m] 24)):=zy;go_upto_region 1 with(fail)
  generalize w.alloc (.cells #[(o:Int),l,m] 24)=M at*;have C:=d.cell;have N:=d.lt;go_wp2_with fail;refine(k _).mono ?_;rintro e s ⟨rfl,i⟩;have p:=n.trans (i.mono oo);have O:=p.size;go_wp2;exact bodyPost_ret (v:=.tuple #[sv [],.bool false]) (by simp [results,results36,go_sem]) rfl ⟨rfl,zy⟩
end Go.Proofs.YtoedhpcmgondjaaGreatDoor
namespace Go.Proofs.YtoedhpcmgondjaaGreatDoor
open Go.Lib(hid)
open Go.RowKit Go.Proofs.Tryz
set_option maxRecDepth 100000
attribute [local instance] mU hZ cvZ
attribute [local go_sem high] zG zF zH zV zN yu zD zl zn zt zi zu y9 zK yE zJ
attribute [local go_sem high] oO oJ
theorem Sl.fl {w:World}{A:Option Addr}{fs:List Fl}{cap:Nat}(h:Sl w A fs.length cap 2 (yz fs)){k:Nat}(hk:k<fs.length):∃g a,A=some ⟨g,a,none⟩∧g<w.heap.size∧
 w.cell? ⟨g,a+k*2,none⟩=some (.string ⟨fs[k].1.toArray⟩)∧w.cell? ⟨g,a+k*2+1,none⟩=some (.string ⟨fs[k].2.toArray⟩):=by
 obtain⟨g,a,e,d,b⟩:=Sl.jf h hk;have c:=ZJ fs k hk;exact⟨g,a,e,d,b 0 _ c.1,b 1 _ c.2⟩
theorem Sl.prev {w:World}{A:Option Addr}{fs:List Fl}{cap:Nat}(h:Sl w A fs.length cap 2 (yz fs)){j:Nat}(hk:j+1<fs.length){g a:Nat}(b:A=some ⟨g,a,none⟩):
 w.cell? ⟨g,a+j*2,none⟩=some (.string ⟨(lZ fs (j+1)).toArray⟩):=by
 obtain⟨d,f,e,_,c,_⟩:=Sl.fl h (show j<fs.length by omega);rw[b] at e;injection e with e
 injection e with e1 e2
 subst e1 e2;unfold lZ;rw[Nat.add_sub_cancel,List.getElem?_eq_getElem (by omega)];exact c
theorem kE (S:Sto)(A:Option Addr)(cap:Nat)(w:World)(K:Sl w A S.fs.length cap 2 (yz S.fs))(hd:S.dict.length≤1500000)(hl:S.fs.length≤1500000)(r:∀f ∈ S.fs,f.1.length≤1500000∧f.2.length≤1500000):
 Calls prog 18 #[S.V A cap] w (rT w (.bool S.okB)):=by
 have d':=K.1;have e0:=K.2.1;have a':Hid (∀wr,Below w.heap.size w wr→Sl wr A S.fs.length cap 2 (yz S.fs)):=fun wr h=>K.below h;have HB:=hid r;clear K r;have F:=fun w=>uT S.o S.l S.m S.dict w oo;have R:Hid (¬fits S.o S.l S.m S.dict→S.okB=false):=Sto.UB;have T:Hid (¬S.fs.length≤6→S.okB=false):=Sto.PD;have U:Hid (∀(k:Nat) (hk:k<S.fs.length),¬(vV S.fs[k].1=true∧(cdB S.o S.l S.m S.dict S.fs[k].2).isSome=true∧(k=0∨Op.bytesLess (lZ S.fs k) S.fs[k].1=true))→S.okB=false):=fun k hk h=>Sto.Oe (hk:=hk) fun h2=>h ((Sto.dw hk).1 h2);have X:Hid (∀(k:Nat) (hk:k<S.fs.length),(vV S.fs[k].1=true∧(cdB S.o S.l S.m S.dict S.fs[k].2).isSome=true∧(k=0∨Op.bytesLess (lZ S.fs k) S.fs[k].1=true))→S.fine k hk):=fun k hk h=>(Sto.dw hk).2 h;have Y:Hid (∀(k:Nat) (hk:k<S.fs.length),(∀(i:Nat) (h:i<S.fs.length),i<k→S.fine i h)→S.fine k hk→∀(i:Nat) (h:i<S.fs.length),i<k+1→S.fine i h):=fun k hk L h=>Sto.bG L hk h;have M:Hid (fits S.o S.l S.m S.dict→S.fs.length≤6→(∀(i:Nat) (hi:i<S.fs.length),i<S.fs.length→S.fine i hi)→S.okB=true):=fun h h2 h3=>Sto.Po h h2 h3;generalize S.okB=e1 at*;generalize Sto.fine S=P at*;obtain⟨o,l,m,dict,fs⟩:=S;simp only at*;go_enter func18,ntmps18;have N:Bk (w.alloc (.cells #[(o:Int),l,m,dict,.slice A fs.length cap] 29)) w.heap.size 29 #[(o:Int),l,m,dict,.slice A fs.length cap]:=tBk;have Z:Below w.heap.size w (w.alloc (.cells #[(o:Int),l,m,dict,.slice A fs.length cap] 29)):=zy;go_upto_region 1 with(fail)
 generalize w.alloc (.cells #[(o:Int),l,m,dict,.slice A fs.length cap] 29)=w0 at*;have b':=N.cell;have c0:=N.lt;by_cases G:fits o l m dict
 case neg=>
  rw[show decide (fits o l m dict)=false by simpa using G] at F;have h:=R.out G;subst h;clear U X Y M T;go_wp2_with fail;refine(F _).mono ?_;rintro e w1 ⟨rfl,s⟩;have H:=Z.trans (s.mono oo);clear s;go_wp2;go_ret;exact⟨rfl,H⟩
 rw[show decide (fits o l m dict)=true by simpa using G] at F;go_wp2_with fail;refine(F _).mono ?_;rintro e w1 ⟨rfl,s⟩;have e3:=s.size;have a0:=N.below s c0;have H:=Z.trans (s.mono oo);have c2:=a0.cell;clear s N Z b' F;by_cases h6:fs.length≤6
 case neg=>
  have h:=T.out h6;subst h;have c3:(6:Int)<fs.length:=oo;clear U X Y M R;go_wp2;go_ret;exact⟨rfl,H⟩
 have c3:¬(6:Int)<fs.length:=oo;have c4:=hid (M.out G h6);have cC:Hid (∀t w,t.length≤1500000→Calls prog 36 #[.agg #[(o:Int),l,m],sv dict,sv t] w (rS w (xw (cdB o l m dict t)))):=fun t w h=>dE o l m dict t w oo h;clear M R T G;go_wp2;go_loopw [22] (fun i wr=>∃k:Nat,i= .int .i64 (k:Int)∧k≤fs.length∧Hid (∀(i:Nat) (h:i<fs.length),i<k→P i h)∧Bk wr w.heap.size 29 #[(o:Int),l,m,dict,.slice A fs.length cap]∧Below w.heap.size w wr) (fun i _=>fs.length - (intOf i).toNat)
 case atStart=>exact⟨0,rfl,oo,fun i h hi=>by omega,a0,H⟩
 case round=>
  obtain⟨k,rfl,hk,HA,hK,r⟩:=hrel;clear a0 H c2;have hz:=r.size;have e4:=hK.lt;by_cases C:k<fs.length
  ·have c7:(k:Int)<fs.length:=oo
   obtain⟨g,c8,L,hg,c9,c1⟩:=(a'.out wr r).fl C;have d0:=HB.out fs[k] (List.getElem_mem C);have q:=hid (U.out k C);have u:Hid (_→∀(i:Nat) (h:i<fs.length),i<k+1→P i h):=fun h=>Y.out k C HA.out (X.out k C h);have hP:k=0∨∃j,k=j+1:=by
    cases k with
    |zero=>exact .inl rfl
    |succ j=>exact .inr ⟨j,rfl⟩
   have O:Hid (∀j W,k=j+1→Below w.heap.size w W→W.cell? ⟨g,c8+j*2,none⟩=some (.string ⟨(lZ fs k).toArray⟩)):=fun j W e h=>(by subst e;exact(a'.out W h).prev C L);generalize fs[k].1=b at*;generalize fs[k].2=x at*;generalize lZ fs k=pv at*;subst L;obtain⟨s,e6⟩:=d0;have D:=hK.alloc (.cells #[b,x] 60);have E:=Bk.new wr #[b,x] 60;have c:=r.alloc hz (.cells #[b,x] 60);clear hK;go_upto_region 6 with(fail)
   generalize wr.alloc (.cells #[b,x] 60)=W at*;have hX:=D.cell;have hY:=E.cell;have a4:=E.lt;have hG:=zM hX D.lt;have b5:=zM hY a4;clear c9 c1 r;have v:∀w,Calls prog 35 #[b] w (rT w (.bool (vV b))):=fun w=>(iG b w oo).mono fun e w' h=>⟨h.1,h.2▸Below.refl _ _⟩;have Q:=cC.out x;by_cases h1:vV b=true
   case neg=>
    have h:=q.out (fun h=>h1 h.1);subst h;rw[show vV b=false by simpa using h1] at v;clear q u;refine wp_region_quiet_below kr kr ?_;repeat(go_big_quiet_step ((go_at_call 35;exact Calls.regrown_of (v _))))
    refine wpQuiet_nil ?_;intro y n;have a:Below _ _ y:=zh n;clear n;have p:=c.trans (a.mono (by have:=c.size;omega));go_wp2;go_ret;exact⟨rfl,p⟩
   rw[h1] at v;by_cases h2:k=0∨Op.bytesLess pv b=true
   case neg=>
    have h:=q.out (fun h=>h2 h.2.2);subst h;obtain⟨d1,b6⟩:=not_or.1 h2;have d2:Op.bytesLess pv b=false:=(by simpa using b6);obtain⟨j,rfl⟩:=hP.resolve_left d1;have cp:=O.out j W rfl c;have CP:=fun d os=>cell_regrown cp d os;have d3:(0:Int)<((j+1:Nat):Int):=oo;have d4:(0:Int)<(j:Int)+1:=oo;have d5:(j:Int)<fs.length:=oo;clear q u h2 b6;refine wp_region_quiet_below kr kr ?_;repeat(go_big_quiet_step ((go_at_call 35;exact Calls.regrown_of (v _))))
    refine wpQuiet_nil ?_;intro y n;have a:Below _ _ y:=zh n;clear n;have p:=c.trans (a.mono (by have:=c.size;omega));go_wp2;go_ret;exact⟨rfl,p⟩
   rcases hP with rfl|⟨j,rfl⟩
   ·clear O
    refine wp_region_quiet_below kr kr ?_;repeat(go_big_quiet_step ((go_at_call 35;exact Calls.regrown_of (v _))))
    refine wpQuiet_nil ?_;intro y n;have a:Below _ _ y:=zh n;clear n;have z3:=a.size;have z:=D.below a oo;have I:=E.below a a4;have p:=c.trans (a.mono (by have:=c.size;omega));have a6:=z.cell;have a7:=I.cell;clear a D E c hX hY hG b5 v;go_wp2_with fail;refine(Q _ oo).mono ?_;rintro e w4 ⟨rfl,B⟩;have a8:=z.below B oo;have J:=p.trans (B.mono (by have:=p.size;omega));clear B z I p a6 a7 Q;unfold xw
    cases hcd:cdB o l m dict x with
    |none=>
     have h:=q.out (fun h=>by have:=h.2.1;rw[hcd] at this;cases this);subst h;clear q u;go_wp2;go_ret;exact⟨rfl,J⟩
    |some d=>
     have a9:=hid (u.out ⟨h1,by rw[hcd];rfl,h2⟩);clear q u hcd;go_wp2;go_roundw
     case rel=>exact⟨_,(by go_num),oo,a9,a8,J⟩
     case measure=>simp [intOf];omega
   ·have d2:Op.bytesLess pv b=true:=h2.resolve_left oo
    have cp:=O.out j W rfl c;have CP:=fun d os=>cell_regrown cp d os;have d3:(0:Int)<((j+1:Nat):Int):=oo;have d4:(0:Int)<(j:Int)+1:=oo;have d5:(j:Int)<fs.length:=oo;refine wp_region_quiet_below kr kr ?_;repeat(go_big_quiet_step ((go_at_call 35;exact Calls.regrown_of (v _))))
    refine wpQuiet_nil ?_;intro y n;have a:Below _ _ y:=zh n;clear n;clear cp CP O;have z3:=a.size;have z:=D.below a oo;have I:=E.below a a4;have p:=c.trans (a.mono (by have:=c.size;omega));have a6:=z.cell;have a7:=I.cell;clear a D E c hX hY hG b5 v;go_wp2_with fail;refine(Q _ oo).mono ?_;rintro e w4 ⟨rfl,B⟩;have a8:=z.below B oo;have J:=p.trans (B.mono (by have:=p.size;omega));clear B z I p a6 a7 Q;unfold xw
    cases hcd:cdB o l m dict x with
    |none=>
     have h:=q.out (fun h=>by have:=h.2.1;rw[hcd] at this;cases this);subst h;clear q u;go_wp2;go_ret;exact⟨rfl,J⟩
    |some d=>
     have a9:=hid (u.out ⟨h1,by rw[hcd];rfl,h2⟩);clear q u hcd;go_wp2;go_roundw
     case rel=>exact⟨_,(by go_num),oo,a9,a8,J⟩
     case measure=>simp [intOf];omega
  ·have c7:¬(k:Int)<fs.length:=oo
   have h:=c4.out (fun i h _=>HA.out i h oo);subst h;go_wp2;go_ret;exact⟨rfl,r⟩
theorem Zq (S:Sto)(A:Option Addr)(cap:Nat)(w:World)(I:Sl w A S.fs.length cap 2 (yz S.fs))(hd:S.dict.length≤1500000)(hl:S.fs.length≤1500000)(r:∀f ∈ S.fs,f.1.length≤1500000∧f.2.length≤1500000):
 Calls prog 100 #[S.V A cap] w (rT w (.bool S.okB)):=by
 have d':=I.1;have e0:=I.2.1;have O:Hid (∀wr,Below w.heap.size w wr→Sl wr A S.fs.length cap 2 (yz S.fs)):=fun wr h=>I.below h;have HB:=hid r;clear I r;have C:=fun w=>qy S.o S.l S.m S.dict w oo;have Q:Hid (¬fits S.o S.l S.m S.dict→S.okB=false):=Sto.UB;have R:Hid (¬S.fs.length≤6→S.okB=false):=Sto.PD;have T:Hid (∀(k:Nat) (hk:k<S.fs.length),¬(vV S.fs[k].1=true∧(cdB S.o S.l S.m S.dict S.fs[k].2).isSome=true∧(k=0∨Op.bytesLess (lZ S.fs k) S.fs[k].1=true))→S.okB=false):=fun k hk h=>Sto.Oe (hk:=hk) fun h2=>h ((Sto.dw hk).1 h2);have U:Hid (∀(k:Nat) (hk:k<S.fs.length),(vV S.fs[k].1=true∧(cdB S.o S.l S.m S.dict S.fs[k].2).isSome=true∧(k=0∨Op.bytesLess (lZ S.fs k) S.fs[k].1=true))→S.fine k hk):=fun k hk h=>(Sto.dw hk).2 h;have X:Hid (∀(k:Nat) (hk:k<S.fs.length),(∀(i:Nat) (h:i<S.fs.length),i<k→S.fine i h)→S.fine k hk→∀(i:Nat) (h:i<S.fs.length),i<k+1→S.fine i h):=fun k hk D h=>Sto.bG D hk h;have J:Hid (fits S.o S.l S.m S.dict→S.fs.length≤6→(∀(i:Nat) (hi:i<S.fs.length),i<S.fs.length→S.fine i hi)→S.okB=true):=fun h h2 h3=>Sto.Po h h2 h3;generalize S.okB=e3 at*;generalize Sto.fine S=P at*;obtain⟨o,l,m,dict,fs⟩:=S;simp only at*;go_enter func100,ntmps100;have K:Bk (w.alloc (.cells #[(o:Int),l,m,dict,.slice A fs.length cap] 29)) w.heap.size 29 #[(o:Int),l,m,dict,.slice A fs.length cap]:=tBk;have Y:Below w.heap.size w (w.alloc (.cells #[(o:Int),l,m,dict,.slice A fs.length cap] 29)):=zy;go_upto_region 1 with(fail)
 generalize w.alloc (.cells #[(o:Int),l,m,dict,.slice A fs.length cap] 29)=w0 at*;have b6:=K.cell;have b7:=K.lt;by_cases E:fits o l m dict
 case neg=>
  rw[show decide (fits o l m dict)=false by simpa using E] at C;have h:=Q.out E;subst h;clear T U X J R;go_wp2_with fail;refine(C _).mono ?_;rintro e w1 ⟨rfl,s⟩;have F:=Y.trans (s.mono oo);clear s;go_wp2;go_ret;exact⟨rfl,F⟩
 rw[show decide (fits o l m dict)=true by simpa using E] at C;go_wp2_with fail;refine(C _).mono ?_;rintro e w1 ⟨rfl,s⟩;have e5:=s.size;have Z:=K.below s b7;have F:=Y.trans (s.mono oo);have b9:=Z.cell;clear s K Y b6 C;by_cases h6:fs.length≤6
 case neg=>
  have h:=R.out h6;subst h;have b':(6:Int)<fs.length:=oo;clear T U X J Q;go_wp2;go_ret;exact⟨rfl,F⟩
 have b':¬(6:Int)<fs.length:=oo;have c0:=hid (J.out E h6);have cC:Hid (∀t w,t.length≤1500000→Calls prog 127 #[.agg #[(o:Int),l,m],sv dict,sv t] w (rS w (xw (cdB o l m dict t)))):=fun t w h=>pO o l m dict t w oo h;clear J Q R E;go_wp2;go_loopw [3] (fun i wr=>∃k:Nat,i= .int .i64 (k:Int)∧k≤fs.length∧Hid (∀(i:Nat) (h:i<fs.length),i<k→P i h)∧Bk wr w.heap.size 29 #[(o:Int),l,m,dict,.slice A fs.length cap]∧Below w.heap.size w wr) (fun i _=>fs.length - (intOf i).toNat)
 case atStart=>exact⟨0,rfl,oo,fun i h hi=>by omega,Z,F⟩
 case round=>
  obtain⟨k,rfl,hk,HA,G,r⟩:=hrel;clear Z F b9;have hz:=r.size;have a5:=G.lt;have e6:=G.cell;by_cases v:k<fs.length
  ·have c5:(k:Int)<fs.length:=oo
   obtain⟨g,a6,D,hg,c6,c1⟩:=(O.out wr r).fl v;have c7:=HB.out fs[k] (List.getElem_mem v);have x:=hid (T.out k v);have H:Hid (_→∀(i:Nat) (h:i<fs.length),i<k+1→P i h):=fun h=>X.out k v HA.out (U.out k v h);have hP:k=0∨∃j,k=j+1:=by
    cases k with
    |zero=>exact .inl rfl
    |succ j=>exact .inr ⟨j,rfl⟩
   have L:Hid (∀j W,k=j+1→Below w.heap.size w W→W.cell? ⟨g,a6+j*2,none⟩=some (.string ⟨(lZ fs k).toArray⟩)):=fun j W e h=>(by subst e;exact(O.out W h).prev v D);have c8:Hid (∀W,Below w.heap.size w W→W.cell? ⟨g,a6+k*2,none⟩=some (.string ⟨fs[k].1.toArray⟩)):=fun W h=>by
    obtain⟨g',e9,e,_,c,_⟩:=(O.out W h).fl v;rw[D] at e;injection e with e;injection e with e1 e2;subst e1 e2;exact c
   generalize fs[k].1=u at*;generalize fs[k].2=tx at*;generalize lZ fs k=pv at*;subst D;obtain⟨s,e'⟩:=c7;have hX:=G.cell;have hG:=zM hX a5;have C1:=fun d y=>cell_regrown c1 d y;have cD:=fun w=>cC.out tx w oo;go_wp2_with fail;refine wp_region_quiet_below kr kr ?_;repeat(go_big_quiet_step ((go_at_call 127;exact Calls.regrown_of (cD _))))
   refine wpQuiet_nil ?_;intro M a;have N:Below _ _ M:=zh a;clear a;have z3:=N.size;have z:=G.below N a5;have b:=r.trans (N.mono hz);have c3:=c8.out M b;have d0:=z.cell;have f1:=zM d0 z.lt;have C3:=fun d y=>cell_regrown c3 d y;clear N G r hX hG c6 c1 C1 cD;have B:∀w,Calls prog 136 #[u] w (rT w (.bool (vV u))):=fun w=>(YF u w oo).mono fun e w' h=>⟨h.1,h.2▸Below.refl _ _⟩
   cases hcd:cdB o l m dict tx with
   |none=>
    have h:=x.out (fun h=>by have:=h.2.1;rw[hcd] at this;cases this);subst h;clear x H hcd;go_wp2_with fail;refine wp_region_quiet_below kr kr ?_;repeat(go_big_quiet_step ((fail)))
    refine wpQuiet_nil ?_;intro p a;have n:Below _ _ p:=zh a;clear a;have q:=b.trans (n.mono (by have:=b.size;omega));go_wp2;go_ret;exact⟨rfl,q⟩
   |some d=>
    have d2:(cdB o l m dict tx).isSome=true:=(by rw[hcd];rfl);clear hcd;by_cases h1:vV u=true
    case neg=>
     have h:=x.out (fun h=>h1 h.1);subst h;rw[show vV u=false by simpa using h1] at B;clear x H;go_wp2_with fail;refine wp_region_quiet_below kr kr ?_;repeat(go_big_quiet_step ((go_at_call 136;exact Calls.regrown_of (B _))))
     refine wpQuiet_nil ?_;intro p a;have n:Below _ _ p:=zh a;clear a;have q:=b.trans (n.mono (by have:=b.size;omega));go_wp2;go_ret;exact⟨rfl,q⟩
    rw[h1] at B;by_cases h2:k=0∨Op.bytesLess pv u=true
    case neg=>
     have h:=x.out (fun h=>h2 h.2.2);subst h;obtain⟨d3,b1⟩:=not_or.1 h2;have d4:Op.bytesLess pv u=false:=(by simpa using b1);obtain⟨j,rfl⟩:=hP.resolve_left d3;have cp:=L.out j M rfl b;have CP:=fun d y=>cell_regrown cp d y;have d5:(0:Int)<((j+1:Nat):Int):=oo;have d6:(0:Int)<(j:Int)+1:=oo;have d7:(j:Int)<fs.length:=oo;clear x H h2 b1;go_wp2_with fail;refine wp_region_quiet_below kr kr ?_;repeat(go_big_quiet_step ((go_at_call 136;exact Calls.regrown_of (B _))))
     refine wpQuiet_nil ?_;intro p a;have n:Below _ _ p:=zh a;clear a;have q:=b.trans (n.mono (by have:=b.size;omega));go_wp2;go_ret;exact⟨rfl,q⟩
    have b3:=hid (H.out ⟨h1,d2,h2⟩);clear x H;rcases hP with rfl|⟨j,rfl⟩
    ·clear L
     simp only[Nat.zero_mul,Nat.add_zero] at c3 C3;go_wp2_with fail;refine wp_region_quiet_below kr kr ?_;repeat(go_big_quiet_step ((go_at_call 136;exact Calls.regrown_of (B _))))
     refine wpQuiet_nil ?_;intro p a;have n:Below _ _ p:=zh a;clear a;have a1:=z.below n z.lt;have q:=b.trans (n.mono (by have:=b.size;omega));go_wp2;go_roundw
     case rel=>exact⟨_,(by go_num),oo,b3,a1,q⟩
     case measure=>simp [intOf];omega
    ·have d4:Op.bytesLess pv u=true:=h2.resolve_left oo
     have cp:=L.out j M rfl b;have CP:=fun d y=>cell_regrown cp d y;have d5:(0:Int)<((j+1:Nat):Int):=oo;have d6:(0:Int)<(j:Int)+1:=oo;have d7:(j:Int)<fs.length:=oo;go_wp2_with fail;refine wp_region_quiet_below kr kr ?_;repeat(go_big_quiet_step ((go_at_call 136;exact Calls.regrown_of (B _))))
     refine wpQuiet_nil ?_;intro p a;have n:Below _ _ p:=zh a;clear a;clear cp CP L;have a1:=z.below n z.lt;have q:=b.trans (n.mono (by have:=b.size;omega));go_wp2;go_roundw
     case rel=>exact⟨_,(by go_num),oo,b3,a1,q⟩
     case measure=>simp [intOf];omega
  ·have c5:¬(k:Int)<fs.length:=oo
   have h:=c0.out (fun i h _=>HA.out i h oo);subst h;go_wp2;go_ret;exact⟨rfl,r⟩
end Go.Proofs.YtoedhpcmgondjaaGreatDoor
namespace Go.Proofs.YtoedhpcmgondjaaGreatDoor
open Go.RowKit Go.Proofs.Tryz
set_option maxRecDepth 100000
attribute [local go_sem high] zG zF zH zV zN yu zD zl zn zt zi zu y9 zK yE zJ
theorem mG :(prog.info? 60).map (fun i=>(i.zero,i.size,i.bytes))=some (some (.agg #[.string ⟨#[]⟩,.string ⟨#[]⟩]),2,32):=by kernel_rfl
