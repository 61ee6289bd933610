import Derived.Test.YtoedhpcmgondjaaGreatDoorUS26
import Derived.Test.YtoedhpcmgondjaaGreatDoorUW14
import Derived.Test.YtoedhpcmgondjaaGreatDoorUQ15
import Derived.Test.YtoedhpcmgondjaaGreatDoorUD4
import Derived.Test.YtoedhpcmgondjaaGreatDoorULb
set_option linter.all false
set_option maxHeartbeats 8000000
namespace Go.Proofs.YtoedhpcmgondjaaGreatDoor
open Go.Lib(hid)
open Go.RowKit Go.Proofs.Tryz
set_option maxRecDepth 100000
attribute [local instance] mU hZ cvZ
attribute [local go_sem high] zA zB zD zS zL yf zC zk zl zt zi zu yR zG yu zH
def StO (T:Sto)(b:Bool)(w:World)(e:Ending)(w':World):Prop:=∃A cap,e= .returned (.tuple #[T.V A cap,.bool b])∧w'.ownsRow w.heap.size 60 2 (.slice A T.fs.length cap) T.fs.length (yC T.fs)∧Below w.heap.size w w'
theorem XL {w:World}{b c:Nat}{t:TypeId}{cs:Array Value}(h:Bk w c t cs)(a:c≠b)(S:Sto)(A:Option Addr)(cap:Nat):Bk (stW w b S A cap) c t cs:=
 ((((h.far (p:=⟨b,0,none⟩) a _).far (p:=⟨b,1,none⟩) a _).far (p:=⟨b,2,none⟩) a _).far (p:=⟨b,3,none⟩) a _).far (p:=⟨b,4,none⟩) a _
theorem OE (o:Option Nat):decide (0≤ixV o)=o.isSome:=by cases o<;>simp [ixV]
def chS (S:Sto)(x:OpR):Option Bs:=if x.k=0 then mkC S.o S.l S.m S.dict x.d x.s else(xQ S.fs x.nm).bind fun i=>chO S x (S.fs[i]?.getD ([],[])).2
def OpB (x:OpR):Prop:= -1000000≤x.s∧x.s≤1000000∧ -9223372036854775808≤x.f∧x.f≤9223372036854775807∧ -9223372036854775808≤x.t∧x.t≤9223372036854775807∧x.d.length≤1500000∧x.nm.length≤1500000∧ -9223372036854775808≤x.k∧x.k≤9223372036854775807
def StB (S:Sto):Prop:=S.dict.length≤1500000∧S.fs.length≤50000∧∀f ∈ S.fs,f.1.length≤1500000∧f.2.length≤1500000
theorem WJ (S:Sto)(x:OpR)(A:Option Addr)(cap:Nat)(w:World)(p:Sl w A S.fs.length cap 2 (yC S.fs))(L:StB S)(M:OpB x):
 Calls prog 55 #[S.V A cap,x.val] w fun e w'=>e=yg (chS S x)∧Below w.heap.size w w':=by
 obtain⟨Y,Z,b3,b4,b5,b6,b7,b8,b9,a7⟩:=M;obtain⟨hd,hl,F⟩:=L;have a':=p.1;have b0:=p.2.1;have G:Hid (∀wr,Below w.heap.size w wr→Sl wr A S.fs.length cap 2 (yC S.fs)):=fun wr h=>p.below h;have B:Hid (∀wr,Below w.heap.size w wr→Calls prog 54 #[S.V A cap,sv x.nm] wr fun e w'=>e= .returned (.int .i64 (ixV (xQ S.fs x.nm)))∧Below wr.heap.size wr w'):=fun wr h=>dS S x.nm A cap wr (p.below h) oo;have H:=hid F;clear p F;obtain⟨R,D⟩:∃R,chS S x=R:=⟨_,rfl⟩;rw[D];have n:=hid D;clear D;obtain⟨o,l,m,dict,fs⟩:=S;obtain⟨k,f,t,s,g,d⟩:=x;simp only at*;go_enter func55,ntmps55;have z:Bk ((w.alloc (.cells (Sto.C ⟨o,l,m,dict,fs⟩ A cap) 29)).alloc (.cells (OpR.cells ⟨k,f,t,s,g,d⟩) 42)) w.heap.size 29 (Sto.C ⟨o,l,m,dict,fs⟩ A cap):=tBk;have q:Bk ((w.alloc (.cells (Sto.C ⟨o,l,m,dict,fs⟩ A cap) 29)).alloc (.cells (OpR.cells ⟨k,f,t,s,g,d⟩) 42)) (w.heap.size+1) 42 (OpR.cells ⟨k,f,t,s,g,d⟩):=tBk;have r:Below w.heap.size w ((w.alloc (.cells (Sto.C ⟨o,l,m,dict,fs⟩ A cap) 29)).alloc (.cells (OpR.cells ⟨k,f,t,s,g,d⟩) 42)):=zx;simp only[Sto.C,OpR.cells] at z q r;go_upto_region 1 with(fail)
 generalize(w.alloc (.cells #[o,l,m,dict,.slice A fs.length cap] 29)).alloc (.cells #[k,g,f,t,s,d] 42)=w0 at*;have N:=z.cell;have O:=q.cell;have P:=q.lt;by_cases h0:k=0
 ·have a:mkC o l m dict d s=R:=by rw[←n.out];unfold chS;rw[if_pos h0]
  have I:=fun w=>iO o l m dict d s w oo oo oo oo;rw[a] at I;clear a n B;subst h0;go_wp2_with fail;refine(I _).mono ?_;rintro e Q ⟨rfl,b⟩;have i:=r.trans (b.mono oo);unfold yg;go_wp2;exact bodyPost_ret (v:=.tuple #[sv (R.getD []),.bool R.isSome]) (by simp [results,results55,go_sem]) rfl ⟨rfl,i⟩
 have b2:(k==0)=false:=(by simpa using h0);go_wp2_with fail;refine(B.out _ r).mono ?_;rintro e Q ⟨rfl,b⟩;have z1:=b.size;have U:=z.below b oo;have J:=q.below b P;have i:=r.trans (b.mono oo);have c0:=U.cell;have c1:=J.cell;have c2:=J.lt;clear z q N O r b B
 cases hi:xQ fs g with
 |none=>
  have a:R=none:=(by rw[←n.out];unfold chS;rw[if_neg h0];simp only;rw[hi];rfl);subst a;unfold ixV;clear n;go_wp2;exact bodyPost_ret (v:=.tuple #[sv [],.bool false]) (by simp [results,results55,go_sem]) rfl ⟨rfl,i⟩
 |some j=>
  have E:=aj hi;have a:chO ⟨o,l,m,dict,fs⟩ ⟨k,f,t,s,g,d⟩ fs[j].2=R:=(by rw[←n.out];unfold chS;rw[if_neg h0];simp only;rw[hi,Option.bind_some,List.getElem?_eq_getElem E];rfl);obtain⟨g2,c4,rfl,hg,W,b⟩:=(G.out _ i).fl E;have X:=(H.out fs[j] (List.getElem_mem E)).2;generalize fs[j]=fl at*;obtain⟨fa,T⟩:=fl;simp only at a W b X;unfold chO at a;simp only at a;rw[if_neg h0] at a;have c7:(j:Int)<fs.length:=oo;have c8:¬(j:Int)<0:=oo;unfold ixV;simp only;clear n hi G H;by_cases h1:k=1
  ·rw[if_pos h1] at a
   have c:=fun w=>bT o l m dict T d s w oo oo oo oo oo;rw[a] at c;clear a;subst h1;go_wp2_with fail;refine(c _).mono ?_;rintro e K ⟨rfl,u⟩;have y:=i.trans (u.mono oo);unfold yg;go_wp2;exact bodyPost_ret (v:=.tuple #[sv (R.getD []),.bool R.isSome]) (by simp [results,results55,go_sem]) rfl ⟨rfl,y⟩
  rw[if_neg h1] at a;have c9:(k==1)=false:=(by simpa using h1);by_cases h2:k=2
  ·rw[if_pos h2] at a
   have c:=fun w=>iy o l m dict T f t d s w oo oo oo oo oo oo oo oo oo;rw[a] at c;clear a;subst h2;go_wp2_with fail;refine(c _).mono ?_;rintro e K ⟨rfl,u⟩;have y:=i.trans (u.mono oo);unfold yg;go_wp2;exact bodyPost_ret (v:=.tuple #[sv (R.getD []),.bool R.isSome]) (by simp [results,results55,go_sem]) rfl ⟨rfl,y⟩
  rw[if_neg h2] at a;have c':(k==2)=false:=(by simpa using h2);have c:=fun w=>dH o l m dict T s w oo oo;rw[a] at c;clear a;go_wp2_with fail;refine(c _).mono ?_;rintro e K ⟨rfl,u⟩;have y:=i.trans (u.mono oo);unfold yg;go_wp2;exact bodyPost_ret (v:=.tuple #[sv (R.getD []),.bool R.isSome]) (by simp [results,results55,go_sem]) rfl ⟨rfl,y⟩
def apT (S:Sto)(x:OpR):Sto×Bool:=if x.k=4 then({ S with fs:=tV S.fs x.nm },(xQ S.fs x.nm).isSome) else({ S with fs:=sJ S.fs x.nm ((chS S x).getD []) },(chS S x).isSome&&decide ((sJ S.fs x.nm ((chS S x).getD [])).length≤6))
theorem dQ (S:Sto)(x:OpR)(A:Option Addr)(cap:Nat)(w:World)(r:Sl w A S.fs.length cap 2 (yC S.fs))(hS:StB S)(hx:OpB x):
 Calls prog 30 #[S.V A cap,x.val] w (StO (apT S x).1 (apT S x).2 w):=by
 have hl:=hS.2.1;have e3:=r.1;have e4:=r.2.1;have cW:Hid (∀wr,Below w.heap.size w wr→Calls prog 53 #[S.V A cap,sv x.nm] wr (StR { S with fs:=tV S.fs x.nm } wr)):=fun wr h=>Yn S x.nm A cap wr (r.below h) oo;have cI:Hid (∀wr,Below w.heap.size w wr→Calls prog 54 #[S.V A cap,sv x.nm] wr fun e w'=>e= .returned (.int .i64 (ixV (xQ S.fs x.nm)))∧Below wr.heap.size wr w'):=fun wr h=>dS S x.nm A cap wr (r.below h) oo;have O:Hid (∀wr,Below w.heap.size w wr→Calls prog 55 #[S.V A cap,x.val] wr fun e w'=>e=yg (chS S x)∧Below wr.heap.size wr w'):=fun wr h=>WJ S x A cap wr (r.below h) hS hx;have B:Hid (∀X wr,Below w.heap.size w wr→Calls prog 56 #[S.V A cap,sv x.nm,sv X] wr (StR { S with fs:=sJ S.fs x.nm X } wr)):=fun X wr h=>QB S x.nm X A cap wr (r.below h) hl;have U:Hid (-1≤ixV (xQ S.fs x.nm)∧ixV (xQ S.fs x.nm)≤50000):=by
  show _∧_
  cases hi:xQ S.fs x.nm with
  |none=>simp [ixV]
  |some e5=>have:=aj hi;simp only[ixV];omega
 clear r hS hx;obtain⟨T,u⟩:∃T,apT S x=T:=⟨_,rfl⟩;rw[u];have W:=hid u;clear u;obtain⟨R,hR⟩:∃R,chS S x=R:=⟨_,rfl⟩;rw[hR] at O;have HR:=hid hR;clear hR;obtain⟨o,l,m,dict,fs⟩:=S;obtain⟨k,f,t,s,a,d⟩:=x;simp only at*;unfold StO;go_enter func30,ntmps30;have i:Bk (((w.alloc (.cells (Sto.C ⟨o,l,m,dict,fs⟩ A cap) 29)).alloc (.cells (OpR.cells ⟨k,f,t,s,a,d⟩) 42)).alloc (.cells wz 29)) w.heap.size 29 (Sto.C ⟨o,l,m,dict,fs⟩ A cap):=tBk;have n:Bk (((w.alloc (.cells (Sto.C ⟨o,l,m,dict,fs⟩ A cap) 29)).alloc (.cells (OpR.cells ⟨k,f,t,s,a,d⟩) 42)).alloc (.cells wz 29)) (w.heap.size+1) 42 (OpR.cells ⟨k,f,t,s,a,d⟩):=tBk;have I:Bk (((w.alloc (.cells (Sto.C ⟨o,l,m,dict,fs⟩ A cap) 29)).alloc (.cells (OpR.cells ⟨k,f,t,s,a,d⟩) 42)).alloc (.cells wz 29)) (w.heap.size+1+1) 29 wz:=tBk;have D:Below w.heap.size w (((w.alloc (.cells (Sto.C ⟨o,l,m,dict,fs⟩ A cap) 29)).alloc (.cells (OpR.cells ⟨k,f,t,s,a,d⟩) 42)).alloc (.cells wz 29)):=zx;simp only[Sto.C,OpR.cells] at i n I D;go_upto_region 1 with(fail)
 generalize((w.alloc (.cells #[(o:Int),l,m,dict,.slice A fs.length cap] 29)).alloc (.cells #[k,a,f,t,s,d] 42)).alloc (.cells wz 29)=Y at*;have z0:=D.size;have la:=i.lt;have lo:=n.lt;have lb:=I.lt;by_cases Z:k=4
 ·obtain⟨J,hJ⟩:∃J,ixV (xQ fs a)=J:=⟨_,rfl⟩
  have u:T=(⟨o,l,m,dict,tV fs a⟩,decide (0≤J)):=(by rw[←W.out,←hJ,OE];unfold apT;rw[if_pos Z]);subst u;have d6:=U.out.1;have d7:=U.out.2;rw[hJ] at cI d6 d7;clear W HR O B U hJ;subst Z;have b1:=i.cell;have b3:=n.cell;go_upto_region 2 with(fail)
  have a0:(fun w'=>w'.cell? ⟨w.heap.size,0,none⟩=some (.int .i64 o)∧w'.cell? ⟨w.heap.size,1,none⟩=some (.int .i64 l)∧w'.cell? ⟨w.heap.size,2,none⟩=some (.int .i64 m)∧w'.cell? ⟨w.heap.size,3,none⟩=some (.string ⟨dict.toArray⟩)∧w'.cell? ⟨w.heap.size,4,none⟩=some (.slice A fs.length cap)∧w'.cell? ⟨w.heap.size+1,1,none⟩=some (.string ⟨a.toArray⟩)) Y:=⟨i.cell 0,i.cell 1,i.cell 2,i.cell 3,i.cell 4,n.cell 1⟩;clear b1 b3;refine wp_region_held_drew (S:=(fun w'=>w'.cell? ⟨w.heap.size,0,none⟩=some (.int .i64 o)∧w'.cell? ⟨w.heap.size,1,none⟩=some (.int .i64 l)∧w'.cell? ⟨w.heap.size,2,none⟩=some (.int .i64 m)∧w'.cell? ⟨w.heap.size,3,none⟩=some (.string ⟨dict.toArray⟩)∧w'.cell? ⟨w.heap.size,4,none⟩=some (.slice A fs.length cap)∧w'.cell? ⟨w.heap.size+1,1,none⟩=some (.string ⟨a.toArray⟩))) kr ?_ (fun b4=> ?_);focus((first|exact a1|exact a2|exact a3|exact a0))
  refine tk 0 ?_;refine tk 1 ?_;refine tk 2 ?_;refine tk 4 ?_;refine tk 5 ?_;refine tk 6 ?_;try simp only[Act.put,u2,u3,u4]
  refine rd1 3 fun KK K=> ?_;go_simp
  (go_at_call 53;refine(cW.out _ y5).mono ?_;rintro e8 w8 ⟨p,q,rfl,o8,y⟩;have o8:=zF (B':=Y.heap.size) o8 oA;have y:Below Y.heap.size Y w8:=zK y;have z8:=y.size;have E:=i.below y la;have c6:=n.below y lo;have b6:=I.below y lb;have g8:=D.trans (y.mono oo);have a3:(fun w'=>w'.cell? ⟨w.heap.size,0,none⟩=some (.int .i64 o)∧w'.cell? ⟨w.heap.size,1,none⟩=some (.int .i64 l)∧w'.cell? ⟨w.heap.size,2,none⟩=some (.int .i64 m)∧w'.cell? ⟨w.heap.size,3,none⟩=some (.string ⟨dict.toArray⟩)∧w'.cell? ⟨w.heap.size,4,none⟩=some (.slice A fs.length cap)∧w'.cell? ⟨w.heap.size+1,1,none⟩=some (.string ⟨a.toArray⟩)) w8:=⟨E.cell 0,E.cell 1,E.cell 2,E.cell 3,E.cell 4,c6.cell 1⟩;have e':=b6.cell;have f0:=b6.free)
  refine K.out _ _ (by(first|exact a1|exact a2|exact a3|exact a0)) fun b4=> ?_;try simp only[Act.put,u2,u3,u4]
  refine rd1 7 fun KK K=> ?_;go_simp
  (go_at_call 54;refine(cI.out _ y5).mono ?_;rintro e9 w9 ⟨rfl,j⟩;have j:Below w8.heap.size w8 w9:=(by first|exact j|exact zK j);have z9:=j.size;have F:=E.below j oo;have c7:=c6.below j oo;have b8:=b6.below j oo;have g9:=g8.trans (j.mono oo);have L:=zf o8 j;have a2:(fun w'=>w'.cell? ⟨w.heap.size,0,none⟩=some (.int .i64 o)∧w'.cell? ⟨w.heap.size,1,none⟩=some (.int .i64 l)∧w'.cell? ⟨w.heap.size,2,none⟩=some (.int .i64 m)∧w'.cell? ⟨w.heap.size,3,none⟩=some (.string ⟨dict.toArray⟩)∧w'.cell? ⟨w.heap.size,4,none⟩=some (.slice A fs.length cap)∧w'.cell? ⟨w.heap.size+1,1,none⟩=some (.string ⟨a.toArray⟩)) w9:=⟨F.cell 0,F.cell 1,F.cell 2,F.cell 3,F.cell 4,c7.cell 1⟩;have f3:=b8.cell;have f4:=b8.free;have M:=XL F (b:=w.heap.size+1+1) oo ⟨o,l,m,dict,tV fs a⟩ p q;have d':=XL c7 (b:=w.heap.size+1+1) oo ⟨o,l,m,dict,tV fs a⟩ p q;have a1:(fun w'=>w'.cell? ⟨w.heap.size,0,none⟩=some (.int .i64 o)∧w'.cell? ⟨w.heap.size,1,none⟩=some (.int .i64 l)∧w'.cell? ⟨w.heap.size,2,none⟩=some (.int .i64 m)∧w'.cell? ⟨w.heap.size,3,none⟩=some (.string ⟨dict.toArray⟩)∧w'.cell? ⟨w.heap.size,4,none⟩=some (.slice A fs.length cap)∧w'.cell? ⟨w.heap.size+1,1,none⟩=some (.string ⟨a.toArray⟩)) (stW w9 (w.heap.size+1+1) ⟨o,l,m,dict,tV fs a⟩ p q):=⟨M.cell 0,M.cell 1,M.cell 2,M.cell 3,M.cell 4,d'.cell 1⟩)
  refine K.out _ _ (by(first|exact a1|exact a2|exact a3|exact a0)) fun b4=> ?_;try simp only[Act.put,u2,u3,u4]
  refine tk 8 ?_;try simp only[Act.put,u2,u3,u4]
  refine rd1 9 fun KK K=> ?_;go_simp;refine K.out _ _ (by(first|exact a1|exact a2|exact a3|exact a0)) fun b4=> ?_;try simp only[Act.put,u2,u3,u4]
  refine tk 10 ?_;try simp only[Act.put,u2,u3,u4]
  refine wpAnyH_done kr ?_ _;go_wp2;have Q:=(uC b8 ⟨o,l,m,dict,tV fs a⟩ p q).cell;have z:=zF (B':=w.heap.size) (oG L (b:=w.heap.size+1+1) oo ⟨o,l,m,dict,tV fs a⟩ p q) oo;have N:=yN g9 (b:=w.heap.size+1+1) oo ⟨o,l,m,dict,tV fs a⟩ p q;exact bodyPost_ret (v:=.tuple #[Sto.V ⟨o,l,m,dict,tV fs a⟩ p q,.bool (decide (0≤J))]) (by simp [results,results30,go_sem,Q]) rfl ⟨p,q,rfl,z,N⟩
 ·have f5:(k==4)=false:=by simpa using Z
  obtain⟨P,hP⟩:∃P,sJ fs a (R.getD [])=P:=⟨_,rfl⟩;have u:T=(⟨o,l,m,dict,P⟩,R.isSome&&decide (P.length≤6)):=(by rw[←W.out,←hP,←HR.out];unfold apT;rw[if_neg Z]);subst u;have B:=B.out (R.getD []);rw[hP] at B;have CS:=hid B;clear B W HR cW cI U hP;have b1:=i.cell;have b3:=n.cell;go_wp2_with fail;refine(O.out _ D).mono ?_;rintro e w1 ⟨rfl,G⟩;have z1:=G.size;have c9:=i.below G la;have c':=n.below G lo;have d0:=I.below G lb;have g1:=D.trans (G.mono oo);have e0:=c9.cell;have e1:=c'.cell;clear i n I b1 b3 G D O;unfold yg;go_wp2_with fail;refine(CS.out _ g1).mono ?_;rintro e H ⟨c,g,rfl,z,b2⟩;have z2:=b2.size;have z:=zF (B':=w.heap.size+3) z oo;have d1:=d0.below b2 oo;have g2:=g1.trans (b2.mono oo);simp only at z;clear c9 c' e0 e1 b2 g1 CS;have a6:=d1.alloc (.cells #[(o:Int),l,m,dict,.slice c P.length g] 29);have o3:=World.ownsRow.alloc z (.cells #[(o:Int),l,m,dict,.slice c P.length g] 29);have g3:=g2.alloc oo (.cells #[(o:Int),l,m,dict,.slice c P.length g] 29);have e2:Bk (H.alloc (.cells #[(o:Int),l,m,dict,.slice c P.length g] 29)) H.heap.size 29 #[(o:Int),l,m,dict,.slice c P.length g]:=Bk.new H #[(o:Int),l,m,dict,.slice c P.length g] 29;have f9:=a6.cell;have f':=a6.free;have g0:=e2.cell;go_upto_region 5 with(fail)
  have g4:w.heap.size+1+1<H.heap.size:=oo;clear d1 d0 z g2;generalize(H.alloc (.cells #[(o:Int),l,m,dict,.slice c P.length g] 29))=w3 at*;generalize H.heap.size=g6 at*
  cases R with
  |none=>
   simp only[Option.isSome_none,Option.getD_none,Bool.false_and];go_region;go_wp2;have Q:=(uC a6 ⟨o,l,m,dict,P⟩ c g).cell;have L:=wL (zF (B':=w.heap.size) (oG o3 (b:=w.heap.size+1+1) oo ⟨o,l,m,dict,P⟩ c g) oo);have N:=(yN g3 (b:=w.heap.size+1+1) oo ⟨o,l,m,dict,P⟩ c g).drew;exact bodyPost_ret (v:=.tuple #[Sto.V ⟨o,l,m,dict,P⟩ c g,.bool false]) (by simp [results,results30,go_sem,Q]) rfl ⟨c,g,rfl,L,N⟩
  |some X=>
   simp only[Option.isSome_some,Option.getD_some,Bool.true_and];go_region;go_wp2;have Q:=(uC a6 ⟨o,l,m,dict,P⟩ c g).cell;have L:=wL (zF (B':=w.heap.size) (oG o3 (b:=w.heap.size+1+1) oo ⟨o,l,m,dict,P⟩ c g) oo);have N:=(yN g3 (b:=w.heap.size+1+1) oo ⟨o,l,m,dict,P⟩ c g).drew;exact bodyPost_ret (v:=.tuple #[Sto.V ⟨o,l,m,dict,P⟩ c g,.bool (decide (P.length≤6))]) (by simp [results,results30,go_sem,Q];omega) rfl ⟨c,g,rfl,L,N⟩
theorem iC {S T:Sto}{x:OpR}(h:apO S x=some T):apT S x=(T,true):=by
 unfold apO at h;unfold apT;by_cases a:x.k=4
 ·rw[if_pos a] at h⊢
  split at h
  ·rename_i b
   injection h with h
   rw[h,b]
  ·cases h
 ·rw[if_neg a] at h⊢
  have c:((if x.k=0 then mkC S.o S.l S.m S.dict x.d x.s else(xQ S.fs x.nm).bind fun i=>chO S x (S.fs[i]?.getD ([],[])).2))=chS S x:=rfl;rw[c] at h
  cases hR:chS S x with
  |none=>rw[hR] at h;cases h
  |some X=>
   rw[hR,Option.bind_some] at h;split at h
   ·rename_i e
    injection h with h
    simp only[Option.getD_some,Option.isSome_some,Bool.true_and];rw[h,decide_eq_true e]
   ·cases h
theorem Un {S:Sto}{x:OpR}(h:apO S x=none):(apT S x).2=false:=by
 unfold apO at h;unfold apT;by_cases a:x.k=4
 ·rw[if_pos a] at h⊢
  split at h
  ·cases h
  ·rename_i b;simpa using b
 ·rw[if_neg a] at h⊢
  have c:((if x.k=0 then mkC S.o S.l S.m S.dict x.d x.s else(xQ S.fs x.nm).bind fun i=>chO S x (S.fs[i]?.getD ([],[])).2))=chS S x:=rfl;rw[c] at h
  cases hR:chS S x with
  |none=>simp
  |some X=>
   rw[hR,Option.bind_some] at h;split at h
   ·cases h
   ·rename_i e
    simp only[Option.getD_some,Option.isSome_some,Bool.true_and];simpa using e
theorem QA {o l m:Int}{dict t x:Bs}(h:cdB o l m dict t=some x):t.length≤2960:=by
 unfold cdB at h;split at h
 ·cases hb:zX t with
  |none=>rw[hb] at h;cases h
  |some a=>exact(xO hb).1
 ·cases h
theorem Sto.ok.bd {S:Sto}(h:S.ok):StB S:=by
 refine⟨by have:=h.1.2.1;omega,by have:=h.2.1;omega,fun f a=> ?_⟩;obtain⟨i,b,rfl⟩:=List.mem_iff_getElem.1 a;obtain⟨h1,h2,_⟩:=h.2.2 i b;have:=oN h1;obtain⟨d,c⟩:=Option.isSome_iff_exists.1 h2;have:=QA c;exact⟨by omega,oo⟩
theorem OpR.ok.bd {x:OpR}(h:x.ok):OpB x:=by
 obtain⟨h1,h2,b⟩:=h;have:=oN h1;unfold OpB;rcases b with⟨a|a,_,_,_,_⟩|⟨a,_,_,_,_⟩|⟨a,_,_,_,_⟩|⟨a,_,_,_,_⟩<;>(refine⟨?_,?_,?_,?_,?_,?_,?_,?_,?_,?_⟩<;>omega)
noncomputable def aoO (S:Sto)(x:OpR):Option Sto:=if S.okB=true∧ql x.k x.nm x.f x.t x.s x.d then apO S x else none
theorem Kv {S:Sto}{x:OpR}(a:S.ok)(b:x.ok):aoO S x=apO S x:=by
 unfold aoO;rw[if_pos ⟨(Sto.Xz S).2 a,b⟩]
def wu :Sto:=⟨0,0,0,[],[]⟩
theorem rq {w:World}{b:Nat}{t:TypeId}{a c d e f:Value}(h:Bk w b t #[a,c,d,e,f]):
 Bk (((((w.setCell ⟨b,0,none⟩ (.int .i64 0)).setCell ⟨b,1,none⟩ (.int .i64 0)).setCell ⟨b,2,none⟩ (.int .i64 0)).setCell ⟨b,3,none⟩ (.string ⟨#[]⟩)).setCell ⟨b,4,none⟩ (.slice none 0 0)) b t wz:=uC h ⟨0,0,0,[],[]⟩ none 0
theorem SQ (S:Sto)(x:OpR)(A:Option Addr)(cap:Nat)(w:World)(D:Sl w A S.fs.length cap 2 (yC S.fs))(U:S.dict.length≤1500000∧S.fs.length≤1500000∧∀f ∈ S.fs,f.1.length≤1500000∧f.2.length≤1500000)(hx:x.nm.length≤1500000∧x.d.length≤1500000):
 Calls prog 68 #[S.V A cap,x.val] w (StO ((aoO S x).getD wu) (aoO S x).isSome w):=by
 have hl:=U.2.1;have d3:=D.1;have d4:=D.2.1;have cV:Hid (∀wr,Below w.heap.size w wr→Calls prog 100 #[S.V A cap] wr fun e w'=>e= .returned (.bool S.okB)∧Below wr.heap.size wr w'):=fun wr h=>bV S A cap wr (D.below h) U.1 oo U.2.2;have W:Hid (∀wr,Calls prog 99 #[x.val] wr fun e w'=>e= .returned (.bool (decide (ql x.k x.nm x.f x.t x.s x.d)))∧Below wr.heap.size wr w'):=fun wr=>nH x.k x.f x.t x.s x.nm x.d wr oo oo;have E:Hid (S.okB=true→decide (ql x.k x.nm x.f x.t x.s x.d)=true→∀wr,Below w.heap.size w wr→Calls prog 30 #[S.V A cap,x.val] wr (StO (apT S x).1 (apT S x).2 wr)):=fun h1 b5 wr h=>dQ S x A cap wr (D.below h) (Sto.ok.bd ((Sto.Xz S).1 h1)) (OpR.ok.bd (of_decide_eq_true b5));clear D U hx;obtain⟨bv,F⟩:∃b,S.okB=b:=⟨_,rfl⟩;obtain⟨ov,q⟩:∃b,decide (ql x.k x.nm x.f x.t x.s x.d)=b:=⟨_,rfl⟩;obtain⟨T,G⟩:∃T,apT S x=T:=⟨_,rfl⟩;rw[F] at cV;rw[q] at W;rw[G,q,F] at E;obtain⟨R,a⟩:∃R,aoO S x=R:=⟨_,rfl⟩;have r:Hid ((bv=false∨ov=false∨T.2=false)→R=none):=by
  intro h;rw[←a];unfold aoO;split
  ·rename_i X
   cases ha:apO S x with
   |none=>rfl
   |some b6=>
    have:=iC ha;rw[G] at this;rw[F] at X;rcases h with h|h|h
    ·rw[h] at X;simp at X
    ·rw[h] at q;exact absurd X.2 (by simpa using q)
    ·rw[this] at h;cases h
  ·rfl
 have H:Hid (bv=true→ov=true→T.2=true→R=some T.1):=by
  intro h1 h2 h3;rw[←a];unfold aoO;rw[if_pos ⟨F.trans h1,by rw[h2] at q;simpa using q⟩]
  cases ha:apO S x with
  |none=>have:=Un ha;rw[G] at this;rw[this] at h3;cases h3
  |some b6=>have:=iC ha;rw[G] at this;rw[this]
 rw[a];clear F q G a;obtain⟨T,tb⟩:=T;obtain⟨o,l,m,dict,fs⟩:=S;obtain⟨k,f,t,s,y,d⟩:=x;simp only at*;unfold StO;go_enter func68,ntmps68;have I:Bk (((w.alloc (.cells (Sto.C ⟨o,l,m,dict,fs⟩ A cap) 29)).alloc (.cells (OpR.cells ⟨k,f,t,s,y,d⟩) 42)).alloc (.cells wz 29)) w.heap.size 29 (Sto.C ⟨o,l,m,dict,fs⟩ A cap):=tBk;have J:Bk (((w.alloc (.cells (Sto.C ⟨o,l,m,dict,fs⟩ A cap) 29)).alloc (.cells (OpR.cells ⟨k,f,t,s,y,d⟩) 42)).alloc (.cells wz 29)) (w.heap.size+1) 42 (OpR.cells ⟨k,f,t,s,y,d⟩):=tBk;have Y:Bk (((w.alloc (.cells (Sto.C ⟨o,l,m,dict,fs⟩ A cap) 29)).alloc (.cells (OpR.cells ⟨k,f,t,s,y,d⟩) 42)).alloc (.cells wz 29)) (w.heap.size+1+1) 29 wz:=tBk;have K:Below w.heap.size w (((w.alloc (.cells (Sto.C ⟨o,l,m,dict,fs⟩ A cap) 29)).alloc (.cells (OpR.cells ⟨k,f,t,s,y,d⟩) 42)).alloc (.cells wz 29)):=zx;simp only[Sto.C,OpR.cells] at I J Y K;go_upto_region 1 with(fail)
 generalize((w.alloc (.cells #[o,l,m,dict,.slice A fs.length cap] 29)).alloc (.cells #[k,y,(f:Int),t,s,d] 42)).alloc (.cells wz 29)=w0 at*;have z0:=K.size;have la:=I.lt;have lo:=J.lt;have lb:=Y.lt;have c0:=I.cell;have c1:=J.cell;go_wp2_with fail;refine(cV.out _ K).mono ?_;rintro e w1 ⟨rfl,z⟩;have z1:=z.size;have a5:=I.below z la;have a6:=J.below z lo;have L:=Y.below z lb;have g1:=K.trans (z.mono oo);have c2:=a5.cell;have c3:=a6.cell;have c4:=L.cell;have c5:=L.free;clear I J Y c0 c1 z K cV
 cases bv with
 |false=>
  have a:=r.out (.inl rfl);subst a;clear r H W E;go_wp2;have Q:=(rq L).cell;have u:=yN g1 (b:=w.heap.size+1+1) oo wu none 0;exact bodyPost_ret (v:=.tuple #[Sto.V wu none 0,.bool false]) (by simp [results,results68,go_sem,Q,Sto.V,wu]) rfl ⟨none,0,rfl,⟨rfl,.inl ⟨rfl,rfl⟩⟩,u⟩
 |true=>
 go_wp2_with fail;refine(W.out _).mono ?_;rintro e w2 ⟨rfl,B⟩;have z2:=B.size;have a9:=a5.below B oo;have a':=a6.below B oo;have M:=L.below B oo;have Z:=g1.trans (B.mono oo);have c6:=a9.cell;have c7:=a'.cell;have c8:=M.cell;have c9:=M.free;clear a5 a6 L c2 c3 c4 c5 B g1 W
 cases ov with
 |false=>
  have a:=r.out (.inr (.inl rfl));subst a;clear r H E;go_wp2;have Q:=(rq M).cell;have u:=yN Z (b:=w.heap.size+1+1) oo wu none 0;exact bodyPost_ret (v:=.tuple #[Sto.V wu none 0,.bool false]) (by simp [results,results68,go_sem,Q,Sto.V,wu]) rfl ⟨none,0,rfl,⟨rfl,.inl ⟨rfl,rfl⟩⟩,u⟩
 |true=>
 go_wp2_with fail;refine(E.out (by first|exact rfl|exact trivial) (by first|exact rfl|exact trivial) _ Z).mono ?_;rintro e N ⟨c,g,rfl,O,b3⟩;have z3:=b3.size;have O:=zF (B':=w.heap.size+3) O oo;have b0:=M.below b3 oo;have g3:=Z.trans (b3.mono oo);clear a9 a' M c6 c7 c8 c9 b3 Z E;obtain⟨i,j,n,p,P⟩:=T;simp only at O;have a1:=b0.alloc (.cells #[(i:Int),j,n,p,.slice c P.length g] 29);have o4:=World.ownsRow.alloc O (.cells #[(i:Int),j,n,p,.slice c P.length g] 29);have g4:=g3.alloc oo (.cells #[(i:Int),j,n,p,.slice c P.length g] 29);have d0:Bk (N.alloc (.cells #[(i:Int),j,n,p,.slice c P.length g] 29)) N.heap.size 29 #[(i:Int),j,n,p,.slice c P.length g]:=Bk.new N #[(i:Int),j,n,p,.slice c P.length g] 29;have e1:=a1.cell;have e2:=a1.free;have e3:=d0.cell;go_upto_region 4 with(fail)
 clear b0 O g3;generalize(N.alloc (.cells #[(i:Int),j,n,p,.slice c P.length g] 29))=w4 at*;generalize N.heap.size=e5 at*
 cases tb with
 |false=>
  have a:=r.out (.inr (.inr rfl));subst a;clear r H;go_wp2;have Q:=(rq a1).cell;have u:=yN g4 (b:=w.heap.size+1+1) oo wu none 0;exact bodyPost_ret (v:=.tuple #[Sto.V wu none 0,.bool false]) (by simp [results,results68,go_sem,Q,Sto.V,wu]) rfl ⟨none,0,rfl,⟨rfl,.inl ⟨rfl,rfl⟩⟩,u⟩
 |true=>
  have a:=H.out (by first|exact rfl|exact trivial) (by first|exact rfl|exact trivial) (by first|exact rfl|exact trivial);subst a;clear r H;go_wp2;have Q:=(uC a1 ⟨i,j,n,p,P⟩ c g).cell;have o9:=zF (B':=w.heap.size) (oG o4 (b:=w.heap.size+1+1) oo ⟨i,j,n,p,P⟩ c g) oo;have u:=yN g4 (b:=w.heap.size+1+1) oo ⟨i,j,n,p,P⟩ c g;exact bodyPost_ret (v:=.tuple #[Sto.V ⟨i,j,n,p,P⟩ c g,.bool true]) (by simp [results,results68,go_sem,Q]) rfl ⟨c,g,rfl,o9,u⟩
theorem XO (S:Sto)(x:OpR)(A:Option Addr)(cap:Nat)(w:World)(b:Sl w A S.fs.length cap 2 (yC S.fs))(a:StB S)(c:OpB x):
 Calls prog 68 #[S.V A cap,x.val] w (StO ((aoO S x).getD wu) (aoO S x).isSome w):=
 SQ S x A cap w b ⟨a.1,by have:=a.2.1;omega,a.2.2⟩ (by obtain⟨_,_,_,_,_,_,h,h2,_,_⟩:=c;exact⟨h2,h⟩)
def StI (T:Sto)(n:Int)(b:Bool)(w:World)(e:Ending)(w':World):Prop:=∃A cap,e= .returned (.tuple #[T.V A cap,n,.bool b])∧w'.ownsRow w.heap.size 60 2 (.slice A T.fs.length cap) T.fs.length (yC T.fs)∧Below w.heap.size w w'
def Ld (r:Option (Sto×Int)):World→Ending→World→Prop:=StI ((r.map (·.1)).getD wu) ((r.map (·.2)).getD 0) r.isSome
theorem lu (o l m:Int)(dict log:Bs)(w:World)(hd:dict.length≤1500000)(h7:log.length≤1500000):
 Calls prog 9 #[.agg #[(o:Int),l,m],sv dict,sv log] w (Ld (rX o l m dict log) w):=by
 obtain⟨R,hR⟩:∃R,rX o l m dict log=R:=⟨_,rfl⟩;rw[hR];have U:=hid hR;clear hR;unfold Ld StI;go_enter func9,ntmps9;have hA:Bk ((w.alloc (.cells #[(o:Int),l,m] 24)).alloc (.cells wz 29)) w.heap.size 24 #[(o:Int),l,m]:=tBk;have hB:Bk ((w.alloc (.cells #[(o:Int),l,m] 24)).alloc (.cells wz 29)) (w.heap.size+1) 29 wz:=tBk;have g0:Below w.heap.size w ((w.alloc (.cells #[(o:Int),l,m] 24)).alloc (.cells wz 29)):=zx;go_upto_region 1 with(fail)
 generalize(w.alloc (.cells #[(o:Int),l,m] 24)).alloc (.cells wz 29)=w0 at*;have z0:=g0.size;have la:=hA.lt;have lb:=hB.lt;have f0:=hA.cell;go_wp2_with fail;refine(bI o l m dict _ oo).mono ?_;rintro e w1 ⟨rfl,b1⟩;have z1:=b1.size;have c3:=hB.below b1 lb;have g1:=g0.trans (b1.mono oo);clear hA hB f0 b1 g0;unfold rH;by_cases L:fits o l m dict
 case neg=>
  rw[if_neg L];have hN:R=none:=(by rw[←U.out];unfold rX;rw[if_neg (fun h=>L h.1)]);subst hN;clear U L;have F:=c3.alloc (.cells wz 29);have g2:=g1.alloc oo (.cells wz 29);have f1:=F.cell;have f2:=F.free;unfold Go.Proofs.YtoedhpcmgondjaaGreatDoor.stZ;go_wp2;have Q:=(rq F).cell;have N:=yN g2 (b:=w.heap.size+1) oo wu none 0;exact bodyPost_ret (v:=.tuple #[Sto.V wu none 0,.int .i64 0,.bool false]) (by simp [results,results9,go_sem,Q,Sto.V,wu]) rfl ⟨none,0,rfl,⟨rfl,.inl ⟨rfl,rfl⟩⟩,N⟩
 case pos=>
  rw[if_pos L];unfold stV;have F:=c3.alloc (.cells #[(o:Int),l,m,dict,.slice none 0 0] 29);have g2:=g1.alloc oo (.cells #[(o:Int),l,m,dict,.slice none 0 0] 29);have c5:Bk (w1.alloc (.cells #[(o:Int),l,m,dict,.slice none 0 0] 29)) w1.heap.size 29 #[(o:Int),l,m,dict,.slice none 0 0]:=Bk.new w1 #[(o:Int),l,m,dict,.slice none 0 0] 29;by_cases d4:log.length≤30000
  case neg=>
   have f3:(30000:Int)<log.length:=oo;have hN:R=none:=(by rw[←U.out];unfold rX;rw[if_neg (fun h=>d4 h.2)]);subst hN;clear U L;have f1:=F.cell;have f2:=F.free;go_wp2;have Q:=(rq F).cell;have N:=yN g2 (b:=w.heap.size+1) oo wu none 0;exact bodyPost_ret (v:=.tuple #[Sto.V wu none 0,.int .i64 0,.bool false]) (by simp [results,results9,go_sem,Q,Sto.V,wu]) rfl ⟨none,0,rfl,⟨rfl,.inl ⟨rfl,rfl⟩⟩,N⟩
  case pos=>
   have f3:¬(30000:Int)<log.length:=oo;obtain⟨T,hT⟩:∃T,vX (log.length+1) (bY o l m dict) log 0=T:=⟨_,rfl⟩;have hN:R=some T:=(by rw[←U.out];unfold rX;rw[if_pos ⟨L,d4⟩,hT]);subst hN;have HT:=hid hT;have HF:=hid L;clear U hT L;go_upto_region 4 with(fail)
   generalize w1.alloc (.cells #[(o:Int),l,m,dict,.slice none 0 0] 29)=w2 at*;have z2:=c5.lt;generalize w1.heap.size=q at*;obtain⟨T,tn⟩:=T;go_wp2;go_loopw [11] (fun a wr=>∃(n k:Nat) (S:Sto) (A:Option Addr) (cap:Nat),a= .int .i64 (k:Int)∧k≤log.length∧log.length<k+n∧Hid (vX n S log (k:Int)=(T,tn))∧Hid (S.ok)∧wr.ownsRow (q+1) 60 2 (.slice A S.fs.length cap) S.fs.length (yC S.fs)∧Bk wr (w.heap.size+1) 29 wz∧Bk wr q 29 (S.C A cap)∧Below w.heap.size w wr) (fun i _=>log.length - (intOf i).toNat)
   case atStart=>exact⟨log.length+1,0,bY o l m dict,none,0,rfl,oo,oo,HT,Wi HF.out,⟨rfl,.inl ⟨rfl,rfl⟩⟩,F,c5,g2⟩
   case round=>
    obtain⟨n,k,S,A,cap,rfl,hk,hn,HG,HS,ow,b3,a4,g⟩:=hrel;clear F c5 g2 c3 g1;have hz:=g.size;have lq:=a4.lt;have f7:=b3.lt;have c8:=Sl.own ow;have f8:=HS.out.bd;have i5:S.fs.length≤6:=HS.out.2.1;have i6:=c8.1;have i7:=c8.2.1;have c9:Hid (∀(x:OpR) (M:x.ok) (B:Nat) (w':World),Below B wr w'→wr.heap.size≤B→Calls prog 30 #[S.V A cap,x.val] w' (StO (apT S x).1 (apT S x).2 w')):=fun x M B w' h hB=>dQ S x A cap w' (c8.below (h.mono hB)) f8 M.bd;have c':Hid (∀x e,yj log (k:Int)=some (x,e)→∃j:Nat,e=(j:Int)∧x.ok∧k<j∧j≤log.length):=fun x e h=>by
     obtain⟨E,i8,M,he,f9,_⟩:=sS h;have:=(iP x).1;exact⟨E+(uB x).length,oo,M,oo,f9⟩
    obtain⟨c,d,f,r,fs⟩:=S;simp only at*;have d6:=a4.cell;go_wp2_with fail;refine(bP log (k:Int) wr oo oo oo).mono ?_;rintro e W ⟨rfl,O⟩;have z3:=O.size;have X:=b3.below O f7;have a5:=a4.below O lq;have o3:=zf ow O;have g3:=g.trans (O.mono oo);have d7:=X.cell;have d8:=X.free;have d9:=a5.cell
    cases hr:yj log (k:Int) with
    |none=>
     have hG:=HG.out;rw[kH hr] at hG;injection hG with hG1 hG2
     subst hG1 hG2;rw[show rZ none= .returned (.tuple #[.agg #[.int .i64 0,.string ⟨#[]⟩,.int .i64 0,.int .i64 0,.int .i64 0,.string ⟨#[]⟩],.int .i64 0,.bool false]) from rfl];have Y:=X.alloc (.cells #[.int .i64 0,.string ⟨#[]⟩,.int .i64 0,.int .i64 0,.int .i64 0,.string ⟨#[]⟩] 42);have a7:=a5.alloc (.cells #[.int .i64 0,.string ⟨#[]⟩,.int .i64 0,.int .i64 0,.int .i64 0,.string ⟨#[]⟩] 42);have o4:=World.ownsRow.alloc o3 (.cells #[.int .i64 0,.string ⟨#[]⟩,.int .i64 0,.int .i64 0,.int .i64 0,.string ⟨#[]⟩] 42);have g4:=g3.alloc oo (.cells #[.int .i64 0,.string ⟨#[]⟩,.int .i64 0,.int .i64 0,.int .i64 0,.string ⟨#[]⟩] 42);have i':=Y.cell;have j0:=Y.free;have d':=a7.cell;clear X a5 o3 g3 d7 d8 d9 d6 b3 a4 g ow c9 c' hr;go_upto_region 6 with(fail)
     generalize W.alloc (.cells #[.int .i64 0,.string ⟨#[]⟩,.int .i64 0,.int .i64 0,.int .i64 0,.string ⟨#[]⟩] 42)=w4 at*;go_wp2;have Q:=(uC Y ⟨c,d,f,r,fs⟩ A cap).cell;have o9:=zF (B':=w.heap.size) (oG o4 (b:=w.heap.size+1) oo ⟨c,d,f,r,fs⟩ A cap) oo;have N:=yN g4 (b:=w.heap.size+1) oo ⟨c,d,f,r,fs⟩ A cap;exact bodyPost_ret (v:=.tuple #[Sto.V ⟨c,d,f,r,fs⟩ A cap,(k:Int),.bool true]) (by simp [results,results9,go_sem,Q]) rfl ⟨A,cap,rfl,o9,N⟩
    |some p=>
     obtain⟨x,e⟩:=p;obtain⟨j,rfl,M,j1,g7⟩:=c'.out x e hr;rw[Zm];have cX:=hid (c9.out x M wr.heap.size);have b8:Hid ((apT ⟨c,d,f,r,fs⟩ x).2=true→(apT ⟨c,d,f,r,fs⟩ x).1.ok∧∀E,vX (E+1) ⟨c,d,f,r,fs⟩ log (k:Int)=vX E (apT ⟨c,d,f,r,fs⟩ x).1 log (j:Int)):=fun h=>by
      cases ha:apO ⟨c,d,f,r,fs⟩ x with
      |none=>rw[Un ha] at h;cases h
      |some g8=>rw[iC ha];exact⟨(aI HS.out M ha).ok,fun E=>gy hr ha⟩
     have b9:Hid ((apT ⟨c,d,f,r,fs⟩ x).2=false→vX n ⟨c,d,f,r,fs⟩ log (k:Int)=(⟨c,d,f,r,fs⟩,(k:Int))):=fun h=>by
      cases ha:apO ⟨c,d,f,r,fs⟩ x with
      |none=>exact kN hr ha
      |some g8=>rw[iC ha] at h;cases h
     generalize apT ⟨c,d,f,r,fs⟩ x=g9 at*;clear M hr c9 c';obtain⟨⟨s,t,u,y,P⟩,tb⟩:=g9;simp only at cX b8 b9;obtain⟨G,H,I,xs,J,K⟩:=x;have Y:=X.alloc (.cells #[(G:Int),J,H,I,xs,K] 42);have a7:=a5.alloc (.cells #[(G:Int),J,H,I,xs,K] 42);have o4:=World.ownsRow.alloc o3 (.cells #[(G:Int),J,H,I,xs,K] 42);have g4:=g3.alloc oo (.cells #[(G:Int),J,H,I,xs,K] 42);have b4:=O.alloc z3 (.cells #[(G:Int),J,H,I,xs,K] 42);have d2:Bk (W.alloc (.cells #[(G:Int),J,H,I,xs,K] 42)) W.heap.size 42 #[(G:Int),J,H,I,xs,K]:=Bk.new W #[(G:Int),J,H,I,xs,K] 42;have z4:=d2.lt;have h0:=d2.cell;have d':=a7.cell;clear X a5 o3 g3 d7 d8 d9 d6 b3 a4 g ow O;go_upto_region 8 with(fail)
     generalize W.alloc (.cells #[(G:Int),J,H,I,xs,K] 42)=w4 at*;generalize W.heap.size=q4 at*;go_wp2_with fail;refine(cX.out w4 b4 (Nat.le_refl _)).mono ?_;rintro e w5 ⟨z,D,rfl,o5,Z⟩;have z5:=Z.size;have e2:=Y.below Z oo;have e3:=a7.below Z oo;have o5:=zF (B':=q+1) o5 oo;have e4:=zf o4 Z;have g5:=g4.trans (Z.mono oo);clear Y a7 o4 g4 b4 d2 h0 d' cX Z;simp only at o5;have b':=e2.alloc (.cells #[(s:Int),t,u,y,.slice z P.length D] 29);have d3:=e3.alloc (.cells #[(s:Int),t,u,y,.slice z P.length D] 29);have o6:=World.ownsRow.alloc o5 (.cells #[(s:Int),t,u,y,.slice z P.length D] 29);have h2:=World.ownsRow.alloc e4 (.cells #[(s:Int),t,u,y,.slice z P.length D] 29);have g6:=g5.alloc oo (.cells #[(s:Int),t,u,y,.slice z P.length D] 29);have e7:Bk (w5.alloc (.cells #[(s:Int),t,u,y,.slice z P.length D] 29)) w5.heap.size 29 #[(s:Int),t,u,y,.slice z P.length D]:=Bk.new w5 #[(s:Int),t,u,y,.slice z P.length D] 29;have h3:=e7.cell;have j5:=d3.cell;have j6:=d3.free;have j7:=b'.cell;have j8:=b'.free;clear e2 e3 g5 o5 e4;go_upto_region 9 with(fail)
     generalize w5.alloc (.cells #[(s:Int),t,u,y,.slice z P.length D] 29)=w6 at*;generalize w5.heap.size=q6 at*
     cases tb with
     |false=>
      have hG:=HG.out;rw[b9.out rfl] at hG;injection hG with hG1 hG2
      subst hG1 hG2;clear b8 b9 h3 e7;go_wp2;have Q:=(uC b' ⟨c,d,f,r,fs⟩ A cap).cell;have o9:=zF (B':=w.heap.size) (oG h2 (b:=w.heap.size+1) oo ⟨c,d,f,r,fs⟩ A cap) oo;have N:=yN g6 (b:=w.heap.size+1) oo ⟨c,d,f,r,fs⟩ A cap;exact bodyPost_ret (v:=.tuple #[Sto.V ⟨c,d,f,r,fs⟩ A cap,(k:Int),.bool true]) (by simp [results,results9,go_sem,Q]) rfl ⟨A,cap,rfl,o9,N⟩
     |true=>
      obtain⟨e8,e9⟩:=b8.out rfl;obtain⟨E,rfl⟩:∃E,n=E+1:=⟨n - 1,oo⟩;have h4:Hid (vX E ⟨s,t,u,y,P⟩ log (j:Int)=(T,tn)):=(e9 E).symm.trans HG.out;have HU:=hid e8;clear b8 b9 e8 e9 HG;go_wp2;go_roundw
      case rel=>exact⟨E,j,⟨s,t,u,y,P⟩,z,D,rfl,g7,oo,h4,HU,oG o6 (b:=q) oo ⟨s,t,u,y,P⟩ z D,XL b' (b:=q) oo ⟨s,t,u,y,P⟩ z D,uC d3 ⟨s,t,u,y,P⟩ z D,yN g6 (b:=q) oo ⟨s,t,u,y,P⟩ z D⟩
      case measure=>simp [intOf];omega
theorem ZP (o l m:Int)(dict log:Bs)(x:OpR)(w:World)(hd:dict.length≤1500000)(c3:log.length≤1500000)(e4:x.nm.length≤1500000)(e5:x.d.length≤1500000):
 Calls prog 38 #[.agg #[(o:Int),l,m],sv dict,sv log,x.val] w fun e w'=>e=yg (apL o l m dict log x)∧Below w.heap.size w w':=by
 obtain⟨G,hG⟩:∃G,apL o l m dict log x=G:=⟨_,rfl⟩;rw[hG];obtain⟨R,D⟩:∃R,rX o l m dict log=R:=⟨_,rfl⟩;have N:=fun w=>lu o l m dict log w hd c3;rw[D] at N;have O:=fun w=>Zd x.k x.f x.t x.s x.nm x.d w oo oo;have Q:Hid (∀T n,R=some (T,n)→T.ok∧0≤n∧n≤30000):=fun T n h=>by
  rw[h] at D;obtain⟨b,xs,rfl,hF⟩:=dA D;have h1:=hF.le;have h2:=hF.short;exact⟨hF.ok.1,oo,oo⟩
 have J:Hid (∀(T:Sto) A cap w,T.ok→x.ok→Sl w A T.fs.length cap 2 (yC T.fs)→Calls prog 68 #[T.V A cap,x.val] w (StO ((apO T x).getD wu) (apO T x).isSome w)):=fun T A cap w h1 h2 F=>by
  rw[←Kv h1 h2];exact XO T x A cap w F h1.bd h2.bd
 have S:Hid (R.bind (fun p=>if p.2=(log.length:Int)∧x.ok∧log.length+(uB x).length≤30000∧(apO p.1 x).isSome=true then some (log++uB x) else none)=G):=(by rw[←hG,←D];rfl);have b2:Hid ((uB x).length≤9004):=(iP x).2;clear D hG;obtain⟨T,K,U,h1,h2,F⟩:∃T K U,(R.map (·.1)).getD wu=T∧(R.map (·.2)).getD 0=K∧R.isSome=U:=⟨_,_,_,rfl,rfl,rfl⟩;unfold Ld at N;rw[h1,h2,F] at N;have HN:Hid (U=false→R=none):=fun h=>(by rw[h] at F;cases R with|none=>rfl|some _=>cases F);have HS:Hid (U=true→R=some (T,K)):=fun h=>by
  rw[h] at F
  cases R with
  |none=>cases F
  |some p=>rw[←h1,←h2];rfl
 clear h1 h2 F;obtain⟨u,y,z,B,P⟩:=T;obtain⟨c,g,i,xs,j,q⟩:=x;obtain⟨C,hC⟩:∃C,uB ⟨c,g,i,xs,j,q⟩=C:=⟨_,rfl⟩;rw[hC] at S b2;have b3:uA (xR c j g i xs q)=C:=hC;unfold XD at O;simp only at O;rw[b3] at O;clear hC b3;go_enter func38,ntmps38;have hA:Bk ((w.alloc (.cells #[(o:Int),l,m] 24)).alloc (.cells #[(c:Int),j,g,i,xs,q] 42)) w.heap.size 24 #[(o:Int),l,m]:=tBk;have hO:Bk ((w.alloc (.cells #[(o:Int),l,m] 24)).alloc (.cells #[(c:Int),j,g,i,xs,q] 42)) (w.heap.size+1) 42 #[(c:Int),j,g,i,xs,q]:=tBk;have g0:Below w.heap.size w ((w.alloc (.cells #[(o:Int),l,m] 24)).alloc (.cells #[(c:Int),j,g,i,xs,q] 42)):=zx;go_upto_region 1 with(fail)
 generalize(w.alloc (.cells #[(o:Int),l,m] 24)).alloc (.cells #[(c:Int),j,g,i,xs,q] 42)=w0 at*;have z0:=g0.size;have la:=hA.lt;have lo:=hO.lt;have c5:=hA.cell;go_wp2_with fail;refine(N _).mono ?_;rintro e V ⟨H,I,rfl,W,X⟩;have z1:=X.size;have b5:=hO.below X lo;have W:=zF (B':=w.heap.size+2) W oo;have g1:=g0.trans (X.mono oo);simp only at W;clear hA hO c5 X g0 N;have Y:=b5.alloc (.cells #[(u:Int),y,z,B,.slice H P.length I] 29);have a9:Bk (V.alloc (.cells #[(u:Int),y,z,B,.slice H P.length I] 29)) V.heap.size 29 #[(u:Int),y,z,B,.slice H P.length I]:=Bk.new V #[(u:Int),y,z,B,.slice H P.length I] 29;have o2:=World.ownsRow.alloc W (.cells #[(u:Int),y,z,B,.slice H P.length I] 29);have g2:=g1.alloc oo (.cells #[(u:Int),y,z,B,.slice H P.length I] 29);have c6:=Y.cell;go_upto_region 2 with(fail)
 clear b5 W g1;generalize V.alloc (.cells #[(u:Int),y,z,B,.slice H P.length I] 29)=w2 at*;have l2:=a9.lt;have c8:=Y.lt;generalize V.heap.size=f0 at*;go_wp2_with fail;refine(O _).mono ?_;rintro e w3 ⟨rfl,L⟩;have z3:=L.size;have c':=Y.below L c8;have d0:=a9.below L l2;have o3:=zf o2 L;have M:=g2.trans (L.mono oo);clear Y a9 o2 g2 c6 L O
 cases U with
 |false=>
  have D:=HN.out rfl;subst D;have r:G=none:=S.out.symm;subst r;clear S HN HS Q J;by_cases a:ql c j g i xs q
  ·rw[if_pos a]
   clear a;go_wp2;exact bodyPost_ret (v:=.tuple #[sv [],.bool false]) (by simp [results,results38,go_sem]) rfl ⟨rfl,M⟩
  ·rw[if_neg a]
   clear a;go_wp2;exact bodyPost_ret (v:=.tuple #[sv [],.bool false]) (by simp [results,results38,go_sem]) rfl ⟨rfl,M⟩
 |true=>
 have D:=HS.out rfl;subst D;obtain⟨b9,f2,f3⟩:=Q.out _ _ rfl;have E:Hid ((if K=(log.length:Int)∧ql c j g i xs q∧log.length+C.length≤30000∧(apO ⟨u,y,z,B,P⟩ ⟨c,g,i,xs,j,q⟩).isSome=true then some (log++C) else none)=G):=S.out;have Z:=hid b9;have f4:=b2.out;clear S HN HS Q b9;by_cases a:ql c j g i xs q
 case neg=>
  rw[if_neg a];have r:G=none:=(by rw[←E.out,if_neg (fun h=>a h.2.1)]);subst r;clear E a J Z;go_wp2;exact bodyPost_ret (v:=.tuple #[sv [],.bool false]) (by simp [results,results38,go_sem]) rfl ⟨rfl,M⟩
 case pos=>
  rw[if_pos a];by_cases hn:K=(log.length:Int)
  case neg=>
   have r:G=none:=(by rw[←E.out,if_neg (fun h=>hn h.1)]);subst r;have f5:(K != (log.length:Int))=true:=(by simpa using hn);clear E a J Z;go_wp2;exact bodyPost_ret (v:=.tuple #[sv [],.bool false]) (by simp [results,results38,go_sem]) rfl ⟨rfl,M⟩
  case pos=>
   subst hn;by_cases b':log.length+C.length≤30000
   case neg=>
    have r:G=none:=(by rw[←E.out,if_neg (fun h=>b' h.2.2.1)]);subst r;have d2:(30000:Int)<(log.length:Int)+C.length:=oo;clear E a J Z;go_wp2;exact bodyPost_ret (v:=.tuple #[sv [],.bool false]) (by simp [results,results38,go_sem]) rfl ⟨rfl,M⟩
   case pos=>
    have d2:¬(30000:Int)<(log.length:Int)+C.length:=oo;have CA:=hid (J.out ⟨u,y,z,B,P⟩ H I w3 Z.out a (Sl.own o3));obtain⟨a0,hW⟩:∃a0,apO ⟨u,y,z,B,P⟩ ⟨c,g,i,xs,j,q⟩=a0:=⟨_,rfl⟩;rw[hW] at CA E;have Q:=hid a;clear hW J a;have d3:=c'.cell;have d4:=d0.cell;go_wp2_with fail;refine(CA.out).mono ?_;rintro e w4 ⟨A4,c4,rfl,o4,b4⟩;have g4:=M.trans (b4.mono oo);have z4:=b4.size;clear CA d3 d4 b4 o4;generalize a0.getD wu=d9;obtain⟨Vo,Vl,Vm,Vd,e3⟩:=d9;have g5:=g4.alloc oo (.cells #[Vo,Vl,Vm,Vd,.slice A4 e3.length c4] 29)
    cases a0 with
    |none=>
     have r:G=none:=(by rw[←E.out,if_neg (fun h=>by cases h.2.2.2)]);subst r;simp only[Option.isSome_none];go_wp2;exact bodyPost_ret (v:=.tuple #[sv [],.bool false]) (by simp [results,results38,go_sem]) rfl ⟨rfl,g5⟩
    |some f8=>
     have r:G=some (log++C):=(by rw[←E.out,if_pos ⟨by first|exact rfl|exact trivial,Q.out,b',by first|exact rfl|exact trivial⟩]);subst r;simp only[Option.isSome_some];go_wp2;exact bodyPost_ret (v:=.tuple #[sv (log++C),.bool true]) (by simp [results,results38,go_sem]) rfl ⟨rfl,g5⟩
theorem PU {o l m:Int}{dict log L:Bs}{x:OpR}(h:apL o l m dict log x=some L):L.length≤30000:=by
 unfold apL at h
 cases hR:rX o l m dict log with
 |none=>rw[hR] at h;cases h
 |some p=>
  rw[hR,Option.bind_some] at h;split at h
  ·rename_i a;injection h with h;rw[←h,List.length_append];exact a.2.2.1
  ·cases h
theorem QF (r M:Nat)(w:World)(G:Rd w r M)(hM:M≤10000000):
 Calls prog 20 #[.pointer (some ⟨r,0,none⟩)] w fun e w'=>(∃(o l m:Int) (dict log:Bs),e= .returned (.tuple #[.agg #[(o:Int),l,m],sv dict,sv log])∧wM o l m∧dict.length≤40∧log.length≤30000)∧Rd w' r (M+1000)∧zo w.heap.size r w w':=by
 have u:=G.lt;have H:=Bk.new w #[.int .i64 0,.int .i64 0,.int .i64 0] 24;have R0:=G.alloc (.cells #[.int .i64 0,.int .i64 0,.int .i64 0] 24);have I:zo w.heap.size r w (w.alloc (.cells #[.int .i64 0,.int .i64 0,.int .i64 0] 24)):=xm zx r;go_enter func20,ntmps20;go_wp2_with fail;refine(Vj r M _ R0 oo).mono ?_;rintro e g ⟨⟨o,l,m,dict,rfl,J,a8⟩,K,h⟩;have z1:=h.size;try simp only[World.size_alloc,World.size_setCell,World.size_drew] at z1
 have y:=H.zV h oA oo;have N:=I.trans (h.mono oA);clear h I H;have z:=Bk.new g #[(o:Int),l,m] 24;have A:=y.alloc (.cells #[(o:Int),l,m] 24);have O:=K.alloc (.cells #[(o:Int),l,m] 24);have P:=N.alloc oo (.cells #[(o:Int),l,m] 24);have c3:w.heap.size<g.heap.size:=y.lt;have l1:=z.lt;have l0:=A.lt;go_upto_region 3 with(fail)
 clear K N y;generalize g.alloc (.cells #[(o:Int),l,m] 24)=w2 at*;generalize g.heap.size=i at*;go_wp2_with fail;refine(pick_any r _ 7 _ O oo oo oo).mono ?_;rintro e w3 ⟨⟨n0,rfl,Q,b1⟩,R,d⟩;have z3:=d.size;have T:=z.zV d l1 oo;have U:=A.zV d l0 oo;have V:=P.trans (d.mono oo);obtain⟨n,rfl⟩:=Int.eq_ofNat_of_zero_le Q;have c8:n≤6:=oo;clear Q b1 z A O P d;go_wp2;go_loopw [7,8] (fun x a wr=>∃(k c:Nat) (log:Bs),x= .string ⟨log.toArray⟩∧a= .int .i64 (k:Int)∧c+k=n∧log.length≤30000∧Rd wr r (M+120+100*c)∧zo w.heap.size r w wr∧Bk wr w.heap.size 24 #[.int .i64 0,.int .i64 0,.int .i64 0]∧Bk wr i 24 #[(o:Int),l,m]) (fun _ a _=>(intOf a).toNat)
 case atStart=>exact⟨n,0,[],rfl,rfl,by omega,by simp,R.mono (by omega),V,U,T⟩
 case round=>
  obtain⟨k,c,log,rfl,rfl,c9,W,B,C,j,D⟩:=hrel;clear R V U T;have z4:=C.size;have b2:=D.lt;have p:=D.cell;by_cases hk:0<k
  ·have b3:(0:Int)<k:=oo
   go_upto_region 6 with(fail)
   refine wp_region_held_drew (S:=(fun w'=>w'.cell? ⟨i,0,none⟩=some (.int .i64 o)∧w'.cell? ⟨i,1,none⟩=some (.int .i64 l)∧w'.cell? ⟨i,2,none⟩=some (.int .i64 m))) kr ?_ (fun X=> ?_);focus((refine⟨?_,?_,?_⟩;all_goals first|(simp [q];done)|(simp [s];done)|(simp [p];done)))
   refine tk 0 ?_;refine tk 1 ?_;refine tk 2 ?_;refine tk 3 ?_;refine tk 4 ?_;try simp only[Act.put,u2,u3,u4]
   refine rd1 5 fun KK t=> ?_;go_simp
   (go_at_call 31;refine(Nc r _ o l m _ B.drew oo J).mono ?_;rintro e w7 ⟨⟨x,rfl,Y⟩,Z,f⟩;have z7:wr.heap.size≤w7.heap.size:=f.size;have E:=D.drew.zV f b2 oo;have a0:=j.drew.zV f (by show _<wr.heap.size;omega) oo;have g7:=C.drew.trans (f.mono (by show _≤wr.heap.size;omega));have s:=E.cell;have d1:=Y.1;have d2:=Y.2)
   refine t.out _ _ (by(refine⟨?_,?_,?_⟩;all_goals first|(simp [q];done)|(simp [s];done)|(simp [p];done))) fun X=> ?_;try simp only[Act.put,u2,u3,u4]
   refine rd1 6 fun KK t=> ?_;go_simp
   (go_at_call 38;refine(ZP o l m dict log x _ oo oo oo oo).mono ?_;rintro e w8 ⟨rfl,b⟩;have z8:=b.size;have F:=E.below b oo;have a2:=a0.below b oo;have R8:=Z.keep b;have g8:=g7.trans (xm (b.mono oo) r);have q:=F.cell;(have a5:=fun L b6=>PU (o:=o) (l:=l) (m:=m) (dict:=dict) (log:=log) (x:=x) (L:=L) b6);generalize apL o l m dict log x=b7 at*;have b8:=hid a5;clear a5;unfold yg)
   refine t.out _ _ (by(refine⟨?_,?_,?_⟩;all_goals first|(simp [q];done)|(simp [s];done)|(simp [p];done))) fun X=> ?_;try simp only[Act.put,u2,u3,u4]
   refine tk 7 ?_;refine tk 8 ?_;refine tk 9 ?_;refine tk 10 ?_;refine tk 11 ?_;try simp only[Act.put,u2,u3,u4]
   refine wpAnyH_done kr ?_ _;have a6:=R8.mono (show _≤M+120+100*(c+1) by omega);clear t p s q B Z R8 E a0 g7 b f
   cases b7 with
   |none=>
    simp only[Option.isSome_none];go_wp2;go_roundw
    case rel=>exact⟨k - 1,c+1,log,rfl,by go_num,oo,W,a6,g8,a2,F⟩
    case measure=>simp [intOf];omega
   |some L=>
    have hL:=b8.out L rfl;simp only[Option.isSome_some,Option.getD_some];go_wp2;go_roundw
    case rel=>exact⟨k - 1,c+1,L,rfl,by go_num,oo,hL,a6,g8,a2,F⟩
    case measure=>simp [intOf];omega
  ·have b3:¬(0:Int)<k:=oo
   have hF:=j.free;have hY:=j.cell;go_wp2;have b':=(((j.set 0 (.int .i64 o)).set 1 (.int .i64 l)).set 2 (.int .i64 m)).cell;have R9:Rd (((wr.setCell ⟨w.heap.size,0,none⟩ (.int .i64 o)).setCell ⟨w.heap.size,1,none⟩ (.int .i64 l)).setCell ⟨w.heap.size,2,none⟩ (.int .i64 m)) r (M+1000):=Rd.far (Rd.far (Rd.far (B.mono oo) u _) u _) u _;have g9:zo w.heap.size r w (((wr.setCell ⟨w.heap.size,0,none⟩ (.int .i64 o)).setCell ⟨w.heap.size,1,none⟩ (.int .i64 l)).setCell ⟨w.heap.size,2,none⟩ (.int .i64 m)):=zo.setCell (zo.setCell (zo.setCell C (.inr (Nat.le_refl _)) _) (.inr (Nat.le_refl _)) _) (.inr (Nat.le_refl _)) _;exact bodyPost_ret (v:=.tuple #[.agg #[(o:Int),l,m],sv dict,sv log]) (by simp [results,results20,go_sem,b']) rfl ⟨⟨o,l,m,dict,log,rfl,J,a8,W⟩,R9,g9⟩
end Go.Proofs.YtoedhpcmgondjaaGreatDoor
namespace Go.Proofs.YtoedhpcmgondjaaGreatDoor
open Go.RowKit Go.Proofs.Tryz
set_option maxRecDepth 100000
attribute [local instance] mU hZ cvZ
attribute [local go_sem high] zA zB zD zS zL yf zC zk zl zt zi zu yR zG yu zH
attribute [local go_sem high] pF qZ
theorem XF (S:Sto)(n:Bs)(A:Option Addr)(cap:Nat)(w:World)(x:S.ok)(s:Sl w A S.fs.length cap 2 (yC S.fs)):
 Calls prog 44 #[S.V A cap,sv n] w fun e w'=>e= .returned (.tuple #[.int .i64 (uK S.fs n:Int),.bool (xQ S.fs n).isSome])∧Below w.heap.size w w':=by
 have U:=s.1;have W:=s.2.1;have Y:=x.2.1;have K:Hid (∀wr,Below w.heap.size w wr→Sl wr A S.fs.length cap 2 (yC S.fs)):=fun wr h=>s.below h;have E:Hid (∀(k:Nat) (hk:k<S.fs.length),(∀(j:Nat) (h:j<S.fs.length),j<k→Op.bytesLess S.fs[j].1 n=true)→Op.bytesLess S.fs[k].1 n=false→xQ S.fs n=(if S.fs[k].1=n then some k else none)∧uK S.fs n=k):=fun k hk p h=>⟨Pq x hk p h,X9 oo (fun j t=>p j oo t) (fun _=>h)⟩;have F:Hid (∀k,S.fs.length≤k→(∀(j:Nat) (h:j<S.fs.length),j<k→Op.bytesLess S.fs[j].1 n=true)→xQ S.fs n=none∧uK S.fs n=S.fs.length):=fun k hk p=>⟨Nv hk p,X9 (Nat.le_refl _) (fun j t=>p j t oo) (fun h=>by omega)⟩;clear s x;generalize xQ S.fs n=R at*;generalize uK S.fs n=X at*;obtain⟨o,l,m,dict,fs⟩:=S;simp only at*;go_enter func44,ntmps44;have y:Bk (w.alloc (.cells #[(o:Int),l,m,dict,.slice A fs.length cap] 29)) w.heap.size 29 #[(o:Int),l,m,dict,.slice A fs.length cap]:=tBk;have G:Below w.heap.size w (w.alloc (.cells #[(o:Int),l,m,dict,.slice A fs.length cap] 29)):=zx;go_upto_region 1 with(fail)
 generalize w.alloc (.cells #[(o:Int),l,m,dict,.slice A fs.length cap] 29)=Z at*;have L:=y.cell;go_wp2;go_loopw [11] (fun i wr=>∃k:Nat,i= .int .i64 (k:Int)∧k≤fs.length∧Hid (∀(j:Nat) (h:j<fs.length),j<k→Op.bytesLess fs[j].1 n=true)∧Bk wr w.heap.size 29 #[(o:Int),l,m,dict,.slice A fs.length cap]∧Below w.heap.size w wr) (fun i _=>fs.length - (intOf i).toNat)
 case atStart=>exact⟨0,rfl,oo,fun j h t=>by omega,y,G⟩
 case round=>
  obtain⟨k,rfl,hk,u,H,q⟩:=hrel;clear y G L;have I:=q.size;by_cases z:k<fs.length
  ·have M:(k:Int)<fs.length:=oo
   obtain⟨g,a0,rfl,hg,c0,c1⟩:=(K.out _ q).fl z;by_cases B:Op.bytesLess fs[k].1 n=true
   ·have N:=Go.Lib.hid (QJ z u.out B)
    have O:=H.alloc (.cells #[.string ⟨fs[k].1.toArray⟩,.string ⟨fs[k].2.toArray⟩] 60);generalize fs[k].1=a at*;generalize fs[k].2=b at*;go_wp2;go_roundw
    case rel=>exact⟨k+1,by go_num,oo,N,O,zx⟩
    case measure=>simp [intOf];omega
   ·have P:Op.bytesLess fs[k].1 n=false:=by simpa using B
    obtain⟨c,d⟩:=E.out k z u.out P;have d:=d.symm;subst d;have J:=(Bk.new wr #[.string ⟨fs[k].1.toArray⟩,.string ⟨fs[k].2.toArray⟩] 60);have Q:=J.cell;have hG:=zJ Q J.lt;clear E F B u;generalize fs[k].1=a at*;generalize fs[k].2=b at*;by_cases f:a=n
    ·have T:decide (a=n)=true:=by simpa using f
     rw[if_pos f] at c;subst c;clear f;go_wp2_with fail;refine wp_region_quiet_below kr kr ?_;repeat(go_big_quiet_step ((fail)))
     refine wpQuiet_nil ?_;intro C r;have D:Below _ _ C:=zh r;clear r;go_wp2;exact bodyPost_ret (v:=.tuple #[(k:Int),.bool true]) (by simp [results,results44,go_sem]) rfl ⟨rfl,(q.alloc I _).trans (D.mono (by simp;omega))⟩
    ·have T:decide (a=n)=false:=by simpa using f
     rw[if_neg f] at c;subst c;clear f;go_wp2_with fail;refine wp_region_quiet_below kr kr ?_;repeat(go_big_quiet_step ((fail)))
     refine wpQuiet_nil ?_;intro C r;have D:Below _ _ C:=zh r;clear r;go_wp2;exact bodyPost_ret (v:=.tuple #[(k:Int),.bool false]) (by simp [results,results44,go_sem]) rfl ⟨rfl,(q.alloc I _).trans (D.mono (by simp;omega))⟩
  ·have M:¬(k:Int)<fs.length:=oo
   obtain⟨c,d⟩:=F.out k oo u.out;subst c d;have d:=H.cell;go_wp2;exact bodyPost_ret (v:=.tuple #[(fs.length:Int),.bool false]) (by simp [results,results44,go_sem]) rfl ⟨rfl,q⟩
theorem fF (S:Sto)(x:OpR)(X:Bs)(A:Option Addr)(cap:Nat)(w:World)(B:S.dict.length≤1500000)(y:OpB x)(D:X.length≤1500000):
 Calls prog 47 #[S.V A cap,x.val,sv X] w fun e w'=>e=yg (chO S x X)∧Below w.heap.size w w':=by
 obtain⟨E,F,G,H,I,J,K,L,M,N⟩:=y;obtain⟨o,l,m,dict,fs⟩:=S;obtain⟨k,f,t,s,i,d⟩:=x;obtain⟨R,n⟩:∃R,chO ⟨o,l,m,dict,fs⟩ ⟨k,f,t,s,i,d⟩ X=R:=⟨_,rfl⟩;rw[n];unfold chO at n;simp only at*;have c:=Go.Lib.hid n;clear n;go_enter func47,ntmps47;have r:Bk ((w.alloc (.cells (Sto.C ⟨o,l,m,dict,fs⟩ A cap) 29)).alloc (.cells (OpR.cells ⟨k,f,t,s,i,d⟩) 42)) w.heap.size 29 (Sto.C ⟨o,l,m,dict,fs⟩ A cap):=tBk;have p:Bk ((w.alloc (.cells (Sto.C ⟨o,l,m,dict,fs⟩ A cap) 29)).alloc (.cells (OpR.cells ⟨k,f,t,s,i,d⟩) 42)) (w.heap.size+1) 42 (OpR.cells ⟨k,f,t,s,i,d⟩):=tBk;have j:Below w.heap.size w ((w.alloc (.cells (Sto.C ⟨o,l,m,dict,fs⟩ A cap) 29)).alloc (.cells (OpR.cells ⟨k,f,t,s,i,d⟩) 42)):=zx;simp only[Sto.C,OpR.cells] at r p j;go_upto_region 1 with(fail)
 generalize(w.alloc (.cells #[o,l,m,dict,.slice A fs.length cap] 29)).alloc (.cells #[k,i,f,t,s,d] 42)=O at*;have P:=r.cell;have Q:=p.cell;have T:=p.lt;by_cases h0:k=0
 ·have a:mkC o l m dict d s=R:=by rw[←c.out,if_pos h0]
  have b:=fun w=>jZ o l m dict d s w oo oo oo oo;rw[a] at b;clear a c;subst h0;go_wp2_with fail;refine(b _).mono ?_;rintro e q ⟨rfl,g⟩;have h:=j.trans (g.mono oo);unfold yg;go_wp2;exact bodyPost_ret (v:=.tuple #[sv (R.getD []),.bool R.isSome]) (by simp [results,results47,go_sem]) rfl ⟨rfl,h⟩
 have u:(k==0)=false:=(by simpa using h0);by_cases h1:k=1
 ·have a:apD o l m dict X d s=R:=by rw[←c.out,if_neg h0,if_pos h1]
  have b:=fun w=>af o l m dict X d s w oo oo oo oo oo;rw[a] at b;clear a c h0 u;subst h1;go_wp2_with fail;refine(b _).mono ?_;rintro e q ⟨rfl,g⟩;have h:=j.trans (g.mono oo);unfold yg;go_wp2;exact bodyPost_ret (v:=.tuple #[sv (R.getD []),.bool R.isSome]) (by simp [results,results47,go_sem]) rfl ⟨rfl,h⟩
 have z:(k==1)=false:=(by simpa using h1);by_cases h2:k=2
 ·have a:rpD o l m dict X f t d s=R:=by rw[←c.out,if_neg h0,if_neg h1,if_pos h2]
  have b:=fun w=>gZ o l m dict X f t d s w oo oo oo oo oo oo oo oo oo;rw[a] at b;clear a c h0 u h1 z;subst h2;go_wp2_with fail;refine(b _).mono ?_;rintro e q ⟨rfl,g⟩;have h:=j.trans (g.mono oo);unfold yg;go_wp2;exact bodyPost_ret (v:=.tuple #[sv (R.getD []),.bool R.isSome]) (by simp [results,results47,go_sem]) rfl ⟨rfl,h⟩
 have U:(k==2)=false:=(by simpa using h2);have a:mgD o l m dict X s=R:=(by rw[←c.out,if_neg h0,if_neg h1,if_neg h2]);have b:=fun w=>dK o l m dict X s w oo oo oo oo;rw[a] at b;clear a c h0 h1 h2;go_wp2_with fail;refine(b _).mono ?_;rintro e q ⟨rfl,g⟩;have h:=j.trans (g.mono oo);unfold yg;go_wp2;exact bodyPost_ret (v:=.tuple #[sv (R.getD []),.bool R.isSome]) (by simp [results,results47,go_sem]) rfl ⟨rfl,h⟩
end Go.Proofs.YtoedhpcmgondjaaGreatDoor
namespace Go.Proofs.YtoedhpcmgondjaaGreatDoor
open Go.RowKit Go.Proofs.Tryz
set_option maxRecDepth 100000
attribute [local instance] mU hZ
attribute [local go_sem high] zA zB zD zS zL yf zC zk zl zt zi zu yR zG yu zH
theorem WW (r M:Nat)(l:Bs)(w:World)(o:Rd w r M)(C:M≤30000000)(D:l.length≤100000):
 Calls prog 25 #[.pointer (some ⟨r,0,none⟩),sv l] w fun e w'=>(∃x:Bs,e= .returned (sv x)∧x.length≤l.length+10)∧Rd w' r (M+20)∧zo w.heap.size r w w':=by
 have E:=o.lt;have t:=o;have p:=zo.refl w.heap.size r w;go_enter func25,ntmps25;go_wp2_with fail;refine(pick_any r M (l.length+1) _ t oo oo oo).mono ?_;rintro e F ⟨⟨v,rfl,f,q⟩,u,g⟩;have y:=g.size;try simp only[World.size_alloc,World.size_setCell,World.size_drew] at y
 have s:=p.trans (g.mono oA);clear g p;obtain⟨n,rfl⟩:=Int.eq_ofNat_of_zero_le f;have G:n≤l.length:=oo;have H:(n:Int)≤l.length:=oo;clear f q;go_wp2_with fail;refine(pick_any r _ 5 _ u oo oo oo).mono ?_;rintro e I ⟨⟨k,rfl,J,K⟩,c,h⟩;have z:=h.size;try simp only[World.size_alloc,World.size_setCell,World.size_drew] at z
 have a:=s.trans (h.mono oA);clear h s;by_cases h0:k=0
 ·subst h0
  go_wp2;go_ret;exact⟨⟨l.take n,(by simp [sv]),by simp;omega⟩,c.mono (by omega),a⟩
 have L:(k==0)=false:=(by rw[beq_eq_false_iff_ne];exact h0);by_cases h1:k=1
 ·subst h1
  by_cases N:n<l.length
  ·have A:(n:Int)<l.length:=oo
   have O:(l.take n).length≤100000:=(by simp;omega);have P:(l.drop (n+1)).length≤100000:=(by simp;omega);have Q:((n:Int)+1).toNat=n+1:=oo;have R:=WL l (n+1);have S:¬9223372036854775807<n+1:=oo;have T:¬9223372036854775807<n+1+(l.length - (n+1)):=oo;have U:IntKind.i64.wrap ((n:Int)+1)=(n:Int)+1:=IntWalk.i64_in _ oo;go_wp2_with fail;go_region_with(go_at_call 21;refine(pick_any r _ 256 _ (Rd.drew c) (by omega) (by omega) (by omega)).mono ?_;rintro e B ⟨⟨v,rfl,f,q⟩,i,b⟩;have j:=b.size;simp only[World.size_drew] at j;have m:=(zo.drew a).trans (b.mono (by simp;omega)))
   all_goals
    go_wp2;go_ret;refine⟨⟨_,rfl,?_⟩,(i.alloc _).mono oo,m.alloc oo _⟩;simp;omega
  ·have A:¬(n:Int)<l.length:=oo
   go_wp2;go_ret;exact⟨⟨l,rfl,oo⟩,c.mono oo,a⟩
 have V:(k==1)=false:=(by rw[beq_eq_false_iff_ne];exact h1);by_cases h2:k=2
 ·subst h2
  go_wp2_with fail;refine(bz r _ 8 _ c oo oo).mono ?_;rintro e B ⟨⟨d,rfl,W⟩,i,b⟩;have j:=b.size;try simp only[World.size_alloc,World.size_setCell,World.size_drew] at j
  have m:=a.trans (b.mono oA);clear b a;have X:¬9223372036854775807<l.length+d.length:=oo;go_wp2;go_ret;exact⟨⟨l++d,(by simp [sv]),by simp;omega⟩,i.mono (by omega),m⟩
 have Y:(k==2)=false:=(by rw[beq_eq_false_iff_ne];exact h2);go_wp2;go_ret;exact⟨⟨l,rfl,oo⟩,c.mono oo,a⟩
def DrL (w:World)(e:Ending)(w':World):Prop:=(∃(o l m:Int) (dict log:Bs),e= .returned (.tuple #[.agg #[o,l,m],sv dict,sv log])∧dict.length≤40∧log.length≤30100)∧Below w.heap.size w w'
theorem Ou (x:UInt8)(n:Nat):(rep [x] n).length=n:=by simp [rep]
theorem iF (h:Bs)(A:Option Addr)(cap:Nat)(w:World)(M:Sl w A h.length cap 1 (h.map u8v)):
 Calls prog 7 #[.slice A h.length cap] w (DrL w):=by
 unfold DrL;go_enter func7,ntmps7;have E:=Bk.new w #[.int .i64 0,.int .i64 0,.int .i64 0] 24;have F:Below w.heap.size w (w.alloc (.cells #[.int .i64 0,.int .i64 0,.int .i64 0] 24)):=zx;have N:=M.below F;go_upto_region 1 with(fail)
 generalize w.alloc (.cells #[.int .i64 0,.int .i64 0,.int .i64 0] 24)=O at*;have z0:=E.lt;go_wp2_with fail;refine(Tc h A cap _ N).mono ?_;rintro e w1 ⟨rfl,P,i⟩;have z1:=i.size;have Q:=E.below i z0;have R:zo w.heap.size O.heap.size w w1:=xm (F.trans (i.mono oo)) _;clear i M N E F;generalize b':O.heap.size=r at*;have c0:=P.lt;go_wp2_with fail;refine(QF r _ _ P oo).mono ?_;rintro e j ⟨⟨o,l,m,dict,log,rfl,a5,a6,c1⟩,S,k⟩;have z2:=k.size;try simp only[World.size_alloc,World.size_setCell,World.size_drew] at z2
 have T:=Q.zV k oA oo;have U:=R.trans (k.mono oA);clear k R Q;have G:=Bk.new j #[(o:Int),l,m] 24;have R3:=S.alloc (.cells #[(o:Int),l,m] 24);have V:=T.alloc (.cells #[(o:Int),l,m] 24);have W:=U.alloc oo (.cells #[(o:Int),l,m] 24);clear S U T;go_upto_region 3 with(fail)
 generalize j.alloc (.cells #[(o:Int),l,m] 24)=w3 at*;have z3:=G.lt;have zq:r<j.heap.size:=oo;generalize j.heap.size=bb at*;go_wp2_with fail;refine(pick_any r _ 40 _ R3 oo oo oo).mono ?_;rintro e H ⟨⟨v,rfl,c5,c6⟩,I,a⟩;have z4:=a.size;try simp only[World.size_alloc,World.size_setCell,World.size_drew] at z4
 have n:=V.zV a oA oo;have p:=G.zV a oA oo;have q:=W.trans (a.mono oA);clear a W V G;go_upto_if 19 with(fail)
 go_cut [8] (fun x s=>∃t:Bs,x=sv t∧t.length≤30001∧Rd s r 1010∧zo w.heap.size r w s∧Bk s w.heap.size 24 #[.int .i64 0,.int .i64 0,.int .i64 0]∧Bk s bb 24 #[(o:Int),l,m])
 case first=>
  by_cases X:v=0
  ·subst X
   have Y:=Sl.list H [.int .i64 30000,.int .i64 30001] 3 H.heap.size 2 rfl rfl oo;go_wp2_with fail;refine(nK r _ [30000,30001] (some ⟨H.heap.size,0,none⟩) 2 _ (I.alloc _) (by omega) Y (by simp) (by simp) (by rintro g c7 ⟨⟩;omega)).mono ?_;rintro e w5 ⟨⟨y,J,rfl⟩,u,b⟩;have Z:=b.size;try simp only[World.size_alloc,World.size_setCell,World.size_drew] at Z
   have c:=(n.alloc _).zV b oA oo;have d:=(p.alloc _).zV b oA oo;have f:=(q.alloc oC _).trans (b.mono oA);clear b q n p;have c8:0≤y∧y≤30001:=by
    simp only[List.mem_cons,List.not_mem_nil,or_false] at J;rcases J with b1|b1<;>omega
   clear J Y;have cM:=fun w=>Zg [120] y w (by simp;omega) (by simp) (by omega);have c9:=Ou 120 y.toNat;generalize rep [120] y.toNat=b3 at*;go_wp2_with fail;refine(cM _).mono ?_;rintro e w' ⟨rfl,rfl⟩;go_wp2;go_meet;exact⟨b3,rfl,oo,u.mono oo,f,c,d⟩
  ·have c':(v==0)=false:=by rw[beq_eq_false_iff_ne];exact X
   go_wp2;go_meet;exact⟨log,rfl,oo,I.mono oo,q,n,p⟩
 obtain⟨t,rfl,d0,u,f,c,d⟩:=hcut;generalize wc=w5 at*;clear I q n p;have b4:=d.cell;have Z:=f.size;have d1:=c.lt;have d2:=d.lt;go_wp2_with fail;refine(QV r _ o l m _ u oo a5).mono ?_;rintro e w6 ⟨⟨z,B,C,rfl⟩,R6,D⟩;have z6:=D.size;have g6:=f.trans (D.mono oo);have a2:=c.zV D oo oo;clear D u f c d b4;go_wp2_with fail;refine(WW r _ t _ R6 oo oo).mono ?_;rintro e w7 ⟨⟨x,rfl,hx⟩,R7,K⟩;have g7:=g6.trans (K.mono oo);have L:=a2.zV K oo oo;have hF:=L.free;have hY:=L.cell;clear K R6 g6 a2;go_wp2;have b7:=(((L.set 0 (.int .i64 z)).set 1 (.int .i64 B)).set 2 (.int .i64 C)).cell;have g9:zo w.heap.size r w (((w7.setCell ⟨w.heap.size,0,none⟩ (.int .i64 z)).setCell ⟨w.heap.size,1,none⟩ (.int .i64 B)).setCell ⟨w.heap.size,2,none⟩ (.int .i64 C)):=zo.setCell (zo.setCell (zo.setCell g7 (.inr (Nat.le_refl _)) _) (.inr (Nat.le_refl _)) _) (.inr (Nat.le_refl _)) _;exact bodyPost_ret (v:=.tuple #[.agg #[(z:Int),B,C],sv dict,sv x]) (by simp [results,results7,go_sem,b7]) rfl ⟨⟨z,B,C,dict,x,rfl,a6,by omega⟩,g9.below (by omega)⟩
theorem fH (a:Bs)(A:Option Addr)(cap:Nat)(w:World)(l:Sl w A a.length cap 1 (a.map u8v)):
 Calls prog 12 #[.slice A a.length cap] w (DrL w):=by
 have f:=fun w h=>iF a A cap w h;unfold DrL at f⊢;go_enter func12,ntmps12;have g:=Bk.new w #[.int .i64 0,.int .i64 0,.int .i64 0] 24;have i:Below w.heap.size w (w.alloc (.cells #[.int .i64 0,.int .i64 0,.int .i64 0] 24)):=zx;have m:=l.below i;go_upto_region 1 with(fail)
 generalize w.alloc (.cells #[.int .i64 0,.int .i64 0,.int .i64 0] 24)=t at*;have n:=g.lt;go_wp2_with fail;refine(f _ m).mono ?_;rintro e o ⟨⟨b,c,d,dict,x,rfl,p,q⟩,j⟩;have k:=g.below j n;have r:=i.trans (j.mono oo);have u:=k.free;have y:=k.cell;clear j g i f l m;go_wp2;have Q:=(((k.set 0 (.int .i64 b)).set 1 (.int .i64 c)).set 2 (.int .i64 d)).cell;have s:Below w.heap.size w (((o.setCell ⟨w.heap.size,0,none⟩ (.int .i64 b)).setCell ⟨w.heap.size,1,none⟩ (.int .i64 c)).setCell ⟨w.heap.size,2,none⟩ (.int .i64 d)):=((r.setCell (Nat.le_refl _) _).setCell (Nat.le_refl _) _).setCell (Nat.le_refl _) _;exact bodyPost_ret (v:=.tuple #[.agg #[(b:Int),c,d],sv dict,sv x]) (by simp [results,results12,go_sem,Q]) rfl ⟨⟨b,c,d,dict,x,rfl,p,q⟩,s⟩
