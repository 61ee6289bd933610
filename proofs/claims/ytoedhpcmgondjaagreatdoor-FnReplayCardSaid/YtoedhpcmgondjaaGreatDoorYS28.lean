import Derived.Test.YtoedhpcmgondjaaGreatDoorYS26
import Derived.Test.YtoedhpcmgondjaaGreatDoorYW14
import Derived.Test.YtoedhpcmgondjaaGreatDoorYQ15
set_option linter.all false
set_option maxHeartbeats 8000000
namespace Go.Proofs.YtoedhpcmgondjaaGreatDoor
open Go.Lib(hid)
open Go.RowKit Go.Proofs.Tryz
set_option maxRecDepth 100000
attribute [local instance] mU hZ cvZ
attribute [local go_sem high] zG zF zH zV zN yu zD zl zn zt zi zu y9 zK yE zJ
def StO (T:Sto)(b:Bool)(w:World)(e:Ending)(w':World):Prop:=∃A cap,e= .returned (.tuple #[T.V A cap,.bool b])∧w'.ownsRow w.heap.size 60 2 (.slice A T.fs.length cap) T.fs.length (yz T.fs)∧Below w.heap.size w w'
theorem VU {w:World}{b c:Nat}{t:TypeId}{cs:Array Value}(h:Bk w c t cs)(a:c≠b)(S:Sto)(A:Option Addr)(cap:Nat):Bk (stW w b S A cap) c t cs:=
 ((((h.far (p:=⟨b,0,none⟩) a _).far (p:=⟨b,1,none⟩) a _).far (p:=⟨b,2,none⟩) a _).far (p:=⟨b,3,none⟩) a _).far (p:=⟨b,4,none⟩) a _
theorem LJ (o:Option Nat):decide (0≤ixV o)=o.isSome:=by cases o<;>simp [ixV]
def chS (S:Sto)(x:OpR):Option Bs:=if x.k=0 then mkC S.o S.l S.m S.dict x.d x.s else(wB S.fs x.nm).bind fun i=>chO S x (S.fs[i]?.getD ([],[])).2
def OpB (x:OpR):Prop:= -1000000≤x.s∧x.s≤1000000∧ -9223372036854775808≤x.f∧x.f≤9223372036854775807∧ -9223372036854775808≤x.t∧x.t≤9223372036854775807∧x.d.length≤1500000∧x.nm.length≤1500000∧ -9223372036854775808≤x.k∧x.k≤9223372036854775807
def StB (S:Sto):Prop:=S.dict.length≤1500000∧S.fs.length≤50000∧∀f ∈ S.fs,f.1.length≤1500000∧f.2.length≤1500000
theorem VC (S:Sto)(x:OpR)(A:Option Addr)(cap:Nat)(w:World)(p:Sl w A S.fs.length cap 2 (yz S.fs))(L:StB S)(M:OpB x):
 Calls prog 55 #[S.V A cap,x.val] w (rS w (yA (chS S x))):=by
 obtain⟨Y,Z,b3,b4,b5,b6,b7,b8,b9,a7⟩:=M;obtain⟨hd,hl,F⟩:=L;have a':=p.1;have b0:=p.2.1;have G:Hid (∀wr,Below w.heap.size w wr→Sl wr A S.fs.length cap 2 (yz S.fs)):=fun wr h=>p.below h;have B:Hid (∀wr,Below w.heap.size w wr→Calls prog 54 #[S.V A cap,sv x.nm] wr (rT wr (.int .i64 (ixV (wB S.fs x.nm))))):=fun wr h=>aY S x.nm A cap wr (p.below h) oo;have H:=hid F;clear p F;obtain⟨R,D⟩:∃R,chS S x=R:=⟨_,rfl⟩;rw[D];have n:=hid D;clear D;obtain⟨o,l,m,dict,fs⟩:=S;obtain⟨k,f,t,s,g,d⟩:=x;simp only at*;go_enter func55,ntmps55;have z:Bk ((w.alloc (.cells (Sto.C ⟨o,l,m,dict,fs⟩ A cap) 29)).alloc (.cells (OpR.cells ⟨k,f,t,s,g,d⟩) 42)) w.heap.size 29 (Sto.C ⟨o,l,m,dict,fs⟩ A cap):=tBk;have q:Bk ((w.alloc (.cells (Sto.C ⟨o,l,m,dict,fs⟩ A cap) 29)).alloc (.cells (OpR.cells ⟨k,f,t,s,g,d⟩) 42)) (w.heap.size+1) 42 (OpR.cells ⟨k,f,t,s,g,d⟩):=tBk;have r:Below w.heap.size w ((w.alloc (.cells (Sto.C ⟨o,l,m,dict,fs⟩ A cap) 29)).alloc (.cells (OpR.cells ⟨k,f,t,s,g,d⟩) 42)):=zy;simp only[Sto.C,OpR.cells] at z q r;go_upto_region 1 with(fail)
 generalize(w.alloc (.cells #[o,l,m,dict,.slice A fs.length cap] 29)).alloc (.cells #[k,g,f,t,s,d] 42)=w0 at*;have N:=z.cell;have O:=q.cell;have P:=q.lt;by_cases h0:k=0
 ·have a:mkC o l m dict d s=R:=by rw[←n.out];unfold chS;rw[if_pos h0]
  have I:=fun w=>ed o l m dict d s w oo oo oo oo;rw[a] at I;clear a n B;subst h0;go_wp2_with fail;refine(I _).mono ?_;rintro e Q ⟨rfl,b⟩;have i:=r.trans (b.mono oo);unfold yA;go_wp2;exact bodyPost_ret (v:=.tuple #[sv (R.getD []),.bool R.isSome]) (by simp [results,results55,go_sem]) rfl ⟨rfl,i⟩
 have b2:(k==0)=false:=(by simpa using h0);go_wp2_with fail;refine(B.out _ r).mono ?_;rintro e Q ⟨rfl,b⟩;have z1:=b.size;have U:=z.below b oo;have J:=q.below b P;have i:=r.trans (b.mono oo);have c0:=U.cell;have c1:=J.cell;have c2:=J.lt;clear z q N O r b B
 cases hi:wB fs g with
 |none=>
  have a:R=none:=(by rw[←n.out];unfold chS;rw[if_neg h0];simp only;rw[hi];rfl);subst a;unfold ixV;clear n;go_wp2;exact bodyPost_ret (v:=.tuple #[sv [],.bool false]) (by simp [results,results55,go_sem]) rfl ⟨rfl,i⟩
 |some j=>
  have E:=ZI hi;have a:chO ⟨o,l,m,dict,fs⟩ ⟨k,f,t,s,g,d⟩ fs[j].2=R:=(by rw[←n.out];unfold chS;rw[if_neg h0];simp only;rw[hi,Option.bind_some,List.getElem?_eq_getElem E];rfl);obtain⟨g2,c4,rfl,hg,W,b⟩:=(G.out _ i).fl E;have X:=(H.out fs[j] (List.getElem_mem E)).2;generalize fs[j]=fl at*;obtain⟨fa,T⟩:=fl;simp only at a W b X;unfold chO at a;simp only at a;rw[if_neg h0] at a;have c7:(j:Int)<fs.length:=oo;have c8:¬(j:Int)<0:=oo;unfold ixV;simp only;clear n hi G H;by_cases h1:k=1
  ·rw[if_pos h1] at a
   have c:=fun w=>Zp o l m dict T d s w oo oo oo oo oo;rw[a] at c;clear a;subst h1;go_wp2_with fail;refine(c _).mono ?_;rintro e K ⟨rfl,u⟩;have y:=i.trans (u.mono oo);unfold yA;go_wp2;exact bodyPost_ret (v:=.tuple #[sv (R.getD []),.bool R.isSome]) (by simp [results,results55,go_sem]) rfl ⟨rfl,y⟩
  rw[if_neg h1] at a;have c9:(k==1)=false:=(by simpa using h1);by_cases h2:k=2
  ·rw[if_pos h2] at a
   have c:=fun w=>fU o l m dict T f t d s w oo oo oo oo oo oo oo oo oo;rw[a] at c;clear a;subst h2;go_wp2_with fail;refine(c _).mono ?_;rintro e K ⟨rfl,u⟩;have y:=i.trans (u.mono oo);unfold yA;go_wp2;exact bodyPost_ret (v:=.tuple #[sv (R.getD []),.bool R.isSome]) (by simp [results,results55,go_sem]) rfl ⟨rfl,y⟩
  rw[if_neg h2] at a;have c':(k==2)=false:=(by simpa using h2);have c:=fun w=>bZ o l m dict T s w oo oo;rw[a] at c;clear a;go_wp2_with fail;refine(c _).mono ?_;rintro e K ⟨rfl,u⟩;have y:=i.trans (u.mono oo);unfold yA;go_wp2;exact bodyPost_ret (v:=.tuple #[sv (R.getD []),.bool R.isSome]) (by simp [results,results55,go_sem]) rfl ⟨rfl,y⟩
def apT (S:Sto)(x:OpR):Sto×Bool:=if x.k=4 then({ S with fs:=ry S.fs x.nm },(wB S.fs x.nm).isSome) else({ S with fs:=rV S.fs x.nm ((chS S x).getD []) },(chS S x).isSome&&decide ((rV S.fs x.nm ((chS S x).getD [])).length≤6))
theorem aO (S:Sto)(x:OpR)(A:Option Addr)(cap:Nat)(w:World)(r:Sl w A S.fs.length cap 2 (yz S.fs))(hS:StB S)(hx:OpB x):
 Calls prog 30 #[S.V A cap,x.val] w (StO (apT S x).1 (apT S x).2 w):=by
 have hl:=hS.2.1;have e3:=r.1;have e4:=r.2.1;have cW:Hid (∀wr,Below w.heap.size w wr→Calls prog 53 #[S.V A cap,sv x.nm] wr (StR { S with fs:=ry S.fs x.nm } wr)):=fun wr h=>Xp S x.nm A cap wr (r.below h) oo;have cI:Hid (∀wr,Below w.heap.size w wr→Calls prog 54 #[S.V A cap,sv x.nm] wr (rT wr (.int .i64 (ixV (wB S.fs x.nm))))):=fun wr h=>aY S x.nm A cap wr (r.below h) oo;have O:Hid (∀wr,Below w.heap.size w wr→Calls prog 55 #[S.V A cap,x.val] wr (rS wr (yA (chS S x)))):=fun wr h=>VC S x A cap wr (r.below h) hS hx;have B:Hid (∀X wr,Below w.heap.size w wr→Calls prog 56 #[S.V A cap,sv x.nm,sv X] wr (StR { S with fs:=rV S.fs x.nm X } wr)):=fun X wr h=>Nz S x.nm X A cap wr (r.below h) hl;have U:Hid (-1≤ixV (wB S.fs x.nm)∧ixV (wB S.fs x.nm)≤50000):=by
  show _∧_
  cases hi:wB S.fs x.nm with
  |none=>simp [ixV]
  |some e5=>have:=ZI hi;simp only[ixV];omega
 clear r hS hx;obtain⟨T,u⟩:∃T,apT S x=T:=⟨_,rfl⟩;rw[u];have W:=hid u;clear u;obtain⟨R,hR⟩:∃R,chS S x=R:=⟨_,rfl⟩;rw[hR] at O;have HR:=hid hR;clear hR;obtain⟨o,l,m,dict,fs⟩:=S;obtain⟨k,f,t,s,a,d⟩:=x;simp only at*;unfold StO;go_enter func30,ntmps30;have i:Bk (((w.alloc (.cells (Sto.C ⟨o,l,m,dict,fs⟩ A cap) 29)).alloc (.cells (OpR.cells ⟨k,f,t,s,a,d⟩) 42)).alloc (.cells yR 29)) w.heap.size 29 (Sto.C ⟨o,l,m,dict,fs⟩ A cap):=tBk;have n:Bk (((w.alloc (.cells (Sto.C ⟨o,l,m,dict,fs⟩ A cap) 29)).alloc (.cells (OpR.cells ⟨k,f,t,s,a,d⟩) 42)).alloc (.cells yR 29)) (w.heap.size+1) 42 (OpR.cells ⟨k,f,t,s,a,d⟩):=tBk;have I:Bk (((w.alloc (.cells (Sto.C ⟨o,l,m,dict,fs⟩ A cap) 29)).alloc (.cells (OpR.cells ⟨k,f,t,s,a,d⟩) 42)).alloc (.cells yR 29)) (w.heap.size+1+1) 29 yR:=tBk;have D:Below w.heap.size w (((w.alloc (.cells (Sto.C ⟨o,l,m,dict,fs⟩ A cap) 29)).alloc (.cells (OpR.cells ⟨k,f,t,s,a,d⟩) 42)).alloc (.cells yR 29)):=zy;simp only[Sto.C,OpR.cells] at i n I D;go_upto_region 1 with(fail)
 generalize((w.alloc (.cells #[(o:Int),l,m,dict,.slice A fs.length cap] 29)).alloc (.cells #[k,a,f,t,s,d] 42)).alloc (.cells yR 29)=Y at*;have z0:=D.size;have la:=i.lt;have lo:=n.lt;have lb:=I.lt;by_cases Z:k=4
 ·obtain⟨J,hJ⟩:∃J,ixV (wB fs a)=J:=⟨_,rfl⟩
  have u:T=(⟨o,l,m,dict,ry fs a⟩,decide (0≤J)):=(by rw[←W.out,←hJ,LJ];unfold apT;rw[if_pos Z]);subst u;have d6:=U.out.1;have d7:=U.out.2;rw[hJ] at cI d6 d7;clear W HR O B U hJ;subst Z;have b1:=i.cell;have b3:=n.cell;go_upto_region 2 with(fail)
  have a0:(fun w'=>w'.cell? ⟨w.heap.size,0,none⟩=some (.int .i64 o)∧w'.cell? ⟨w.heap.size,1,none⟩=some (.int .i64 l)∧w'.cell? ⟨w.heap.size,2,none⟩=some (.int .i64 m)∧w'.cell? ⟨w.heap.size,3,none⟩=some (.string ⟨dict.toArray⟩)∧w'.cell? ⟨w.heap.size,4,none⟩=some (.slice A fs.length cap)∧w'.cell? ⟨w.heap.size+1,1,none⟩=some (.string ⟨a.toArray⟩)) Y:=⟨i.cell 0,i.cell 1,i.cell 2,i.cell 3,i.cell 4,n.cell 1⟩;clear b1 b3;refine wp_region_held_drew (S:=(fun w'=>w'.cell? ⟨w.heap.size,0,none⟩=some (.int .i64 o)∧w'.cell? ⟨w.heap.size,1,none⟩=some (.int .i64 l)∧w'.cell? ⟨w.heap.size,2,none⟩=some (.int .i64 m)∧w'.cell? ⟨w.heap.size,3,none⟩=some (.string ⟨dict.toArray⟩)∧w'.cell? ⟨w.heap.size,4,none⟩=some (.slice A fs.length cap)∧w'.cell? ⟨w.heap.size+1,1,none⟩=some (.string ⟨a.toArray⟩))) kr ?_ (fun b4=> ?_);focus((first|exact a1|exact a2|exact a3|exact a0))
  refine tk 0 ?_;refine tk 1 ?_;refine tk 2 ?_;refine tk 4 ?_;refine tk 5 ?_;refine tk 6 ?_;try simp only[Act.put,rR]
  refine rd1 3 fun KK K=> ?_;go_simp
  (go_at_call 53;refine(cW.out _ yj).mono ?_;rintro e8 w8 ⟨p,q,rfl,o8,y⟩;have o8:=zI (B':=Y.heap.size) o8 oA;have y:Below Y.heap.size Y w8:=zB y;have z8:=y.size;have E:=i.below y la;have c6:=n.below y lo;have b6:=I.below y lb;have g8:=D.trans (y.mono oo);have a3:(fun w'=>w'.cell? ⟨w.heap.size,0,none⟩=some (.int .i64 o)∧w'.cell? ⟨w.heap.size,1,none⟩=some (.int .i64 l)∧w'.cell? ⟨w.heap.size,2,none⟩=some (.int .i64 m)∧w'.cell? ⟨w.heap.size,3,none⟩=some (.string ⟨dict.toArray⟩)∧w'.cell? ⟨w.heap.size,4,none⟩=some (.slice A fs.length cap)∧w'.cell? ⟨w.heap.size+1,1,none⟩=some (.string ⟨a.toArray⟩)) w8:=⟨E.cell 0,E.cell 1,E.cell 2,E.cell 3,E.cell 4,c6.cell 1⟩;have e':=b6.cell;have f0:=b6.free)
  refine K.out _ _ (by(first|exact a1|exact a2|exact a3|exact a0)) fun b4=> ?_;try simp only[Act.put,rR]
  refine rd1 7 fun KK K=> ?_;go_simp
  (go_at_call 54;refine(cI.out _ yj).mono ?_;rintro e9 w9 ⟨rfl,j⟩;have j:Below w8.heap.size w8 w9:=(by first|exact j|exact zB j);have z9:=j.size;have F:=E.below j oo;have c7:=c6.below j oo;have b8:=b6.below j oo;have g9:=g8.trans (j.mono oo);have L:=zf o8 j;have a2:(fun w'=>w'.cell? ⟨w.heap.size,0,none⟩=some (.int .i64 o)∧w'.cell? ⟨w.heap.size,1,none⟩=some (.int .i64 l)∧w'.cell? ⟨w.heap.size,2,none⟩=some (.int .i64 m)∧w'.cell? ⟨w.heap.size,3,none⟩=some (.string ⟨dict.toArray⟩)∧w'.cell? ⟨w.heap.size,4,none⟩=some (.slice A fs.length cap)∧w'.cell? ⟨w.heap.size+1,1,none⟩=some (.string ⟨a.toArray⟩)) w9:=⟨F.cell 0,F.cell 1,F.cell 2,F.cell 3,F.cell 4,c7.cell 1⟩;have f3:=b8.cell;have f4:=b8.free;have M:=VU F (b:=w.heap.size+1+1) oo ⟨o,l,m,dict,ry fs a⟩ p q;have d':=VU c7 (b:=w.heap.size+1+1) oo ⟨o,l,m,dict,ry fs a⟩ p q;have a1:(fun w'=>w'.cell? ⟨w.heap.size,0,none⟩=some (.int .i64 o)∧w'.cell? ⟨w.heap.size,1,none⟩=some (.int .i64 l)∧w'.cell? ⟨w.heap.size,2,none⟩=some (.int .i64 m)∧w'.cell? ⟨w.heap.size,3,none⟩=some (.string ⟨dict.toArray⟩)∧w'.cell? ⟨w.heap.size,4,none⟩=some (.slice A fs.length cap)∧w'.cell? ⟨w.heap.size+1,1,none⟩=some (.string ⟨a.toArray⟩)) (stW w9 (w.heap.size+1+1) ⟨o,l,m,dict,ry fs a⟩ p q):=⟨M.cell 0,M.cell 1,M.cell 2,M.cell 3,M.cell 4,d'.cell 1⟩)
  refine K.out _ _ (by(first|exact a1|exact a2|exact a3|exact a0)) fun b4=> ?_;try simp only[Act.put,rR]
  refine tk 8 ?_;try simp only[Act.put,rR]
  refine rd1 9 fun KK K=> ?_;go_simp;refine K.out _ _ (by(first|exact a1|exact a2|exact a3|exact a0)) fun b4=> ?_;try simp only[Act.put,rR]
  refine tk 10 ?_;try simp only[Act.put,rR]
  refine wpAnyH_done kr ?_ _;go_wp2;have Q:=(wJ b8 ⟨o,l,m,dict,ry fs a⟩ p q).cell;have z:=zI (B':=w.heap.size) (nJ L (b:=w.heap.size+1+1) oo ⟨o,l,m,dict,ry fs a⟩ p q) oo;have N:=yx g9 (b:=w.heap.size+1+1) oo ⟨o,l,m,dict,ry fs a⟩ p q;exact bodyPost_ret (v:=.tuple #[Sto.V ⟨o,l,m,dict,ry fs a⟩ p q,.bool (decide (0≤J))]) (by simp [results,results30,go_sem,Q]) rfl ⟨p,q,rfl,z,N⟩
 ·have f5:(k==4)=false:=by simpa using Z
  obtain⟨P,hP⟩:∃P,rV fs a (R.getD [])=P:=⟨_,rfl⟩;have u:T=(⟨o,l,m,dict,P⟩,R.isSome&&decide (P.length≤6)):=(by rw[←W.out,←hP,←HR.out];unfold apT;rw[if_neg Z]);subst u;have B:=B.out (R.getD []);rw[hP] at B;have CS:=hid B;clear B W HR cW cI U hP;have b1:=i.cell;have b3:=n.cell;go_wp2_with fail;refine(O.out _ D).mono ?_;rintro e w1 ⟨rfl,G⟩;have z1:=G.size;have c9:=i.below G la;have c':=n.below G lo;have d0:=I.below G lb;have g1:=D.trans (G.mono oo);have e0:=c9.cell;have e1:=c'.cell;clear i n I b1 b3 G D O;unfold yA;go_wp2_with fail;refine(CS.out _ g1).mono ?_;rintro e H ⟨c,g,rfl,z,b2⟩;have z2:=b2.size;have z:=zI (B':=w.heap.size+3) z oo;have d1:=d0.below b2 oo;have g2:=g1.trans (b2.mono oo);simp only at z;clear c9 c' e0 e1 b2 g1 CS;have a6:=d1.alloc (.cells #[(o:Int),l,m,dict,.slice c P.length g] 29);have o3:=World.ownsRow.alloc z (.cells #[(o:Int),l,m,dict,.slice c P.length g] 29);have g3:=g2.alloc oo (.cells #[(o:Int),l,m,dict,.slice c P.length g] 29);have e2:Bk (H.alloc (.cells #[(o:Int),l,m,dict,.slice c P.length g] 29)) H.heap.size 29 #[(o:Int),l,m,dict,.slice c P.length g]:=Bk.new H #[(o:Int),l,m,dict,.slice c P.length g] 29;have f9:=a6.cell;have f':=a6.free;have g0:=e2.cell;go_upto_region 5 with(fail)
  have g4:w.heap.size+1+1<H.heap.size:=oo;clear d1 d0 z g2;generalize(H.alloc (.cells #[(o:Int),l,m,dict,.slice c P.length g] 29))=w3 at*;generalize H.heap.size=g6 at*
  cases R with
  |none=>
   simp only[Option.isSome_none,Option.getD_none,Bool.false_and];go_region;go_wp2;have Q:=(wJ a6 ⟨o,l,m,dict,P⟩ c g).cell;have L:=wZ (zI (B':=w.heap.size) (nJ o3 (b:=w.heap.size+1+1) oo ⟨o,l,m,dict,P⟩ c g) oo);have N:=(yx g3 (b:=w.heap.size+1+1) oo ⟨o,l,m,dict,P⟩ c g).drew;exact bodyPost_ret (v:=.tuple #[Sto.V ⟨o,l,m,dict,P⟩ c g,.bool false]) (by simp [results,results30,go_sem,Q]) rfl ⟨c,g,rfl,L,N⟩
  |some X=>
   simp only[Option.isSome_some,Option.getD_some,Bool.true_and];go_region;go_wp2;have Q:=(wJ a6 ⟨o,l,m,dict,P⟩ c g).cell;have L:=wZ (zI (B':=w.heap.size) (nJ o3 (b:=w.heap.size+1+1) oo ⟨o,l,m,dict,P⟩ c g) oo);have N:=(yx g3 (b:=w.heap.size+1+1) oo ⟨o,l,m,dict,P⟩ c g).drew;exact bodyPost_ret (v:=.tuple #[Sto.V ⟨o,l,m,dict,P⟩ c g,.bool (decide (P.length≤6))]) (by simp [results,results30,go_sem,Q];omega) rfl ⟨c,g,rfl,L,N⟩
theorem fF {S T:Sto}{x:OpR}(h:apO S x=some T):apT S x=(T,true):=by
 unfold apO at h;unfold apT;by_cases a:x.k=4
 ·rw[if_pos a] at h⊢
  split at h
  ·rename_i b
   injection h with h
   rw[h,b]
  ·cases h
 ·rw[if_neg a] at h⊢
  have c:((if x.k=0 then mkC S.o S.l S.m S.dict x.d x.s else(wB S.fs x.nm).bind fun i=>chO S x (S.fs[i]?.getD ([],[])).2))=chS S x:=rfl;rw[c] at h
  cases hR:chS S x with
  |none=>rw[hR] at h;cases h
  |some X=>
   rw[hR,Option.bind_some] at h;split at h
   ·rename_i e
    injection h with h
    simp only[Option.getD_some,Option.isSome_some,Bool.true_and];rw[h,decide_eq_true e]
   ·cases h
theorem UZ {S:Sto}{x:OpR}(h:apO S x=none):(apT S x).2=false:=by
 unfold apO at h;unfold apT;by_cases a:x.k=4
 ·rw[if_pos a] at h⊢
  split at h
  ·cases h
  ·rename_i b;simpa using b
 ·rw[if_neg a] at h⊢
  have c:((if x.k=0 then mkC S.o S.l S.m S.dict x.d x.s else(wB S.fs x.nm).bind fun i=>chO S x (S.fs[i]?.getD ([],[])).2))=chS S x:=rfl;rw[c] at h
  cases hR:chS S x with
  |none=>simp
  |some X=>
   rw[hR,Option.bind_some] at h;split at h
   ·cases h
   ·rename_i e
    simp only[Option.getD_some,Option.isSome_some,Bool.true_and];simpa using e
theorem Oh {o l m:Int}{dict t x:Bs}(h:cdB o l m dict t=some x):t.length≤2960:=by
 unfold cdB at h;split at h
 ·cases hb:zX t with
  |none=>rw[hb] at h;cases h
  |some a=>exact(xI hb).1
 ·cases h
theorem Sto.ok.bd {S:Sto}(h:S.ok):StB S:=by
 refine⟨by have:=h.1.2.1;omega,by have:=h.2.1;omega,fun f a=> ?_⟩;obtain⟨i,b,rfl⟩:=List.mem_iff_getElem.1 a;obtain⟨h1,h2,_⟩:=h.2.2 i b;have:=qY h1;obtain⟨d,c⟩:=Option.isSome_iff_exists.1 h2;have:=Oh c;exact⟨by omega,oo⟩
theorem OpR.ok.bd {x:OpR}(h:x.ok):OpB x:=by
 obtain⟨h1,h2,b⟩:=h;have:=qY h1;unfold OpB;rcases b with⟨a|a,_,_,_,_⟩|⟨a,_,_,_,_⟩|⟨a,_,_,_,_⟩|⟨a,_,_,_,_⟩<;>(refine⟨?_,?_,?_,?_,?_,?_,?_,?_,?_,?_⟩<;>omega)
noncomputable def aoO (S:Sto)(x:OpR):Option Sto:=if S.okB=true∧rM x.k x.nm x.f x.t x.s x.d then apO S x else none
theorem Qa {S:Sto}{x:OpR}(a:S.ok)(b:x.ok):aoO S x=apO S x:=by
 unfold aoO;rw[if_pos ⟨(Sto.dS S).2 a,b⟩]
def y7 :Sto:=⟨0,0,0,[],[]⟩
theorem tX {w:World}{b:Nat}{t:TypeId}{a c d e f:Value}(h:Bk w b t #[a,c,d,e,f]):
 Bk (((((w.setCell ⟨b,0,none⟩ (.int .i64 0)).setCell ⟨b,1,none⟩ (.int .i64 0)).setCell ⟨b,2,none⟩ (.int .i64 0)).setCell ⟨b,3,none⟩ (.string ⟨#[]⟩)).setCell ⟨b,4,none⟩ (.slice none 0 0)) b t yR:=wJ h ⟨0,0,0,[],[]⟩ none 0
theorem Rk (S:Sto)(x:OpR)(A:Option Addr)(cap:Nat)(w:World)(D:Sl w A S.fs.length cap 2 (yz S.fs))(U:S.dict.length≤1500000∧S.fs.length≤1500000∧∀f ∈ S.fs,f.1.length≤1500000∧f.2.length≤1500000)(hx:x.nm.length≤1500000∧x.d.length≤1500000):
 Calls prog 68 #[S.V A cap,x.val] w (StO ((aoO S x).getD y7) (aoO S x).isSome w):=by
 have hl:=U.2.1;have d3:=D.1;have d4:=D.2.1;have cV:Hid (∀wr,Below w.heap.size w wr→Calls prog 100 #[S.V A cap] wr (rT wr (.bool S.okB))):=fun wr h=>Zq S A cap wr (D.below h) U.1 oo U.2.2;have W:Hid (∀wr,Calls prog 99 #[x.val] wr (rT wr (.bool (decide (rM x.k x.nm x.f x.t x.s x.d))))):=fun wr=>lH x.k x.f x.t x.s x.nm x.d wr oo oo;have E:Hid (S.okB=true→decide (rM x.k x.nm x.f x.t x.s x.d)=true→∀wr,Below w.heap.size w wr→Calls prog 30 #[S.V A cap,x.val] wr (StO (apT S x).1 (apT S x).2 wr)):=fun h1 b5 wr h=>aO S x A cap wr (D.below h) (Sto.ok.bd ((Sto.dS S).1 h1)) (OpR.ok.bd (of_decide_eq_true b5));clear D U hx;obtain⟨bv,F⟩:∃b,S.okB=b:=⟨_,rfl⟩;obtain⟨ov,q⟩:∃b,decide (rM x.k x.nm x.f x.t x.s x.d)=b:=⟨_,rfl⟩;obtain⟨T,G⟩:∃T,apT S x=T:=⟨_,rfl⟩;rw[F] at cV;rw[q] at W;rw[G,q,F] at E;obtain⟨R,a⟩:∃R,aoO S x=R:=⟨_,rfl⟩;have r:Hid ((bv=false∨ov=false∨T.2=false)→R=none):=by
  intro h;rw[←a];unfold aoO;split
  ·rename_i X
   cases ha:apO S x with
   |none=>rfl
   |some b6=>
    have:=fF ha;rw[G] at this;rw[F] at X;rcases h with h|h|h
    ·rw[h] at X;simp at X
    ·rw[h] at q;exact absurd X.2 (by simpa using q)
    ·rw[this] at h;cases h
  ·rfl
 have H:Hid (bv=true→ov=true→T.2=true→R=some T.1):=by
  intro h1 h2 h3;rw[←a];unfold aoO;rw[if_pos ⟨F.trans h1,by rw[h2] at q;simpa using q⟩]
  cases ha:apO S x with
  |none=>have:=UZ ha;rw[G] at this;rw[this] at h3;cases h3
  |some b6=>have:=fF ha;rw[G] at this;rw[this]
 rw[a];clear F q G a;obtain⟨T,tb⟩:=T;obtain⟨o,l,m,dict,fs⟩:=S;obtain⟨k,f,t,s,y,d⟩:=x;simp only at*;unfold StO;go_enter func68,ntmps68;have I:Bk (((w.alloc (.cells (Sto.C ⟨o,l,m,dict,fs⟩ A cap) 29)).alloc (.cells (OpR.cells ⟨k,f,t,s,y,d⟩) 42)).alloc (.cells yR 29)) w.heap.size 29 (Sto.C ⟨o,l,m,dict,fs⟩ A cap):=tBk;have J:Bk (((w.alloc (.cells (Sto.C ⟨o,l,m,dict,fs⟩ A cap) 29)).alloc (.cells (OpR.cells ⟨k,f,t,s,y,d⟩) 42)).alloc (.cells yR 29)) (w.heap.size+1) 42 (OpR.cells ⟨k,f,t,s,y,d⟩):=tBk;have Y:Bk (((w.alloc (.cells (Sto.C ⟨o,l,m,dict,fs⟩ A cap) 29)).alloc (.cells (OpR.cells ⟨k,f,t,s,y,d⟩) 42)).alloc (.cells yR 29)) (w.heap.size+1+1) 29 yR:=tBk;have K:Below w.heap.size w (((w.alloc (.cells (Sto.C ⟨o,l,m,dict,fs⟩ A cap) 29)).alloc (.cells (OpR.cells ⟨k,f,t,s,y,d⟩) 42)).alloc (.cells yR 29)):=zy;simp only[Sto.C,OpR.cells] at I J Y K;go_upto_region 1 with(fail)
 generalize((w.alloc (.cells #[o,l,m,dict,.slice A fs.length cap] 29)).alloc (.cells #[k,y,(f:Int),t,s,d] 42)).alloc (.cells yR 29)=w0 at*;have z0:=K.size;have la:=I.lt;have lo:=J.lt;have lb:=Y.lt;have c0:=I.cell;have c1:=J.cell;go_wp2_with fail;refine(cV.out _ K).mono ?_;rintro e w1 ⟨rfl,z⟩;have z1:=z.size;have a5:=I.below z la;have a6:=J.below z lo;have L:=Y.below z lb;have g1:=K.trans (z.mono oo);have c2:=a5.cell;have c3:=a6.cell;have c4:=L.cell;have c5:=L.free;clear I J Y c0 c1 z K cV
 cases bv with
 |false=>
  have a:=r.out (.inl rfl);subst a;clear r H W E;go_wp2;have Q:=(tX L).cell;have u:=yx g1 (b:=w.heap.size+1+1) oo y7 none 0;exact bodyPost_ret (v:=.tuple #[Sto.V y7 none 0,.bool false]) (by simp [results,results68,go_sem,Q,Sto.V,y7]) rfl ⟨none,0,rfl,⟨rfl,.inl ⟨rfl,rfl⟩⟩,u⟩
 |true=>
 go_wp2_with fail;refine(W.out _).mono ?_;rintro e w2 ⟨rfl,B⟩;have z2:=B.size;have a9:=a5.below B oo;have a':=a6.below B oo;have M:=L.below B oo;have Z:=g1.trans (B.mono oo);have c6:=a9.cell;have c7:=a'.cell;have c8:=M.cell;have c9:=M.free;clear a5 a6 L c2 c3 c4 c5 B g1 W
 cases ov with
 |false=>
  have a:=r.out (.inr (.inl rfl));subst a;clear r H E;go_wp2;have Q:=(tX M).cell;have u:=yx Z (b:=w.heap.size+1+1) oo y7 none 0;exact bodyPost_ret (v:=.tuple #[Sto.V y7 none 0,.bool false]) (by simp [results,results68,go_sem,Q,Sto.V,y7]) rfl ⟨none,0,rfl,⟨rfl,.inl ⟨rfl,rfl⟩⟩,u⟩
 |true=>
 go_wp2_with fail;refine(E.out (by first|exact rfl|exact trivial) (by first|exact rfl|exact trivial) _ Z).mono ?_;rintro e N ⟨c,g,rfl,O,b3⟩;have z3:=b3.size;have O:=zI (B':=w.heap.size+3) O oo;have b0:=M.below b3 oo;have g3:=Z.trans (b3.mono oo);clear a9 a' M c6 c7 c8 c9 b3 Z E;obtain⟨i,j,n,p,P⟩:=T;simp only at O;have a1:=b0.alloc (.cells #[(i:Int),j,n,p,.slice c P.length g] 29);have o4:=World.ownsRow.alloc O (.cells #[(i:Int),j,n,p,.slice c P.length g] 29);have g4:=g3.alloc oo (.cells #[(i:Int),j,n,p,.slice c P.length g] 29);have d0:Bk (N.alloc (.cells #[(i:Int),j,n,p,.slice c P.length g] 29)) N.heap.size 29 #[(i:Int),j,n,p,.slice c P.length g]:=Bk.new N #[(i:Int),j,n,p,.slice c P.length g] 29;have e1:=a1.cell;have e2:=a1.free;have e3:=d0.cell;go_upto_region 4 with(fail)
 clear b0 O g3;generalize(N.alloc (.cells #[(i:Int),j,n,p,.slice c P.length g] 29))=w4 at*;generalize N.heap.size=e5 at*
 cases tb with
 |false=>
  have a:=r.out (.inr (.inr rfl));subst a;clear r H;go_wp2;have Q:=(tX a1).cell;have u:=yx g4 (b:=w.heap.size+1+1) oo y7 none 0;exact bodyPost_ret (v:=.tuple #[Sto.V y7 none 0,.bool false]) (by simp [results,results68,go_sem,Q,Sto.V,y7]) rfl ⟨none,0,rfl,⟨rfl,.inl ⟨rfl,rfl⟩⟩,u⟩
 |true=>
  have a:=H.out (by first|exact rfl|exact trivial) (by first|exact rfl|exact trivial) (by first|exact rfl|exact trivial);subst a;clear r H;go_wp2;have Q:=(wJ a1 ⟨i,j,n,p,P⟩ c g).cell;have o9:=zI (B':=w.heap.size) (nJ o4 (b:=w.heap.size+1+1) oo ⟨i,j,n,p,P⟩ c g) oo;have u:=yx g4 (b:=w.heap.size+1+1) oo ⟨i,j,n,p,P⟩ c g;exact bodyPost_ret (v:=.tuple #[Sto.V ⟨i,j,n,p,P⟩ c g,.bool true]) (by simp [results,results68,go_sem,Q]) rfl ⟨c,g,rfl,o9,u⟩
theorem Vq (S:Sto)(x:OpR)(A:Option Addr)(cap:Nat)(w:World)(b:Sl w A S.fs.length cap 2 (yz S.fs))(a:StB S)(c:OpB x):
 Calls prog 68 #[S.V A cap,x.val] w (StO ((aoO S x).getD y7) (aoO S x).isSome w):=
 Rk S x A cap w b ⟨a.1,by have:=a.2.1;omega,a.2.2⟩ (by obtain⟨_,_,_,_,_,_,h,h2,_,_⟩:=c;exact⟨h2,h⟩)
def StI (T:Sto)(n:Int)(b:Bool)(w:World)(e:Ending)(w':World):Prop:=∃A cap,e= .returned (.tuple #[T.V A cap,n,.bool b])∧w'.ownsRow w.heap.size 60 2 (.slice A T.fs.length cap) T.fs.length (yz T.fs)∧Below w.heap.size w w'
def Qb (r:Option (Sto×Int)):World→Ending→World→Prop:=StI ((r.map (·.1)).getD y7) ((r.map (·.2)).getD 0) r.isSome
theorem uG (o l m:Int)(dict log:Bs)(w:World)(hd:dict.length≤1500000)(h7:log.length≤1500000):
 Calls prog 9 #[.agg #[(o:Int),l,m],sv dict,sv log] w (Qb (wU o l m dict log) w):=by
 obtain⟨R,hR⟩:∃R,wU o l m dict log=R:=⟨_,rfl⟩;rw[hR];have U:=hid hR;clear hR;unfold Qb StI;go_enter func9,ntmps9;have hA:Bk ((w.alloc (.cells #[(o:Int),l,m] 24)).alloc (.cells yR 29)) w.heap.size 24 #[(o:Int),l,m]:=tBk;have hB:Bk ((w.alloc (.cells #[(o:Int),l,m] 24)).alloc (.cells yR 29)) (w.heap.size+1) 29 yR:=tBk;have g0:Below w.heap.size w ((w.alloc (.cells #[(o:Int),l,m] 24)).alloc (.cells yR 29)):=zy;go_upto_region 1 with(fail)
 generalize(w.alloc (.cells #[(o:Int),l,m] 24)).alloc (.cells yR 29)=w0 at*;have z0:=g0.size;have la:=hA.lt;have lb:=hB.lt;have f0:=hA.cell;go_wp2_with fail;refine(Zh o l m dict _ oo).mono ?_;rintro e w1 ⟨rfl,b1⟩;have z1:=b1.size;have c3:=hB.below b1 lb;have g1:=g0.trans (b1.mono oo);clear hA hB f0 b1 g0;unfold rq;by_cases L:fits o l m dict
 case neg=>
  rw[if_neg L];have hN:R=none:=(by rw[←U.out];unfold wU;rw[if_neg (fun h=>L h.1)]);subst hN;clear U L;have F:=c3.alloc (.cells yR 29);have g2:=g1.alloc oo (.cells yR 29);have f1:=F.cell;have f2:=F.free;unfold Go.Proofs.YtoedhpcmgondjaaGreatDoor.stZ;go_wp2;have Q:=(tX F).cell;have N:=yx g2 (b:=w.heap.size+1) oo y7 none 0;exact bodyPost_ret (v:=.tuple #[Sto.V y7 none 0,.int .i64 0,.bool false]) (by simp [results,results9,go_sem,Q,Sto.V,y7]) rfl ⟨none,0,rfl,⟨rfl,.inl ⟨rfl,rfl⟩⟩,N⟩
 case pos=>
  rw[if_pos L];unfold stV;have F:=c3.alloc (.cells #[(o:Int),l,m,dict,.slice none 0 0] 29);have g2:=g1.alloc oo (.cells #[(o:Int),l,m,dict,.slice none 0 0] 29);have c5:Bk (w1.alloc (.cells #[(o:Int),l,m,dict,.slice none 0 0] 29)) w1.heap.size 29 #[(o:Int),l,m,dict,.slice none 0 0]:=Bk.new w1 #[(o:Int),l,m,dict,.slice none 0 0] 29;by_cases d4:log.length≤30000
  case neg=>
   have f3:(30000:Int)<log.length:=oo;have hN:R=none:=(by rw[←U.out];unfold wU;rw[if_neg (fun h=>d4 h.2)]);subst hN;clear U L;have f1:=F.cell;have f2:=F.free;go_wp2;have Q:=(tX F).cell;have N:=yx g2 (b:=w.heap.size+1) oo y7 none 0;exact bodyPost_ret (v:=.tuple #[Sto.V y7 none 0,.int .i64 0,.bool false]) (by simp [results,results9,go_sem,Q,Sto.V,y7]) rfl ⟨none,0,rfl,⟨rfl,.inl ⟨rfl,rfl⟩⟩,N⟩
  case pos=>
   have f3:¬(30000:Int)<log.length:=oo;obtain⟨T,hT⟩:∃T,ug (log.length+1) (kz o l m dict) log 0=T:=⟨_,rfl⟩;have hN:R=some T:=(by rw[←U.out];unfold wU;rw[if_pos ⟨L,d4⟩,hT]);subst hN;have HT:=hid hT;have HF:=hid L;clear U hT L;go_upto_region 4 with(fail)
   generalize w1.alloc (.cells #[(o:Int),l,m,dict,.slice none 0 0] 29)=w2 at*;have z2:=c5.lt;generalize w1.heap.size=q at*;obtain⟨T,tn⟩:=T;go_wp2;go_loopw [11] (fun a wr=>∃(n k:Nat) (S:Sto) (A:Option Addr) (cap:Nat),a= .int .i64 (k:Int)∧k≤log.length∧log.length<k+n∧Hid (ug n S log (k:Int)=(T,tn))∧Hid (S.ok)∧wr.ownsRow (q+1) 60 2 (.slice A S.fs.length cap) S.fs.length (yz S.fs)∧Bk wr (w.heap.size+1) 29 yR∧Bk wr q 29 (S.C A cap)∧Below w.heap.size w wr) (fun i _=>log.length - (intOf i).toNat)
   case atStart=>exact⟨log.length+1,0,kz o l m dict,none,0,rfl,oo,oo,HT,Zx HF.out,⟨rfl,.inl ⟨rfl,rfl⟩⟩,F,c5,g2⟩
   case round=>
    obtain⟨n,k,S,A,cap,rfl,hk,hn,HG,HS,ow,b3,a4,g⟩:=hrel;clear F c5 g2 c3 g1;have hz:=g.size;have lq:=a4.lt;have f7:=b3.lt;have c8:=Sl.own ow;have f8:=HS.out.bd;have i5:S.fs.length≤6:=HS.out.2.1;have i6:=c8.1;have i7:=c8.2.1;have c9:Hid (∀(x:OpR) (M:x.ok) (B:Nat) (w':World),Below B wr w'→wr.heap.size≤B→Calls prog 30 #[S.V A cap,x.val] w' (StO (apT S x).1 (apT S x).2 w')):=fun x M B w' h hB=>aO S x A cap w' (c8.below (h.mono hB)) f8 M.bd;have c':Hid (∀x e,zZ log (k:Int)=some (x,e)→∃j:Nat,e=(j:Int)∧x.ok∧k<j∧j≤log.length):=fun x e h=>by
     obtain⟨E,i8,M,he,f9,_⟩:=uA h;have:=(pJ x).1;exact⟨E+(wL x).length,oo,M,oo,f9⟩
    obtain⟨c,d,f,r,fs⟩:=S;simp only at*;have d6:=a4.cell;go_wp2_with fail;refine(Zt log (k:Int) wr oo oo oo).mono ?_;rintro e W ⟨rfl,O⟩;have z3:=O.size;have X:=b3.below O f7;have a5:=a4.below O lq;have o3:=zf ow O;have g3:=g.trans (O.mono oo);have d7:=X.cell;have d8:=X.free;have d9:=a5.cell
    cases hr:zZ log (k:Int) with
    |none=>
     have hG:=HG.out;rw[mJ hr] at hG;injection hG with hG1 hG2
     subst hG1 hG2;rw[show qC none= .returned (.tuple #[.agg #[.int .i64 0,.string ⟨#[]⟩,.int .i64 0,.int .i64 0,.int .i64 0,.string ⟨#[]⟩],.int .i64 0,.bool false]) from rfl];have Y:=X.alloc (.cells #[.int .i64 0,.string ⟨#[]⟩,.int .i64 0,.int .i64 0,.int .i64 0,.string ⟨#[]⟩] 42);have a7:=a5.alloc (.cells #[.int .i64 0,.string ⟨#[]⟩,.int .i64 0,.int .i64 0,.int .i64 0,.string ⟨#[]⟩] 42);have o4:=World.ownsRow.alloc o3 (.cells #[.int .i64 0,.string ⟨#[]⟩,.int .i64 0,.int .i64 0,.int .i64 0,.string ⟨#[]⟩] 42);have g4:=g3.alloc oo (.cells #[.int .i64 0,.string ⟨#[]⟩,.int .i64 0,.int .i64 0,.int .i64 0,.string ⟨#[]⟩] 42);have i':=Y.cell;have j0:=Y.free;have d':=a7.cell;clear X a5 o3 g3 d7 d8 d9 d6 b3 a4 g ow c9 c' hr;go_upto_region 6 with(fail)
     generalize W.alloc (.cells #[.int .i64 0,.string ⟨#[]⟩,.int .i64 0,.int .i64 0,.int .i64 0,.string ⟨#[]⟩] 42)=w4 at*;go_wp2;have Q:=(wJ Y ⟨c,d,f,r,fs⟩ A cap).cell;have o9:=zI (B':=w.heap.size) (nJ o4 (b:=w.heap.size+1) oo ⟨c,d,f,r,fs⟩ A cap) oo;have N:=yx g4 (b:=w.heap.size+1) oo ⟨c,d,f,r,fs⟩ A cap;exact bodyPost_ret (v:=.tuple #[Sto.V ⟨c,d,f,r,fs⟩ A cap,(k:Int),.bool true]) (by simp [results,results9,go_sem,Q]) rfl ⟨A,cap,rfl,o9,N⟩
    |some p=>
     obtain⟨x,e⟩:=p;obtain⟨j,rfl,M,j1,g7⟩:=c'.out x e hr;rw[iR];have cX:=hid (c9.out x M wr.heap.size);have b8:Hid ((apT ⟨c,d,f,r,fs⟩ x).2=true→(apT ⟨c,d,f,r,fs⟩ x).1.ok∧∀E,ug (E+1) ⟨c,d,f,r,fs⟩ log (k:Int)=ug E (apT ⟨c,d,f,r,fs⟩ x).1 log (j:Int)):=fun h=>by
      cases ha:apO ⟨c,d,f,r,fs⟩ x with
      |none=>rw[UZ ha] at h;cases h
      |some g8=>rw[fF ha];exact⟨(dC HS.out M ha).ok,fun E=>ji hr ha⟩
     have b9:Hid ((apT ⟨c,d,f,r,fs⟩ x).2=false→ug n ⟨c,d,f,r,fs⟩ log (k:Int)=(⟨c,d,f,r,fs⟩,(k:Int))):=fun h=>by
      cases ha:apO ⟨c,d,f,r,fs⟩ x with
      |none=>exact mP hr ha
      |some g8=>rw[fF ha] at h;cases h
     generalize apT ⟨c,d,f,r,fs⟩ x=g9 at*;clear M hr c9 c';obtain⟨⟨s,t,u,y,P⟩,tb⟩:=g9;simp only at cX b8 b9;obtain⟨G,H,I,xs,J,K⟩:=x;have Y:=X.alloc (.cells #[(G:Int),J,H,I,xs,K] 42);have a7:=a5.alloc (.cells #[(G:Int),J,H,I,xs,K] 42);have o4:=World.ownsRow.alloc o3 (.cells #[(G:Int),J,H,I,xs,K] 42);have g4:=g3.alloc oo (.cells #[(G:Int),J,H,I,xs,K] 42);have b4:=O.alloc z3 (.cells #[(G:Int),J,H,I,xs,K] 42);have d2:Bk (W.alloc (.cells #[(G:Int),J,H,I,xs,K] 42)) W.heap.size 42 #[(G:Int),J,H,I,xs,K]:=Bk.new W #[(G:Int),J,H,I,xs,K] 42;have z4:=d2.lt;have h0:=d2.cell;have d':=a7.cell;clear X a5 o3 g3 d7 d8 d9 d6 b3 a4 g ow O;go_upto_region 8 with(fail)
     generalize W.alloc (.cells #[(G:Int),J,H,I,xs,K] 42)=w4 at*;generalize W.heap.size=q4 at*;go_wp2_with fail;refine(cX.out w4 b4 (Nat.le_refl _)).mono ?_;rintro e w5 ⟨z,D,rfl,o5,Z⟩;have z5:=Z.size;have e2:=Y.below Z oo;have e3:=a7.below Z oo;have o5:=zI (B':=q+1) o5 oo;have e4:=zf o4 Z;have g5:=g4.trans (Z.mono oo);clear Y a7 o4 g4 b4 d2 h0 d' cX Z;simp only at o5;have b':=e2.alloc (.cells #[(s:Int),t,u,y,.slice z P.length D] 29);have d3:=e3.alloc (.cells #[(s:Int),t,u,y,.slice z P.length D] 29);have o6:=World.ownsRow.alloc o5 (.cells #[(s:Int),t,u,y,.slice z P.length D] 29);have h2:=World.ownsRow.alloc e4 (.cells #[(s:Int),t,u,y,.slice z P.length D] 29);have g6:=g5.alloc oo (.cells #[(s:Int),t,u,y,.slice z P.length D] 29);have e7:Bk (w5.alloc (.cells #[(s:Int),t,u,y,.slice z P.length D] 29)) w5.heap.size 29 #[(s:Int),t,u,y,.slice z P.length D]:=Bk.new w5 #[(s:Int),t,u,y,.slice z P.length D] 29;have h3:=e7.cell;have j5:=d3.cell;have j6:=d3.free;have j7:=b'.cell;have j8:=b'.free;clear e2 e3 g5 o5 e4;go_upto_region 9 with(fail)
     generalize w5.alloc (.cells #[(s:Int),t,u,y,.slice z P.length D] 29)=w6 at*;generalize w5.heap.size=q6 at*
     cases tb with
     |false=>
      have hG:=HG.out;rw[b9.out rfl] at hG;injection hG with hG1 hG2
      subst hG1 hG2;clear b8 b9 h3 e7;go_wp2;have Q:=(wJ b' ⟨c,d,f,r,fs⟩ A cap).cell;have o9:=zI (B':=w.heap.size) (nJ h2 (b:=w.heap.size+1) oo ⟨c,d,f,r,fs⟩ A cap) oo;have N:=yx g6 (b:=w.heap.size+1) oo ⟨c,d,f,r,fs⟩ A cap;exact bodyPost_ret (v:=.tuple #[Sto.V ⟨c,d,f,r,fs⟩ A cap,(k:Int),.bool true]) (by simp [results,results9,go_sem,Q]) rfl ⟨A,cap,rfl,o9,N⟩
     |true=>
      obtain⟨e8,e9⟩:=b8.out rfl;obtain⟨E,rfl⟩:∃E,n=E+1:=⟨n - 1,oo⟩;have h4:Hid (ug E ⟨s,t,u,y,P⟩ log (j:Int)=(T,tn)):=(e9 E).symm.trans HG.out;have HU:=hid e8;clear b8 b9 e8 e9 HG;go_wp2;go_roundw
      case rel=>exact⟨E,j,⟨s,t,u,y,P⟩,z,D,rfl,g7,oo,h4,HU,nJ o6 (b:=q) oo ⟨s,t,u,y,P⟩ z D,VU b' (b:=q) oo ⟨s,t,u,y,P⟩ z D,wJ d3 ⟨s,t,u,y,P⟩ z D,yx g6 (b:=q) oo ⟨s,t,u,y,P⟩ z D⟩
      case measure=>simp [intOf];omega
theorem Yv (o l m:Int)(dict log:Bs)(x:OpR)(w:World)(hd:dict.length≤1500000)(c4:log.length≤1500000)(e4:x.nm.length≤1500000)(e5:x.d.length≤1500000):
 Calls prog 38 #[.agg #[(o:Int),l,m],sv dict,sv log,x.val] w (rS w (yA (apL o l m dict log x))):=by
 obtain⟨G,hG⟩:∃G,apL o l m dict log x=G:=⟨_,rfl⟩;rw[hG];obtain⟨R,D⟩:∃R,wU o l m dict log=R:=⟨_,rfl⟩;have N:=fun w=>uG o l m dict log w hd c4;rw[D] at N;have O:=fun w=>Yh x.k x.f x.t x.s x.nm x.d w oo oo;have Q:Hid (∀T n,R=some (T,n)→T.ok∧0≤n∧n≤30000):=fun T n h=>by
  rw[h] at D;obtain⟨b,xs,rfl,hF⟩:=nV D;have h1:=hF.le;have h2:=hF.short;exact⟨hF.ok.1,oo,oo⟩
 have J:Hid (∀(T:Sto) A cap w,T.ok→x.ok→Sl w A T.fs.length cap 2 (yz T.fs)→Calls prog 68 #[T.V A cap,x.val] w (StO ((apO T x).getD y7) (apO T x).isSome w)):=fun T A cap w h1 h2 F=>by
  rw[←Qa h1 h2];exact Vq T x A cap w F h1.bd h2.bd
 have S:Hid (R.bind (fun p=>if p.2=(log.length:Int)∧x.ok∧log.length+(wL x).length≤30000∧(apO p.1 x).isSome=true then some (log++wL x) else none)=G):=(by rw[←hG,←D];rfl);have b3:Hid ((wL x).length≤9004):=(pJ x).2;clear D hG;obtain⟨T,K,U,h1,h2,F⟩:∃T K U,(R.map (·.1)).getD y7=T∧(R.map (·.2)).getD 0=K∧R.isSome=U:=⟨_,_,_,rfl,rfl,rfl⟩;unfold Qb at N;rw[h1,h2,F] at N;have HN:Hid (U=false→R=none):=fun h=>(by rw[h] at F;cases R with|none=>rfl|some _=>cases F);have HS:Hid (U=true→R=some (T,K)):=fun h=>by
  rw[h] at F
  cases R with
  |none=>cases F
  |some p=>rw[←h1,←h2];rfl
 clear h1 h2 F;obtain⟨u,y,z,B,P⟩:=T;obtain⟨c,g,i,xs,j,q⟩:=x;obtain⟨C,hC⟩:∃C,wL ⟨c,g,i,xs,j,q⟩=C:=⟨_,rfl⟩;rw[hC] at S b3;have b5:uK (wu c j g i xs q)=C:=hC;unfold VS at O;simp only at O;rw[b5] at O;clear hC b5;go_enter func38,ntmps38;have hA:Bk ((w.alloc (.cells #[(o:Int),l,m] 24)).alloc (.cells #[(c:Int),j,g,i,xs,q] 42)) w.heap.size 24 #[(o:Int),l,m]:=tBk;have hO:Bk ((w.alloc (.cells #[(o:Int),l,m] 24)).alloc (.cells #[(c:Int),j,g,i,xs,q] 42)) (w.heap.size+1) 42 #[(c:Int),j,g,i,xs,q]:=tBk;have g0:Below w.heap.size w ((w.alloc (.cells #[(o:Int),l,m] 24)).alloc (.cells #[(c:Int),j,g,i,xs,q] 42)):=zy;go_upto_region 1 with(fail)
 generalize(w.alloc (.cells #[(o:Int),l,m] 24)).alloc (.cells #[(c:Int),j,g,i,xs,q] 42)=w0 at*;have z0:=g0.size;have la:=hA.lt;have lo:=hO.lt;have c6:=hA.cell;go_wp2_with fail;refine(N _).mono ?_;rintro e W ⟨H,I,rfl,X,Y⟩;have z1:=Y.size;have b6:=hO.below Y lo;have X:=zI (B':=w.heap.size+2) X oo;have g1:=g0.trans (Y.mono oo);simp only at X;clear hA hO c6 Y g0 N;have Z:=b6.alloc (.cells #[(u:Int),y,z,B,.slice H P.length I] 29);have a':Bk (W.alloc (.cells #[(u:Int),y,z,B,.slice H P.length I] 29)) W.heap.size 29 #[(u:Int),y,z,B,.slice H P.length I]:=Bk.new W #[(u:Int),y,z,B,.slice H P.length I] 29;have o2:=World.ownsRow.alloc X (.cells #[(u:Int),y,z,B,.slice H P.length I] 29);have g2:=g1.alloc oo (.cells #[(u:Int),y,z,B,.slice H P.length I] 29);have c7:=Z.cell;go_upto_region 2 with(fail)
 clear b6 X g1;generalize W.alloc (.cells #[(u:Int),y,z,B,.slice H P.length I] 29)=w2 at*;have l2:=a'.lt;have c9:=Z.lt;generalize W.heap.size=f0 at*;go_wp2_with fail;refine(O _).mono ?_;rintro e w3 ⟨rfl,L⟩;have z3:=L.size;have d0:=Z.below L c9;have d1:=a'.below L l2;have o3:=zf o2 L;have M:=g2.trans (L.mono oo);clear Z a' o2 g2 c7 L O
 cases U with
 |false=>
  have D:=HN.out rfl;subst D;have r:G=none:=S.out.symm;subst r;clear S HN HS Q J;by_cases a:rM c j g i xs q
  ·rw[if_pos a]
   clear a;go_wp2;exact bodyPost_ret (v:=.tuple #[sv [],.bool false]) (by simp [results,results38,go_sem]) rfl ⟨rfl,M⟩
  ·rw[if_neg a]
   clear a;go_wp2;exact bodyPost_ret (v:=.tuple #[sv [],.bool false]) (by simp [results,results38,go_sem]) rfl ⟨rfl,M⟩
 |true=>
 have D:=HS.out rfl;subst D;obtain⟨b',f2,f3⟩:=Q.out _ _ rfl;have E:Hid ((if K=(log.length:Int)∧rM c j g i xs q∧log.length+C.length≤30000∧(apO ⟨u,y,z,B,P⟩ ⟨c,g,i,xs,j,q⟩).isSome=true then some (log++C) else none)=G):=S.out;have a0:=hid b';have f4:=b3.out;clear S HN HS Q b';by_cases a:rM c j g i xs q
 case neg=>
  rw[if_neg a];have r:G=none:=(by rw[←E.out,if_neg (fun h=>a h.2.1)]);subst r;clear E a J a0;go_wp2;exact bodyPost_ret (v:=.tuple #[sv [],.bool false]) (by simp [results,results38,go_sem]) rfl ⟨rfl,M⟩
 case pos=>
  rw[if_pos a];by_cases hn:K=(log.length:Int)
  case neg=>
   have r:G=none:=(by rw[←E.out,if_neg (fun h=>hn h.1)]);subst r;have f5:(K != (log.length:Int))=true:=(by simpa using hn);clear E a J a0;go_wp2;exact bodyPost_ret (v:=.tuple #[sv [],.bool false]) (by simp [results,results38,go_sem]) rfl ⟨rfl,M⟩
  case pos=>
   subst hn;by_cases c0:log.length+C.length≤30000
   case neg=>
    have r:G=none:=(by rw[←E.out,if_neg (fun h=>c0 h.2.2.1)]);subst r;have d3:(30000:Int)<(log.length:Int)+C.length:=oo;clear E a J a0;go_wp2;exact bodyPost_ret (v:=.tuple #[sv [],.bool false]) (by simp [results,results38,go_sem]) rfl ⟨rfl,M⟩
   case pos=>
    have d3:¬(30000:Int)<(log.length:Int)+C.length:=oo;have CA:=hid (J.out ⟨u,y,z,B,P⟩ H I w3 a0.out a (Sl.own o3));obtain⟨a1,hW⟩:∃a1,apO ⟨u,y,z,B,P⟩ ⟨c,g,i,xs,j,q⟩=a1:=⟨_,rfl⟩;rw[hW] at CA E;have Q:=hid a;clear hW J a;have d4:=d0.cell;have d5:=d1.cell;go_wp2_with fail;refine(CA.out).mono ?_;rintro e w4 ⟨A4,d7,rfl,o4,b4⟩;have g4:=M.trans (b4.mono oo);have z4:=b4.size;clear CA d4 d5 b4 o4;generalize a1.getD y7=V;obtain⟨Vo,Vl,Vm,Vd,e3⟩:=V;have g5:=g4.alloc oo (.cells #[Vo,Vl,Vm,Vd,.slice A4 e3.length d7] 29)
    cases a1 with
    |none=>
     have r:G=none:=(by rw[←E.out,if_neg (fun h=>by cases h.2.2.2)]);subst r;simp only[Option.isSome_none];go_wp2;exact bodyPost_ret (v:=.tuple #[sv [],.bool false]) (by simp [results,results38,go_sem]) rfl ⟨rfl,g5⟩
    |some f8=>
     have r:G=some (log++C):=(by rw[←E.out,if_pos ⟨by first|exact rfl|exact trivial,Q.out,c0,by first|exact rfl|exact trivial⟩]);subst r;simp only[Option.isSome_some];go_wp2;exact bodyPost_ret (v:=.tuple #[sv (log++C),.bool true]) (by simp [results,results38,go_sem]) rfl ⟨rfl,g5⟩
