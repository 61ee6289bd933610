import Derived.Test.YtoedhpcmgondjaaGreatDoorYJ26
import Derived.Test.YtoedhpcmgondjaaGreatDoorYS23
set_option linter.all false
set_option maxHeartbeats 8000000
namespace Go.Proofs.YtoedhpcmgondjaaGreatDoor
open Go.Lib(hid)
open Go.RowKit Go.Proofs.Tryz
set_option maxRecDepth 100000
attribute [local instance] mU hZ cvZ
attribute [local go_sem high] zG zF zH zV zN yu zD zl zn zt zi zu y9 zK yE zJ
theorem bU (d:List Blk):∀u ∈ zY d,u.oneCell'=true:=by
 intro u a;unfold zY at a;obtain⟨b,_,c⟩:=List.mem_flatMap.1 a;simp only[bkL,List.mem_cons,List.not_mem_nil,or_false] at c;rcases c with rfl|rfl|rfl|rfl<;>rfl
def UQ (K:Kn)(a:List Blk)(w:World)(e:Ending)(w':World):Prop:=∃b c d f,e= .returned (.tuple #[knV K b c,.slice d a.length f,.bool true])∧w'.ownsRow w.heap.size 173 2 (.slice b K.ps.length c) K.ps.length (psV K.ps)∧w'.ownsRow w.heap.size 122 4 (.slice d a.length f) a.length (zY a)∧Below w.heap.size w w'
theorem nD (o l m:Int)(dict t:Bs)(j:List Blk)(w:World)(s:fits o l m dict)(u:zX t=some j)(E:t.length≤1500000):
 Calls prog 107 #[.agg #[(o:Int),l,m],sv dict,sv t] w (UQ (zA o l m dict) j w):=by
 have k:=fun w=>sW o l m dict w s;have f:=fun w=>uY t w E;unfold lM at f;rw[u] at f;simp only[Option.elim_some,Option.isSome_some,Option.getD_some] at f;unfold l7 at k;unfold UQ;clear s u;generalize zA o l m dict=K at*;go_enter func107,ntmps107;have F:Bk ((w.alloc (.cells #[(o:Int),l,m] 24)).alloc (.cells knZ 94)) w.heap.size 24 #[(o:Int),l,m]:=tBk;have n:Bk ((w.alloc (.cells #[(o:Int),l,m] 24)).alloc (.cells knZ 94)) (w.heap.size+1) 94 knZ:=tBk;have x:Below w.heap.size w ((w.alloc (.cells #[(o:Int),l,m] 24)).alloc (.cells knZ 94)):=zy;go_wp2_with fail;generalize(w.alloc (.cells #[(o:Int),l,m] 24)).alloc (.cells knZ 94)=Q at*;refine(k _).mono ?_;rintro e y ⟨a,c,rfl,z,g⟩;have R:=n.lt;have S:=g.size;have A:=x.trans (g.mono oo);have B:=n.below g oo;have p:=B.alloc (.cells (knC K a c) 94);have h:=Bk.new y (knC K a c) 94;have q:=z.alloc (.cells (knC K a c) 94);have i:=A.alloc oo (.cells (knC K a c) 94);clear g n F x z A B k;go_upto_region 4 with(fail)
 unfold knC at h q i p;generalize y.alloc (.cells #[K.o,K.l,K.m,.slice a K.ps.length c,K.base,K.last] 94)=W at*;have G:=h.lt;have T:=i.size;go_wp2_with fail;refine(f _).mono ?_;rintro e U ⟨C,D,rfl,H,d⟩;have V:=d.size;have I:=i.trans (d.mono oo);have r:=p.below d oo;have J:=h.below d G;have L:=zf q d;have X:=J.cell;have Y:=r.free;have Z:=r.cell;clear d p h q i f;go_wp2;have M:=(vw r K a c).cell;have N:=yC I (b:=w.heap.size+1) oo K a c;have O:=zI (B':=w.heap.size) (yI L (b:=w.heap.size+1) oo K a c) oo;have P:=zI (B':=w.heap.size) (yI H (b:=w.heap.size+1) oo K a c) oo;exact bodyPost_ret (v:=.tuple #[knV K a c,.slice C j.length D,.bool true]) (by simp [results,results107,go_sem,M]) rfl ⟨a,c,C,D,rfl,O,P,N⟩
theorem lL (o l m:Int)(dict t:Bs)(w:World)(h:¬(fits o l m dict∧(zX t).isSome=true))(C:dict.length≤9223372036854775807)(D:t.length≤1500000):
 Calls prog 107 #[.agg #[(o:Int),l,m],sv dict,sv t] w (rT w (.tuple #[Zu,.slice none 0 0,.bool false])):=by
 by_cases i:fits o l m dict
 ·have B:zX t=none:=by
   cases hb:zX t with
   |none=>rfl
   |some N=>exact absurd ⟨i,by rw[hb];rfl⟩ h
  have f:=fun w=>sW o l m dict w i;have j:=fun w=>uY t w D;unfold lM at j;rw[B] at j;simp only[Option.elim_none,Option.isSome_none,Option.getD_none] at j;unfold l7 at f;clear i B h;generalize zA o l m dict=K at*;go_enter func107,ntmps107;have u:Bk ((w.alloc (.cells #[(o:Int),l,m] 24)).alloc (.cells knZ 94)) w.heap.size 24 #[(o:Int),l,m]:=tBk;have d:Bk ((w.alloc (.cells #[(o:Int),l,m] 24)).alloc (.cells knZ 94)) (w.heap.size+1) 94 knZ:=tBk;have k:Below w.heap.size w ((w.alloc (.cells #[(o:Int),l,m] 24)).alloc (.cells knZ 94)):=zy;go_wp2_with fail;generalize(w.alloc (.cells #[(o:Int),l,m] 24)).alloc (.cells knZ 94)=E at*;refine(f _).mono ?_;rintro e x ⟨y,z,rfl,F,a⟩;have G:=d.lt;have H:=a.size;have n:=k.trans (a.mono oo);have p:=d.below a oo;have c:=p.alloc (.cells (knC K y z) 94);have g:=n.alloc oo (.cells (knC K y z) 94);clear a d u k F n p f;go_upto_region 4 with(fail)
  unfold knC at g c;generalize x.alloc (.cells #[K.o,K.l,K.m,.slice y K.ps.length z,K.base,K.last] 94)=W at*;have O:=c.lt;have P:=g.size;go_wp2_with fail;refine(j _).mono ?_;rintro e Q ⟨R,S,rfl,I,s⟩;have T:=s.size;have J:=g.trans (s.mono oo);have A:=c.below s oo;have L:=A.free;have M:=A.cell;clear s c I g j;go_wp2;have q:=(vw A ⟨0,0,0,[],0,0⟩ none 0).cell;have r:=yC J (b:=w.heap.size+1) oo ⟨0,0,0,[],0,0⟩ none 0;simp only[List.length_nil] at q r;exact bodyPost_ret (v:=.tuple #[Zu,.slice none 0 0,.bool false]) (by simp [results,results107,go_sem,q]) rfl ⟨rfl,r⟩
 ·have f:=fun w=>ng o l m dict w i C
  clear i h;go_enter func107,ntmps107;have u:Bk ((w.alloc (.cells #[(o:Int),l,m] 24)).alloc (.cells knZ 94)) w.heap.size 24 #[(o:Int),l,m]:=tBk;have d:Bk ((w.alloc (.cells #[(o:Int),l,m] 24)).alloc (.cells knZ 94)) (w.heap.size+1) 94 knZ:=tBk;have k:Below w.heap.size w ((w.alloc (.cells #[(o:Int),l,m] 24)).alloc (.cells knZ 94)):=zy;go_wp2_with fail;generalize(w.alloc (.cells #[(o:Int),l,m] 24)).alloc (.cells knZ 94)=E at*;refine(f _).mono ?_;rintro e x ⟨rfl,a⟩;have G:=d.lt;have H:=a.size;have n:=k.trans (a.mono oo);have p:=d.below a oo;have c:=p.alloc (.cells knZ 94);have g:=n.alloc oo (.cells knZ 94);clear a d u k n p f;go_upto_region 3 with(fail)
  generalize x.alloc (.cells _ 94)=W at*;have L:=c.free;have M:=c.cell;go_wp2;have q:=(vw c ⟨0,0,0,[],0,0⟩ none 0).cell;have r:=yC g (b:=w.heap.size+1) oo ⟨0,0,0,[],0,0⟩ none 0;simp only[List.length_nil] at q r;exact bodyPost_ret (v:=.tuple #[Zu,.slice none 0 0,.bool false]) (by simp [results,results107,go_sem,q]) rfl ⟨rfl,r⟩
def NwR (O:Option (List Blk))(w:World)(e:Ending)(w':World):Prop:=∃A cap,e= .returned (.tuple #[.slice A (O.getD []).length cap,.bool O.isSome])∧w'.ownsRow w.heap.size 122 4 (.slice A (O.getD []).length cap) (O.getD []).length (zY (O.getD []))∧Below w.heap.size w w'
theorem jX (K:Kn)(A:Option Addr)(cap:Nat)(d:Bs)(size:Int)(w:World)(hk:K.ok)(o:Sl w A K.ps.length cap 2 (psV K.ps))(F:d.length≤9223372036854775807)(G: -1000000≤size)(H:size≤1000000):
 Calls prog 108 #[knV K A cap,sv d,size] w (NwR (nwO K d size) w):=by
 have c:Hid (¬(1≤size∧size≤64∧d.length≤2000∧(d.length:Int)≤size*40)→nwO K d size=none):=fun h=>(by unfold nwO;rw[if_neg h]);have i:Hid (∀n:Nat,size=n→1≤n→n≤64→d.length≤2000→d.length≤n*40→nwO K d size=some (mks K n d.length d)):=fun n h0 I J y L=>(by unfold nwO;rw[if_pos ⟨by omega,by omega,y,by omega⟩,h0,Int.toNat_natCast]);unfold NwR;generalize nwO K d size=R at*;have j:∀b,decide (1≤size∧size≤64)=b→decide (1≤size∧size≤64)=b:=fun _ h=>h;by_cases h2:1≤size∧size≤64
 case neg=>
  have f:=c.out (fun h=>h2 ⟨h.1,h.2.1⟩);subst f;have g:=decide_eq_false h2;clear c i h2 j;go_enter func108,ntmps108;have k:Bk (w.alloc (.cells (knC K A cap) 94)) w.heap.size 94 (knC K A cap):=tBk;have a:Below w.heap.size w (w.alloc (.cells (knC K A cap) 94)):=zy;go_upto_region 1 with(fail)
  generalize w.alloc (.cells (knC K A cap) 94)=p at*;go_wp2_with fail;refine(xB _ _).mono ?_;rintro e w' ⟨rfl,rfl⟩;rw[g];go_wp2;exact bodyPost_ret (v:=.tuple #[.slice none 0 0,.bool false]) (by simp [results,results108,go_sem]) rfl ⟨none,0,rfl,⟨by simp [zY],.inl ⟨rfl,rfl⟩⟩,a⟩
 have g:=decide_eq_true h2;obtain⟨M,N⟩:=h2;obtain⟨n,rfl⟩:=Int.eq_ofNat_of_zero_le (by omega:0≤size);by_cases q:d.length≤2000∧d.length≤n*40
 case neg=>
  have f:=c.out (fun h=>q ⟨h.2.2.1,oo⟩);subst f;have l:¬(2000:Int)<d.length→(40:Int)*(n:Int)<d.length:=fun _=>(by omega);clear c i j;go_enter func108,ntmps108;have k:Bk (w.alloc (.cells (knC K A cap) 94)) w.heap.size 94 (knC K A cap):=tBk;have a:Below w.heap.size w (w.alloc (.cells (knC K A cap) 94)):=zy;go_upto_region 1 with(fail)
  generalize w.alloc (.cells (knC K A cap) 94)=p at*;by_cases r:(2000:Int)<d.length
  ·clear l
   go_wp2_with fail;refine(xB _ _).mono ?_;rintro e w' ⟨rfl,rfl⟩;rw[g];go_wp2;exact bodyPost_ret (v:=.tuple #[.slice none 0 0,.bool false]) (by simp [results,results108,go_sem]) rfl ⟨none,0,rfl,⟨by simp [zY],.inl ⟨rfl,rfl⟩⟩,a⟩
  ·have z:=l r
   clear l;go_wp2_with fail;refine(xB _ _).mono ?_;rintro e w' ⟨rfl,rfl⟩;rw[g];go_wp2;exact bodyPost_ret (v:=.tuple #[.slice none 0 0,.bool false]) (by simp [results,results108,go_sem]) rfl ⟨none,0,rfl,⟨by simp [zY],.inl ⟨rfl,rfl⟩⟩,a⟩
 obtain⟨m,s⟩:=q;have f:=i.out n rfl oo oo m s;subst f;have r:¬(2000:Int)<d.length:=oo;have z:¬(40:Int)*(n:Int)<d.length:=oo;have t:Hid (∀wr,Below w.heap.size w wr→Calls prog 106 #[knV K A cap,sv d,(n:Int)] wr (BkR (mks K n d.length d) wr)):=fun wr h=>kW K A cap d n wr hk (o.below h) oo oo m;unfold BkR at t;simp only[Option.getD_some,Option.isSome_some];clear c i j hk o m s;generalize mks K n d.length d=B at*;go_enter func108,ntmps108;have k:Bk (w.alloc (.cells (knC K A cap) 94)) w.heap.size 94 (knC K A cap):=tBk;have a:Below w.heap.size w (w.alloc (.cells (knC K A cap) 94)):=zy;go_upto_region 1 with(fail)
 generalize w.alloc (.cells (knC K A cap) 94)=p at*;have O:=k.cell;have P:=a.size;go_wp2_with fail;refine(xB _ _).mono ?_;rintro e w' ⟨rfl,rfl⟩;rw[g];go_wp2_with fail;refine(t.out _ a).mono ?_;rintro e Q ⟨u,x,rfl,C,D⟩;have E:=a.trans (D.mono oo);go_wp2;exact bodyPost_ret (v:=.tuple #[.slice u B.length x,.bool true]) (by simp [results,results108,go_sem]) rfl ⟨u,x,rfl,zI C (by omega),E⟩
theorem Zo (o l m:Int)(dict t d:Bs)(size:Int)(w:World)(Y:dict.length≤9223372036854775807)(I:t.length≤1500000)(Z:d.length≤9223372036854775807)(a0: -1000000≤size)(a1:size≤1000000):
 Calls prog 74 #[.agg #[(o:Int),l,m],sv dict,sv t,sv d,size] w (rS w (yA (apD o l m dict t d size))):=by
 obtain⟨i,hi,a3,a4,a5⟩:=info_parts wH;by_cases p:fits o l m dict∧(zX t).isSome=true
 case neg=>
  have f:=fun w=>lL o l m dict t w p Y I;have g:apD o l m dict t d size=none:=by
   unfold apD;split
   ·rename_i b
    cases hb:zX t with
    |none=>rfl
    |some a=>exact absurd ⟨b,by rw[hb];rfl⟩ p
   ·rfl
  rw[g];unfold yA;clear g p;go_enter func74,ntmps74;have c:Bk (w.alloc (.cells #[(o:Int),l,m] 24)) w.heap.size 24 #[(o:Int),l,m]:=tBk;have q:Below w.heap.size w (w.alloc (.cells #[(o:Int),l,m] 24)):=zy;go_upto_region 1 with(fail)
  generalize w.alloc (.cells #[(o:Int),l,m] 24)=J at*;have L:=c.cell;have b':=c.lt;go_wp2_with fail;refine(f _).mono ?_;rintro e y ⟨rfl,a6⟩;have r:=q.trans (a6.mono oo);have c0:=r.size;go_wp2;exact bodyPost_ret (v:=.tuple #[sv [],.bool false]) (by simp [results,results74,go_sem]) rfl ⟨rfl,zy⟩
 obtain⟨b,M⟩:=p;obtain⟨a,h⟩:=Option.isSome_iff_exists.1 M;have f:=fun w=>nD o l m dict t a w b h I;unfold UQ at f;have hk:=xN b;have g:apD o l m dict t d size=(nwO (zA o l m dict) d size).bind fun cs=>mcO (a++cs):=(by unfold apD;rw[if_pos b,h];rfl);have z:Hid (∀A cap wr,Sl wr A (zA o l m dict).ps.length cap 2 (psV (zA o l m dict).ps)→Calls prog 108 #[knV (zA o l m dict) A cap,sv d,size] wr (NwR (nwO (zA o l m dict) d size) wr)):=fun A cap wr a7=>jX _ A cap d size wr hk a7 Z a0 a1;unfold NwR at z;have N:=xU h;have c1:=(xI h).2;have O:Hid (∀cs,nwO (zA o l m dict) d size=some cs→cs.length≤40∧∀A cap wr,Sl wr A (a.length+cs.length) cap 4 (zY a++zY cs)→Calls prog 105 #[.slice A (a.length+cs.length) cap] wr (rS wr (yA (mcO (a++cs))))):=fun cs a8=>by
  have h1:=VP hk a8;refine⟨h1.2,fun A cap wr P=> ?_⟩;have B:(a++cs).length=a.length+cs.length:=(by simp);have e2:zY (a++cs)=zY a++zY cs:=(by unfold zY;rw[List.flatMap_append]);rw[←B];rw[←B,←e2] at P;exact oG (a++cs) A cap wr P (pW N h1.1) (by rw[B];omega)
 rw[g];clear g b h M hk N;generalize nwO (zA o l m dict) d size=a' at*;generalize zA o l m dict=K at*;go_enter func74,ntmps74;have c:Bk (w.alloc (.cells #[(o:Int),l,m] 24)) w.heap.size 24 #[(o:Int),l,m]:=tBk;have q:Below w.heap.size w (w.alloc (.cells #[(o:Int),l,m] 24)):=zy;go_upto_region 1 with(fail)
 generalize w.alloc (.cells #[(o:Int),l,m] 24)=J at*;have L:=c.cell;have c2:=c.lt;go_wp2_with fail;refine(f _).mono ?_;rintro e y ⟨j,n,A2,c5,rfl,Q,R,C⟩;have z1:=C.size;have r:=q.trans (C.mono oo);have s:=Bk.new y (knC K j n) 94;have D:=Q.alloc (.cells (knC K j n) 94);have E:=R.alloc (.cells (knC K j n) 94);have u:=r.alloc oo (.cells (knC K j n) 94);clear C L c q Q R r f;go_upto_region 2 with(fail)
 unfold knC at s D E u;generalize y.alloc (.cells #[K.o,K.l,K.m,.slice j K.ps.length n,K.base,K.last] 94)=c7 at*;have c8:=s.lt;have c9:=u.size;have S:=Sl.own D;have b0:=s.cell;go_wp2_with fail;refine(z.out _ _ _ S).mono ?_;rintro e w3 ⟨A3,c3,rfl,T,x⟩;have z3:=x.size;have F:=u.trans (x.mono oo);have G:=zf E x;have H:=Sl.own T;clear x b0 s u D S E T z
 cases a' with
 |none=>
  simp only[Option.isSome_none,Option.getD_none,Option.bind_none];go_wp2;exact bodyPost_ret (v:=.tuple #[sv [],.bool false]) (by simp [results,results74,go_sem]) rfl ⟨rfl,F⟩
 |some cs=>
  obtain⟨d2,U⟩:=O.out cs rfl;have CE:=hid U;simp only[Option.isSome_some,Option.getD_some,Option.bind_some] at H⊢;have b3:a.length+cs.length≤maxLen:=(by unfold maxLen;omega);have b4:(a.length+cs.length)*40≤140737488355328:=oo;have b5:∀b6 ∈ zY cs,b6.oneCell'=true:=bU cs;clear O U;go_wp2_with(at_builtin;go_must(refine zT _ rfl _ _ 97 rfl J.heap.size 122 i _ 4 40 underlying97 hi a3 a4 a5 rfl oo _ _ _ rfl G _ cs.length c3 (zY cs) rfl H b5 b3 b4 ?_ ?_))
  ·omega
  intro A6 c6 w6 V W _;have X:=F.grown W oo (fun k hk=>by have:=(G.lt k hk).1;omega);have s6:=Sl.own V;have z6:=X.size;clear G H V W F;go_wp2_with fail;refine(CE.out _ _ _ s6).mono ?_;rintro e w7 ⟨rfl,b7⟩;have g7:=X.trans (b7.mono oo);unfold yA;go_wp2;exact bodyPost_ret (v:=.tuple #[sv ((mcO (a++cs)).getD []),.bool (mcO (a++cs)).isSome]) (by simp [results,results74,go_sem]) rfl ⟨rfl,g7⟩
def Vj (O:Option (List Blk))(v:Value)(ok:Bool)(B:Nat)(w':World):Prop:=(O=none∧ok=false)∨∃P A cap,O=some P∧ok=true∧v= .slice A P.length cap∧w'.ownsRow B 122 4 (.slice A P.length cap) P.length (zY P)
def Ih (O:Option (List Blk))(w:World)(e:Ending)(w':World):Prop:=∃v ok,e= .returned (.tuple #[v,.bool ok])∧Below w.heap.size w w'∧Vj O v ok w.heap.size w'
theorem Vj.no {O:Option (List Blk)}{v:Value}{B:Nat}{w':World}(h:O=none):Vj O v false B w':=.inl ⟨h,rfl⟩
theorem Vj.yes {O:Option (List Blk)}{P:List Blk}{A:Option Addr}{cap B:Nat}{w':World}(h:O=some P)(a:w'.ownsRow B 122 4 (.slice A P.length cap) P.length (zY P)):Vj O (.slice A P.length cap) true B w':=.inr ⟨P,A,cap,h,rfl,rfl,a⟩
theorem Xm (K:Kn)(C:Option Addr)(F:Nat)(n:List Blk)(A:Option Addr)(cap:Nat)(f t:Int)(w:World)(c2:K.ok)(c3:Sl w C K.ps.length F 2 (psV K.ps))(hs:Sl w A n.length cap 4 (zY n))(e8:∀b ∈ n,b.ok=true)(hl:n.length≤40)(j9:0≤f)(j':f≤3000)(k0:0≤t)(k1:t≤3000):
 Calls prog 109 #[knV K C F,.slice A n.length cap,f,t] w (Ih (vF K f t 0 n) w):=by
 obtain⟨i,hi,c5,c6,c7⟩:=info_parts wH;have cD:Hid (∀b wr,Below w.heap.size w wr→b.ok=true→Calls prog 95 #[knV K C F,bkV b] wr (rS wr (xw (b.dat K)))):=fun b wr h hb=>nG K C F b wr c2 (c3.below h) (by have:=qO hb;omega);have cM:Hid (∀(x:Bs) wr,Below w.heap.size w wr→x.length≤2000→Calls prog 110 #[knV K C F,sv x] wr (rT wr (bkV (xY K 0 x)))):=fun x wr h hx=>ni K C F x wr c2 (c3.below h) oo;have k3:=hs.1;have k4:=hs.2.1;have e':=hid e8;have h9:Hid (∀wr,Below w.heap.size w wr→Sl wr A n.length cap 4 (zY n)):=fun wr h=>hs.below h;clear hs e8 c3 c2;obtain⟨b9,hR⟩:∃b9,vF K f t 0 n=b9:=⟨_,rfl⟩;rw[hR];have HR:=hid hR;clear hR;have o0:w.ownsRow (w.heap.size+1) 122 4 (.slice none ([]:List Blk).length 0) ([]:List Blk).length (zY []):=⟨by simp [zY],.inl ⟨rfl,rfl⟩⟩;go_enter func109,ntmps109;have f2:Bk (w.alloc (.cells (knC K C F) 94)) w.heap.size 94 (knC K C F):=tBk;have g0:Below w.heap.size w (w.alloc (.cells (knC K C F) 94)):=zy;have o1:=o0.alloc (.cells (knC K C F) 94);go_upto_region 1 with(fail)
 generalize w.alloc (.cells (knC K C F) 94)=w0 at*;clear o0;go_wp2;go_loopw [10,11,21] (fun a b c wr=>∃(k:Nat) (P:List Blk) (Y:Option Addr) (Z:Nat),a= .slice Y P.length Z∧b= .int .i64 (zo (n.take k))∧c= .int .i64 (k:Int)∧k≤n.length∧P.length≤k∧Hid (vF K f t 0 (n.take k)=some P)∧wr.ownsRow (w.heap.size+1) 122 4 (.slice Y P.length Z) P.length (zY P)∧Bk wr w.heap.size 94 (knC K C F)∧Below w.heap.size w wr) (fun _ _ c _=>n.length - (intOf c).toNat)
 case atStart=>exact⟨0,[],none,0,rfl,rfl,rfl,by omega,by simp,rfl,o1,f2,g0⟩
 case round=>
  obtain⟨k,P,Y,Z,rfl,rfl,rfl,hk,hP,HP,ow,hK,g⟩:=hrel;clear f2 g0 o1;have hz:=g.size;have k8:=hK.lt;have h':=uu (n.take k) (fun b hb=>e'.out b (List.mem_of_mem_take hb));have i0:(n.take k).length≤40:=(by simp;omega);obtain⟨k9,i1⟩:=h';have k':zo (n.take k)≤2560:=oo;clear i1 i0;by_cases a5:k<n.length
  ·have i2:(k:Int)<n.length:=oo
   have f5:=h9.out wr g;obtain⟨gb,l0,rfl,hg,hc⟩:=Sl.jf f5 a5;have a7:=qp n k a5;have f6:=hc 0 _ a7.1;have f7:=hc 1 _ a7.2.1;have f8:=hc 2 _ a7.2.2.1;have f9:=hc 3 _ a7.2.2.2;have b':=e'.out n[k] (List.getElem_mem a5);have f':=Blk.vT b';have a8:Hid (zo (n.take (k+1))=zo (n.take k)+n[k].size):=(by show _=_;rw[List.take_succ_eq_append_getElem a5,uj]);have M:Hid (∀d2,wG K (zo (n.take k)) f t n[k]=some d2→vF K f t 0 (n.take (k+1))=some (P++d2)):=fun d2 h=>Wl a5 HP.out h;have N:Hid (wG K (zo (n.take k)) f t n[k]=none→b9=none):=fun h=>(by rw[←HR.out];exact XJ a5 h);have c0:Hid (∀wr,Below w.heap.size w wr→Calls prog 95 #[knV K C F,bkV n[k]] wr (rS wr (xw (n[k].dat K)))):=fun wr h=>cD.out n[k] wr h b';have g1:Hid (∀D,n[k].dat K=some D→(D.length:Int)=n[k].size):=fun D h=>tY b' h;generalize n[k]=b at*;generalize zo (n.take k)=S at*;clear hc a7 f5 HP b';obtain⟨B,r,q,T⟩:=b;simp only[Nat.add_zero] at f6 f7 f8 f9 f' a8;obtain⟨l2,l3,l4,l5⟩:=f';obtain⟨L,hL⟩:∃L:Int,max S f=L:=⟨_,rfl⟩;obtain⟨E,hE⟩:∃E:Int,min (S+q) t=E:=⟨_,rfl⟩;have d3:P.length+1≤maxLen:=(by unfold maxLen;omega);have d4:(P.length+1)*40≤140737488355328:=oo;have l6:0≤L∧L≤3000:=oo;have l8:0≤E∧E≤3000:=oo;have hN:=Bk.new wr (bkC ⟨B,r,q,T⟩) 122;have O:=ow.alloc (.cells (bkC ⟨B,r,q,T⟩) 122);have Q:=hK.alloc (.cells (bkC ⟨B,r,q,T⟩) 122);have J:=g.alloc oo (.cells (bkC ⟨B,r,q,T⟩) 122);go_upto_region 6 with(fail)
   generalize wr.alloc (.cells _ 122)=i3 at*;have l9:=hN.lt;have d5:=hN.cell;have zz:=J.size;generalize wr.heap.size=m0 at*;clear ow hK g f6 f7 f8 f9;by_cases hA:E≤L
   ·
    have X:=hid (M.out [] (by unfold wG;rw[if_pos (by simp only;omega)]));rw[List.append_nil] at X;have m1:decide (E≤L)=true:=decide_eq_true hA;go_wp2;go_roundw
    case rel=>exact⟨k+1,P,Y,Z,rfl,by rw[a8.out],by go_num,by omega,by omega,X,O,Q,J⟩
    case measure=>simp [intOf];omega
   by_cases hW:L=S∧E=S+q
   ·
    obtain⟨g4,g6⟩:=hW;have X:=hid (M.out [⟨B,r,q,T⟩] (by unfold wG;rw[if_neg (by simp only;omega),if_pos (by simp only;omega)]));have g7:(L==S)=true:=(by simp;omega);have i6:(E==S+q)=true:=(by simp;omega);have m2:=hid g4;have m3:=hid g6;clear g4 g6;go_wp2_with(at_builtin;go_must(refine zT _ rfl _ _ 97 rfl (w.heap.size+1) 122 i _ 4 40 underlying97 hi c5 c6 c7 rfl (by omega) _ _ _ rfl (O.alloc _) _ 1 1 [.int .i64 B,.bool r,.int .i64 q,.string ⟨T.toArray⟩] rfl (Sl.newAt i3 #[(B:Int),.bool r,q,T] _ 1 4 (by first|rfl|simp) (by simp) (by omega)) (by simp [Value.oneCell']) d3 d4 ?_ ?_));try(case refine_1=>first|omega|(simp<;>omega;done))
    intro A3 g' w3 o3 d6 _;have g3:=yD J d6 (by first|omega|(simp;omega)) (fun k hk=>by have:=(O.lt k hk).1;omega);have i9:=Bk.grown (Q.alloc _) d6 (fun k hk=>by have:=(O.lt k hk).1;omega);have i':w3.ownsRow (w.heap.size+1) 122 4 (.slice A3 (P++[(⟨B,r,q,T⟩:Blk)]).length g') (P++[(⟨B,r,q,T⟩:Blk)]).length (zY (P++[(⟨B,r,q,T⟩:Blk)])):=by
     rw[xW,List.length_append];exact o3
    have h1:(P++[(⟨B,r,q,T⟩:Blk)]).length=P.length+1:=(by simp);have h2:=hid h1;clear o3 d6 O J h1 Q d5 hN;go_wp2;go_roundw
    case rel=>exact⟨k+1,P++[(⟨B,r,q,T⟩:Blk)],A3,g',(by rw[h2.out]),by rw[a8.out],by go_num,by omega,by rw[h2.out];omega,X,i',i9,g3⟩
    case measure=>simp [intOf];omega
   ·
    obtain⟨p,h3⟩:∃p:Nat,L - S=(p:Int):=⟨(L - S).toNat,oo⟩;obtain⟨u,h4⟩:∃u:Nat,E - S=(u:Int):=⟨(E - S).toNat,oo⟩;have hcut:wG K S f t ⟨B,r,q,T⟩=((⟨B,r,q,T⟩:Blk).dat K).map fun d=>[xY K 0 ((d.drop p).take (u - p))]:=by
     unfold wG;rw[if_neg (by simp only;omega),if_neg (by simp only;omega)];simp only;rw[show(max S f - S).toNat=p by omega,show(min (S+q) t - max S f).toNat=u - p by omega]
    rw[hcut] at M N;clear hcut;have h5:IntKind.i64.wrap (p:Int)=(p:Int):=IntWalk.i64_in _ oo;have h6:IntKind.i64.wrap (u:Int)=(u:Int):=IntWalk.i64_in _ oo;have h7:u≤q.toNat∧p≤u:=oo;by_cases c1:L=S
    ·have g7:(L==S)=true:=by simpa using c1
     have i6:(E==S+q)=false:=(by simp;omega);have m4:=hid c1;clear c1;have d7:=Q.cell;go_wp2_with fail;refine(c0.out _ J).mono ?_;rintro e w5 ⟨rfl,I⟩;have z5:=I.size;have a0:=Q.below I oo;have d8:=zf O I;have g5:=J.trans (I.mono oo);have R:=a0.cell;have d9:=a0.lt;clear d5 hN d7 Q O J I c0
     cases hD:(⟨B,r,q,T⟩:Blk).dat K with
     |none=>
      rw[hD] at N;have d':=N.out rfl;unfold xw;simp only[Option.getD_none,Option.isSome_none];clear N M;go_wp2;exact bodyPost_ret (v:=.tuple #[.slice none 0 0,.bool false]) (by simp [results,results109,go_sem]) rfl ⟨_,_,rfl,g5,Vj.no d'⟩
     |some D=>
      have e0:(D.length:Int)=q:=g1.out D hD;have X:Hid (vF K f t 0 (n.take (k+1))=some (P++[xY K 0 ((D.drop p).take (u - p))])):=M.out _ (by rw[hD];rfl);have b1:=fun wr h=>cM.out ((D.drop p).take (u - p)) wr h (by simp;omega);unfold xw;simp only[Option.getD_some,Option.isSome_some];have j1:p≤u:=h7.2;have j2:u≤D.length:=oo;have j3:(u:Int)≤D.length:=oo;have j4:(p:Int)≤u:=oo;clear e0;generalize xY K 0 ((D.drop p).take (u - p))=c at*;clear N M hD;obtain⟨y,s,z,U⟩:=c;go_upto_region 11 with(fail)
      refine wp_region_held_drew (S:=(fun w'=>w'.cell? ⟨w.heap.size,0,none⟩=some (.int .i64 K.o)∧w'.cell? ⟨w.heap.size,1,none⟩=some (.int .i64 K.l)∧w'.cell? ⟨w.heap.size,2,none⟩=some (.int .i64 K.m)∧w'.cell? ⟨w.heap.size,3,none⟩=some (.slice C K.ps.length F)∧w'.cell? ⟨w.heap.size,4,none⟩=some (.int .i64 K.base)∧w'.cell? ⟨w.heap.size,5,none⟩=some (.int .i64 K.last))) kr ?_ (fun a1=> ?_);focus((refine⟨?_,?_,?_,?_,?_,?_⟩;all_goals first|(simp [V];done)|(simp [W];done)|(simp [R];done)|exact(j.alloc _).cell 0|exact(j.alloc _).cell 1|exact(j.alloc _).cell 2|exact(j.alloc _).cell 3|exact(j.alloc _).cell 4|exact(j.alloc _).cell 5))
      refine tk 0 ?_;refine tk 1 ?_;refine tk 2 ?_;refine tk 3 ?_;refine tk 4 ?_;refine tk 5 ?_;refine tk 6 ?_;refine tk 7 ?_;refine tk 8 ?_;refine tk 9 ?_;try simp only[Act.put,rR]
      refine rd1 10 fun KK G=> ?_;go_simp
      (go_at_call 110;refine(b1 _ yj).mono ?_;rintro j5 w8 ⟨rfl,H⟩;have H:Below w5.heap.size w5 w8:=zB H;have z8:=H.size;have j:=a0.below H d9;have o8:=zf d8 H;have g8:=g5.trans (H.mono oo);have W:=j.cell)
      refine G.out _ _ (by(refine⟨?_,?_,?_,?_,?_,?_⟩;all_goals first|(simp [V];done)|(simp [W];done)|(simp [R];done)|exact(j.alloc _).cell 0|exact(j.alloc _).cell 1|exact(j.alloc _).cell 2|exact(j.alloc _).cell 3|exact(j.alloc _).cell 4|exact(j.alloc _).cell 5)) fun a1=> ?_;try simp only[Act.put,rR]
      refine rd1 11 fun KK G=> ?_;go_simp;refine G.out _ _ (by(refine⟨?_,?_,?_,?_,?_,?_⟩;all_goals first|(simp [V];done)|(simp [W];done)|(simp [R];done)|exact(j.alloc _).cell 0|exact(j.alloc _).cell 1|exact(j.alloc _).cell 2|exact(j.alloc _).cell 3|exact(j.alloc _).cell 4|exact(j.alloc _).cell 5)) fun a1=> ?_;try simp only[Act.put,rR]
      refine rd1 12 fun KK G=> ?_
      ((refine uQ _ rfl _ _ 97 rfl (w.heap.size+1) 122 i _ 4 40 underlying97 hi c5 c6 c7 rfl (by omega) (.slice Y P.length Z) P.length (zY P) rfl (o8.alloc _) (some ⟨_,0,none⟩) 1 1 [.int .i64 y,.bool s,.int .i64 z,.string ⟨U.toArray⟩] rfl (Sl.new w8 #[(y:Int),.bool s,z,U] _ 1 4 (by simp) (by omega)) (by simp [Value.oneCell']) d3 d4 (by first|omega|(simp<;>omega)) ?_);intro b4 b5 e2 b6 a3 e3;have b7:=Bk.grown (j.alloc _) a3 (fun k hk=>by have:=(o8.lt k hk).1;omega);have e4:=(g8.alloc (by omega) _).grown a3 (by simp;omega) (fun k hk=>by have:=(o8.lt k hk).1;omega);have V:=b7.cell)
      refine G.out _ _ (by(refine⟨?_,?_,?_,?_,?_,?_⟩;all_goals first|(simp [V];done)|(simp [W];done)|(simp [R];done)|exact(j.alloc _).cell 0|exact(j.alloc _).cell 1|exact(j.alloc _).cell 2|exact(j.alloc _).cell 3|exact(j.alloc _).cell 4|exact(j.alloc _).cell 5)) fun a1=> ?_;try simp only[Act.put,rR]
      refine tk 13 ?_;try simp only[Act.put,rR]
      refine wpAnyH_done kr ?_ _;simp only[Act.put,yW];have a4:(P++[(⟨y,s,z,U⟩:Blk)]).length=P.length+1:=(by simp);have e5:e2.ownsRow (w.heap.size+1) 122 4 (.slice b4 (P++[(⟨y,s,z,U⟩:Blk)]).length b5) (P++[(⟨y,s,z,U⟩:Blk)]).length (zY (P++[(⟨y,s,z,U⟩:Blk)])):=(by rw[a4,xW];exact b6);rw[←a4];have e6:(P++[(⟨y,s,z,U⟩:Blk)]).length≤k+1:=oo;generalize P++[(⟨y,s,z,U⟩:Blk)]=P2 at*;clear G a4 b6 a3 e3 b1 h5 h6 h3 h4 hL hE;go_wp2;go_roundw
      case rel=>exact⟨k+1,P2,b4,b5,rfl,by rw[a8.out],by go_num,by omega,e6,X,e5,b7,e4⟩
      case measure=>simp [intOf];omega
    ·have g7:(L==S)=false:=by simpa using c1
     have d7:=Q.cell;go_wp2_with fail;refine(c0.out _ J).mono ?_;rintro e w5 ⟨rfl,I⟩;have z5:=I.size;have a0:=Q.below I oo;have d8:=zf O I;have g5:=J.trans (I.mono oo);have R:=a0.cell;have d9:=a0.lt;clear d5 hN d7 Q O J I c0
     cases hD:(⟨B,r,q,T⟩:Blk).dat K with
     |none=>
      rw[hD] at N;have d':=N.out rfl;unfold xw;simp only[Option.getD_none,Option.isSome_none];clear N M;go_wp2;exact bodyPost_ret (v:=.tuple #[.slice none 0 0,.bool false]) (by simp [results,results109,go_sem]) rfl ⟨_,_,rfl,g5,Vj.no d'⟩
     |some D=>
      have e0:(D.length:Int)=q:=g1.out D hD;have X:Hid (vF K f t 0 (n.take (k+1))=some (P++[xY K 0 ((D.drop p).take (u - p))])):=M.out _ (by rw[hD];rfl);have b1:=fun wr h=>cM.out ((D.drop p).take (u - p)) wr h (by simp;omega);unfold xw;simp only[Option.getD_some,Option.isSome_some];have j1:p≤u:=h7.2;have j2:u≤D.length:=oo;have j3:(u:Int)≤D.length:=oo;have j4:(p:Int)≤u:=oo;clear e0;generalize xY K 0 ((D.drop p).take (u - p))=c at*;clear N M hD;obtain⟨y,s,z,U⟩:=c;go_upto_region 11 with(fail)
      refine wp_region_held_drew (S:=(fun w'=>w'.cell? ⟨w.heap.size,0,none⟩=some (.int .i64 K.o)∧w'.cell? ⟨w.heap.size,1,none⟩=some (.int .i64 K.l)∧w'.cell? ⟨w.heap.size,2,none⟩=some (.int .i64 K.m)∧w'.cell? ⟨w.heap.size,3,none⟩=some (.slice C K.ps.length F)∧w'.cell? ⟨w.heap.size,4,none⟩=some (.int .i64 K.base)∧w'.cell? ⟨w.heap.size,5,none⟩=some (.int .i64 K.last))) kr ?_ (fun a1=> ?_);focus((refine⟨?_,?_,?_,?_,?_,?_⟩;all_goals first|(simp [V];done)|(simp [W];done)|(simp [R];done)|exact(j.alloc _).cell 0|exact(j.alloc _).cell 1|exact(j.alloc _).cell 2|exact(j.alloc _).cell 3|exact(j.alloc _).cell 4|exact(j.alloc _).cell 5))
      refine tk 0 ?_;refine tk 1 ?_;refine tk 2 ?_;refine tk 3 ?_;refine tk 4 ?_;refine tk 5 ?_;refine tk 6 ?_;refine tk 7 ?_;refine tk 8 ?_;refine tk 9 ?_;try simp only[Act.put,rR]
      refine rd1 10 fun KK G=> ?_;go_simp
      (go_at_call 110;refine(b1 _ yj).mono ?_;rintro j5 w8 ⟨rfl,H⟩;have H:Below w5.heap.size w5 w8:=zB H;have z8:=H.size;have j:=a0.below H d9;have o8:=zf d8 H;have g8:=g5.trans (H.mono oo);have W:=j.cell)
      refine G.out _ _ (by(refine⟨?_,?_,?_,?_,?_,?_⟩;all_goals first|(simp [V];done)|(simp [W];done)|(simp [R];done)|exact(j.alloc _).cell 0|exact(j.alloc _).cell 1|exact(j.alloc _).cell 2|exact(j.alloc _).cell 3|exact(j.alloc _).cell 4|exact(j.alloc _).cell 5)) fun a1=> ?_;try simp only[Act.put,rR]
      refine rd1 11 fun KK G=> ?_;go_simp;refine G.out _ _ (by(refine⟨?_,?_,?_,?_,?_,?_⟩;all_goals first|(simp [V];done)|(simp [W];done)|(simp [R];done)|exact(j.alloc _).cell 0|exact(j.alloc _).cell 1|exact(j.alloc _).cell 2|exact(j.alloc _).cell 3|exact(j.alloc _).cell 4|exact(j.alloc _).cell 5)) fun a1=> ?_;try simp only[Act.put,rR]
      refine rd1 12 fun KK G=> ?_
      ((refine uQ _ rfl _ _ 97 rfl (w.heap.size+1) 122 i _ 4 40 underlying97 hi c5 c6 c7 rfl (by omega) (.slice Y P.length Z) P.length (zY P) rfl (o8.alloc _) (some ⟨_,0,none⟩) 1 1 [.int .i64 y,.bool s,.int .i64 z,.string ⟨U.toArray⟩] rfl (Sl.new w8 #[(y:Int),.bool s,z,U] _ 1 4 (by simp) (by omega)) (by simp [Value.oneCell']) d3 d4 (by first|omega|(simp<;>omega)) ?_);intro b4 b5 e2 b6 a3 e3;have b7:=Bk.grown (j.alloc _) a3 (fun k hk=>by have:=(o8.lt k hk).1;omega);have e4:=(g8.alloc (by omega) _).grown a3 (by simp;omega) (fun k hk=>by have:=(o8.lt k hk).1;omega);have V:=b7.cell)
      refine G.out _ _ (by(refine⟨?_,?_,?_,?_,?_,?_⟩;all_goals first|(simp [V];done)|(simp [W];done)|(simp [R];done)|exact(j.alloc _).cell 0|exact(j.alloc _).cell 1|exact(j.alloc _).cell 2|exact(j.alloc _).cell 3|exact(j.alloc _).cell 4|exact(j.alloc _).cell 5)) fun a1=> ?_;try simp only[Act.put,rR]
      refine tk 13 ?_;try simp only[Act.put,rR]
      refine wpAnyH_done kr ?_ _;simp only[Act.put,yW];have a4:(P++[(⟨y,s,z,U⟩:Blk)]).length=P.length+1:=(by simp);have e5:e2.ownsRow (w.heap.size+1) 122 4 (.slice b4 (P++[(⟨y,s,z,U⟩:Blk)]).length b5) (P++[(⟨y,s,z,U⟩:Blk)]).length (zY (P++[(⟨y,s,z,U⟩:Blk)])):=(by rw[a4,xW];exact b6);rw[←a4];have e6:(P++[(⟨y,s,z,U⟩:Blk)]).length≤k+1:=oo;generalize P++[(⟨y,s,z,U⟩:Blk)]=P2 at*;clear G a4 b6 a3 e3 b1 h5 h6 h3 h4 hL hE;go_wp2;go_roundw
      case rel=>exact⟨k+1,P2,b4,b5,rfl,by rw[a8.out],by go_num,by omega,e6,X,e5,b7,e4⟩
      case measure=>simp [intOf];omega
  ·have i2:¬(k:Int)<n.length:=oo
   have HE:Hid (b9=some P):=(by show _=_;rw[←HR.out,←HP.out,List.take_of_length_le (by omega)]);go_wp2;exact bodyPost_ret (v:=.tuple #[.slice Y P.length Z,.bool true]) (by simp [results,results109,go_sem]) rfl ⟨_,_,rfl,g,Vj.yes HE.out (zI ow (by omega))⟩
theorem NS {w w':World}{B n s:Nat}{e:TypeId}{v:Value}{xs:List Value}{row:Option Nat}(h:w.ownsRow B e s v n xs)(a:w.grownBy w' row)(b:∀k,v.ownBlock=some k→row≠some k):w'.ownsRow B e s v n xs:=
 h.kept a (by
  cases c:v.ownBlock with
  |none=>exact .inl rfl
  |some k=>exact .inr (fun d=>b k c d.symm))
theorem dL (o l m:Int)(dict t:Bs)(f j:Int)(d:Bs)(size:Int)(w:World)(hl:dict.length≤9223372036854775807)(d3:t.length≤1500000)(hd:d.length≤9223372036854775807)(i1: -1000000≤size)(i2:size≤1000000)
 (m1: -9223372036854775808≤f) (m2:f≤9223372036854775807) (m3: -9223372036854775808≤j) (m4:j≤9223372036854775807):
 Calls prog 75 #[.agg #[(o:Int),l,m],sv dict,sv t,f,j,sv d,size] w (rS w (yA (rpD o l m dict t f j d size))):=by
 obtain⟨i,hi,d5,d6,d7⟩:=info_parts wH;by_cases V:fits o l m dict∧(zX t).isSome=true
 case neg=>
  have O:=fun w=>lL o l m dict t w V hl d3;have z:rpD o l m dict t f j d size=none:=by
   unfold rpD;split
   ·rename_i B
    cases hb:zX t with
    |none=>rfl
    |some g=>exact absurd ⟨B,by rw[hb];rfl⟩ V
   ·rfl
  rw[z];unfold yA;clear z V;go_enter func75,ntmps75;have C:Bk (w.alloc (.cells #[(o:Int),l,m] 24)) w.heap.size 24 #[(o:Int),l,m]:=tBk;have W:Below w.heap.size w (w.alloc (.cells #[(o:Int),l,m] 24)):=zy;go_upto_region 1 with(fail)
  generalize w.alloc (.cells #[(o:Int),l,m] 24)=w0 at*;have d8:=C.cell;have m5:=C.lt;go_wp2_with fail;refine(O _).mono ?_;rintro e X ⟨rfl,i3⟩;have Y:=W.trans (i3.mono oo);have m6:=Y.size;go_wp2;exact bodyPost_ret (v:=.tuple #[sv [],.bool false]) (by simp [results,results75,go_sem]) rfl ⟨rfl,zy⟩
 obtain⟨B,d9⟩:=V;obtain⟨g,D⟩:=Option.isSome_iff_exists.1 d9;have O:=fun w=>nD o l m dict t g w B D d3;unfold UQ at O;have hk:=xN B;have Q:=xU D;have i4:=(xI D).2;have m7:=uu g Q;have m8:=XZ D;have z:rpD o l m dict t f j d size=if 0≤f∧f≤j∧j≤zo g then(nwO (zA o l m dict) d size).bind fun cs=>(vF (zA o l m dict) 0 f 0 g).bind fun a=>(vF (zA o l m dict) j (zo g) 0 g).bind fun e=>mcO (a++cs++e) else none:=by unfold rpD;rw[if_pos B,D];rfl
 have Z:Hid (∀A cap wr,Sl wr A (zA o l m dict).ps.length cap 2 (psV (zA o l m dict).ps)→Calls prog 108 #[knV (zA o l m dict) A cap,sv d,size] wr (NwR (nwO (zA o l m dict) d size) wr)):=fun A cap wr h=>jX _ A cap d size wr hk h hd i1 i2;unfold NwR at Z;have cZ:Hid (∀A cap wr,Sl wr A g.length cap 4 (zY g)→Calls prog 94 #[.slice A g.length cap] wr (rT wr (.int .i64 (zo g)))):=fun A cap wr h=>iK g A cap wr h Q oo;have F:Hid (∀Ak ck A cap a b wr,Sl wr Ak (zA o l m dict).ps.length ck 2 (psV (zA o l m dict).ps)→Sl wr A g.length cap 4 (zY g)→0≤a→a≤3000→0≤b→b≤3000→Calls prog 109 #[knV (zA o l m dict) Ak ck,.slice A g.length cap,(a:Int),(b:Int)] wr fun e w'=>∃v ok,e= .returned (.tuple #[v,.bool ok])∧Below wr.heap.size wr w'∧Vj (vF (zA o l m dict) a b 0 g) v ok wr.heap.size w'):=fun Ak ck A cap a b wr h1 h2 h3 i5 h5 h6=>Xm _ Ak ck g A cap a b wr hk h1 h2 Q i4 h3 i5 h5 h6;have r:Hid (∀a b x,vF (zA o l m dict) a b 0 g=some x→(∀c ∈ x,c.ok=true)∧x.length≤g.length):=fun a b x=>jy hk g 0 x Q;have a3:Hid (∀cs,nwO (zA o l m dict) d size=some cs→(∀b ∈ cs,b.ok=true)∧cs.length≤40):=fun cs h=>VP hk h;obtain⟨R,hR⟩:∃R,rpD o l m dict t f j d size=R:=⟨_,rfl⟩;rw[hR] at z⊢;have HE:=hid z;clear z hR B D d9 hk Q;generalize nwO (zA o l m dict) d size=e0 at*;generalize zA o l m dict=K at*;go_enter func75,ntmps75;have C:Bk (w.alloc (.cells #[(o:Int),l,m] 24)) w.heap.size 24 #[(o:Int),l,m]:=tBk;have W:Below w.heap.size w (w.alloc (.cells #[(o:Int),l,m] 24)):=zy;go_upto_region 1 with(fail)
 generalize w.alloc (.cells #[(o:Int),l,m] 24)=w0 at*;have d8:=C.cell;have m9:=C.lt;go_wp2_with fail;refine(O _).mono ?_;rintro e X ⟨G,H,A2,n0,rfl,o1,p1,b9⟩;have z1:=b9.size;have Y:=W.trans (b9.mono oo);have a5:=Bk.new X (knC K G H) 94;have o2:=o1.alloc (.cells (knC K G H) 94);have T:=p1.alloc (.cells (knC K G H) 94);have s:=Y.alloc oo (.cells (knC K G H) 94);clear b9 d8 C W o1 p1 Y O;go_upto_region 2 with(fail)
 unfold knC at a5 o2 T s;generalize X.alloc (.cells #[K.o,K.l,K.m,.slice G K.ps.length H,K.base,K.last] 94)=n2 at*;generalize X.heap.size=I at*;have i8:=a5.lt;have n3:=s.size;by_cases J:0≤f∧f≤j∧j≤zo g
 case neg=>
  have u:R=none:=(by rw[HE.out,if_neg J]);subst u;clear HE a3 r Z F;by_cases h1:f<0
  ·clear J
   go_wp2;exact bodyPost_ret (v:=.tuple #[sv [],.bool false]) (by simp [results,results75,go_sem]) rfl ⟨rfl,s⟩
  by_cases h2:j<f
  ·clear J
   go_wp2;exact bodyPost_ret (v:=.tuple #[sv [],.bool false]) (by simp [results,results75,go_sem]) rfl ⟨rfl,s⟩
  have h3:zo g<j:=oo;have s2:=Sl.own T;go_wp2_with fail;refine(cZ.out _ _ _ s2).mono ?_;rintro e w3 ⟨rfl,p⟩;have g3:=s.trans (p.mono oo);clear J;go_wp2;exact bodyPost_ret (v:=.tuple #[sv [],.bool false]) (by simp [results,results75,go_sem]) rfl ⟨rfl,g3⟩
 have h1:¬f<0:=oo;have h2:¬j<f:=oo;have h3:¬zo g<j:=oo;have q:Hid (R=e0.bind fun cs=>(vF K 0 f 0 g).bind fun a=>(vF K j (zo g) 0 g).bind fun e=>mcO (a++cs++e)):=(by show _=_;rw[HE.out,if_pos J]);have i':0≤f∧f≤3000∧0≤j∧j≤3000∧zo g≤3000:=oo;obtain⟨j0,j1,j2,j3,j4⟩:=i';have s2:=Sl.own T;clear HE J;go_wp2_with fail;refine(cZ.out _ _ _ s2).mono ?_;rintro e w3 ⟨rfl,p⟩;have z3:=p.size;have g3:=s.trans (p.mono oo);have a8:=a5.below p i8;have o3:=zf o2 p;have p3:=zf T p;have t3:=Sl.own o3;have j5:=a8.cell;have j6:=a8.lt;clear p a5 o2 T s s2;go_wp2_with fail;refine(Z.out _ _ _ t3).mono ?_;rintro e w4 ⟨A4,c4,rfl,o4,L⟩;have z4:=L.size;have g4:=g3.trans (L.mono oo);have a9:=a8.below L j6;have c2:=zf o3 L;have p4:=zf p3 L;have j8:=a9.cell;have j9:=a9.lt;clear L a8 j5 g3 o3 t3 p3 Z
 cases e0 with
 |none=>
  have u:R=none:=q.out;subst u;simp only[Option.isSome_none,Option.getD_none];clear q a3 r F;go_wp2;exact bodyPost_ret (v:=.tuple #[sv [],.bool false]) (by simp [results,results75,go_sem]) rfl ⟨rfl,g4⟩
 |some cs=>
  obtain⟨e6,n9⟩:=a3.out cs rfl;have e8:=hid e6;simp only[Option.isSome_some,Option.getD_some] at o4⊢;have t4:=Sl.own c2;have s4:=Sl.own p4;clear e6 a3;go_wp2_with fail;refine(F.out _ _ _ _ 0 f _ t4 s4 oo oo j0 j1).mono ?_;rintro e w5 ⟨v5,o0,rfl,y,j'⟩;have z5:=y.size;have g5:=g4.trans (y.mono oo);have a':=a9.below y j9;have f1:=zf c2 y;have p5:=zf p4 y;have o5:=zf o4 y;have b0:=a'.cell;have k0:=a'.lt;clear a9 j8 g4 c2 t4 p4 s4 y;rcases j' with⟨M,rfl⟩|⟨P,A5,c5,M,rfl,rfl,r5⟩
  ·have u:R=none:=by rw[q.out,Option.bind_some,M];rfl
   subst u;clear q r F;go_wp2;exact bodyPost_ret (v:=.tuple #[sv [],.bool false]) (by simp [results,results75,go_sem]) rfl ⟨rfl,g5⟩
  have t5:=Sl.own f1;have s5:=Sl.own p5;go_upto_region 10 with(fail)
  refine wp_region_held_drew (S:=(fun w'=>w'.cell? ⟨I,0,none⟩=some (.int .i64 K.o)∧w'.cell? ⟨I,1,none⟩=some (.int .i64 K.l)∧w'.cell? ⟨I,2,none⟩=some (.int .i64 K.m)∧w'.cell? ⟨I,3,none⟩=some (.slice G K.ps.length H)∧w'.cell? ⟨I,4,none⟩=some (.int .i64 K.base)∧w'.cell? ⟨I,5,none⟩=some (.int .i64 K.last))) kr ?_ (fun f5=> ?_);focus((refine⟨?_,?_,?_,?_,?_,?_⟩;all_goals first|(simp [b1];done)|(simp [b2];done)|(simp [b0];done)))
  refine tk 0 ?_;refine tk 1 ?_;refine tk 2 ?_;refine tk 3 ?_;try simp only[Act.put,rR]
  refine rd1 4 fun KK b3=> ?_;go_simp
  (go_at_call 94;refine(cZ.out _ _ _ (s5.below yj)).mono ?_;rintro o7 w6 ⟨rfl,n⟩;have n:Below w5.heap.size w5 w6:=zB n;have z6:=n.size;have b4:=a'.below n k0;have g6:=g5.trans (n.mono oo);have t6:=t5.below n;have s6:=s5.below n;have b2:=b4.cell;have k5:=b4.lt)
  refine b3.out _ _ (by(refine⟨?_,?_,?_,?_,?_,?_⟩;all_goals first|(simp [b1];done)|(simp [b2];done)|(simp [b0];done))) fun f5=> ?_;try simp only[Act.put,rR]
  refine rd1 5 fun KK b3=> ?_;go_simp
  (go_at_call 109;refine(F.out _ _ _ _ j (zo g) _ t6 s6 j2 j3 oo j4).mono ?_;rintro e7 w7 ⟨v7,k7,rfl,N,k6⟩;have z7:=N.size;have f9:=b4.below N k5;have g7:=g6.trans (N.mono oo);have b1:=f9.cell)
  refine b3.out _ _ (by(refine⟨?_,?_,?_,?_,?_,?_⟩;all_goals first|(simp [b1];done)|(simp [b2];done)|(simp [b0];done))) fun f5=> ?_;try simp only[Act.put,rR]
  refine tk 6 ?_;refine tk 7 ?_;refine tk 8 ?_;refine tk 9 ?_;refine tk 10 ?_;try simp only[Act.put,rR]
  refine wpAnyH_done kr ?_ _;simp only[Act.put,yW];have r7:=zf (zf r5 n) N;have n7:=zf (zf o5 n) N;clear b3 a' b4 f9 g5 g6 b0 b2 b1 f1 p5 t5 s5 t6 s6 F cZ;rcases k6 with⟨U,rfl⟩|⟨E,A7,c7,U,rfl,rfl,e7⟩
  ·have u:R=none:=by rw[q.out,Option.bind_some,M,U];rfl
   subst u;clear q r;go_wp2;exact bodyPost_ret (v:=.tuple #[sv [],.bool false]) (by simp [results,results75,go_sem]) rfl ⟨rfl,g7⟩
  obtain⟨g1,p8⟩:=r.out 0 f P M;obtain⟨g2,p9⟩:=r.out j (zo g) E U;have g9:R=mcO (P++cs++E):=(by rw[q.out,Option.bind_some,M,U];rfl);have g':=pW (pW g1 e8.out) g2;have c9:(P++cs++E).length=P.length+cs.length+E.length:=(by simp;omega);have h0:zY (P++cs++E)=zY P++zY cs++zY E:=(by unfold zY;rw[List.flatMap_append,List.flatMap_append]);have cE:Hid (∀A cap wr,Sl wr A (P.length+cs.length+E.length) cap 4 (zY P++zY cs++zY E)→Calls prog 105 #[.slice A (P.length+cs.length+E.length) cap] wr (rS wr (yA R))):=fun A cap wr hs=>by
   rw[←c9] at hs⊢;rw[←h0] at hs;rw[g9];exact oG (P++cs++E) A cap wr hs g' (by rw[c9];omega)
  have k9:P.length+cs.length≤maxLen:=(by unfold maxLen;omega);have k':(P.length+cs.length)*40≤140737488355328:=oo;have l0:P.length+cs.length+E.length≤maxLen:=(by unfold maxLen;omega);have l1:(P.length+cs.length+E.length)*40≤140737488355328:=oo;have l2:∀d0 ∈ zY cs,d0.oneCell'=true:=bU cs;have l3:∀d0 ∈ zY E,d0.oneCell'=true:=bU E;have h4:∀k,(Value.slice A7 E.length c7).ownBlock=some k→(Value.slice A5 P.length c5).ownBlock≠some k:=fun k hk l4=>by
   have h1:=(r5.lt k l4).2;have h2:=(e7.lt k hk).1;have:=n.size;omega
  have s7:=Sl.own n7;clear r M U g1 g2 q g9 g' c9 h0 e8 n N r5 n7 o5;go_wp2_with(at_builtin;go_must(refine zT _ rfl _ _ 97 rfl w0.heap.size 122 i _ 4 40 underlying97 hi d5 d6 d7 rfl oo _ _ _ rfl (zI r7 oo) _ cs.length c4 (zY cs) rfl s7 l2 k9 k' ?_ ?_))
  ·omega
  intro A8 c8 w8 o8 b6 _;have q2:=b6.size;have g8:=g7.grown b6 oo (fun k hk=>by have:=(r7.lt k hk).1;omega);have s8:=Sl.own (NS e7 b6 h4);have z8:=g8.size;clear r7 s7 e7 b6 g7 h4;go_wp2_with(at_builtin;go_must(refine zT _ rfl _ _ 97 rfl w0.heap.size 122 i _ 4 40 underlying97 hi d5 d6 d7 rfl oo _ _ _ rfl o8 _ E.length c7 (zY E) rfl s8 l3 l0 l1 ?_ ?_))
  ·omega
  intro A9 l6 w9 o9 h8 _;have h9:=g8.grown h8 oo (fun k hk=>by have:=(o8.lt k hk).1;omega);have s9:Sl w9 A9 (P.length+cs.length+E.length) l6 4 (zY P++zY cs++zY E):=by
   have:=Sl.own o9
   first|exact this|(rw[List.append_assoc];exact this)
  have z9:=h9.size;clear o8 s8 o9 h8 g8;go_wp2_with fail;refine(cE.out _ _ _ s9).mono ?_;rintro e q5 ⟨rfl,l'⟩;have m0:=h9.trans (l'.mono oo);unfold yA;go_wp2;exact bodyPost_ret (v:=.tuple #[sv (R.getD []),.bool R.isSome]) (by simp [results,results75,go_sem]) rfl ⟨rfl,m0⟩
end Go.Proofs.YtoedhpcmgondjaaGreatDoor
namespace Go.Proofs.YtoedhpcmgondjaaGreatDoor
open Go.RowKit Go.Proofs.Tryz
set_option maxRecDepth 100000
attribute [local instance] mU hZ cvZ
attribute [local go_sem high] zG zF zH zV zN yu zD zl zn zt zi zu y9 zK yE zJ
attribute [local go_sem high] oO oJ
def ixV (o:Option Nat):Int:=match o with
 |some i=>(i:Int)
 |none=> -1
theorem aY (S:Sto)(n:Bs)(A:Option Addr)(cap:Nat)(w:World)(c:Sl w A S.fs.length cap 2 (yz S.fs))(D:S.fs.length≤1500000):
 Calls prog 54 #[S.V A cap,sv n] w (rT w (.int .i64 (ixV (wB S.fs n)))):=by
 have E:=c.1;have F:=c.2.1;have u:Hid (∀wr,Below w.heap.size w wr→Sl wr A S.fs.length cap 2 (yz S.fs)):=fun wr h=>c.below h;have r:Hid (∀(k:Nat) (hk:k<S.fs.length),(∀(j:Nat) (h:j<S.fs.length),j<k→S.fs[j].1≠n)→S.fs[k].1=n→ixV (wB S.fs n)=(k:Int)):=fun k hk v b=>(by rw[Wq hk b (fun j s=>v j (by omega) s)];rfl);have t:Hid ((∀(j:Nat) (h:j<S.fs.length),S.fs[j].1≠n)→ixV (wB S.fs n)= -1):=fun h=>(by rw[aB h];rfl);clear c;generalize ixV (wB S.fs n)=R at*;obtain⟨o,l,m,dict,fs⟩:=S;simp only at*;go_enter func54,ntmps54;have x:Bk (w.alloc (.cells #[(o:Int),l,m,dict,.slice A fs.length cap] 29)) w.heap.size 29 #[(o:Int),l,m,dict,.slice A fs.length cap]:=tBk;have d:Below w.heap.size w (w.alloc (.cells #[(o:Int),l,m,dict,.slice A fs.length cap] 29)):=zy;go_upto_region 1 with(fail)
 generalize w.alloc (.cells #[(o:Int),l,m,dict,.slice A fs.length cap] 29)=y at*;have G:=x.cell;go_wp2;go_loopw [5] (fun i wr=>wr=y∧∃k:Nat,i= .int .i64 (k:Int)∧k≤fs.length∧Hid (∀(j:Nat) (h:j<fs.length),j<k→fs[j].1≠n)) (fun i _=>fs.length - (intOf i).toNat)
 case atStart=>exact⟨rfl,0,rfl,oo,fun j h s=>by omega⟩
 case round=>
  obtain⟨rfl,k,rfl,hk,f⟩:=hrel;by_cases p:k<fs.length
  ·have z:(k:Int)<fs.length:=oo
   obtain⟨g,H,rfl,I,J,K⟩:=(u.out _ d).fl p;by_cases b:fs[k].1=n
   ·have q:=r.out k p f.out b
    subst q;have B:decide (fs[k].1=n)=true:=(by simpa using b);clear b r t;generalize fs[k].1=a at*;go_wp2;go_ret;exact⟨rfl,d⟩
   ·have C:=Go.Lib.hid (Jv p f.out b)
    have B:decide (fs[k].1=n)=false:=(by simpa using b);clear b;generalize fs[k].1=a at*;go_wp2;go_roundw
    case rel=>exact⟨trivial,k+1,by go_num,oo,C⟩
    case measure=>simp [intOf];omega
  ·have z:¬(k:Int)<fs.length:=oo
   have q:=t.out (fun j h=>f.out j h oo);subst q;go_wp2;go_ret;exact⟨rfl,d⟩
end Go.Proofs.YtoedhpcmgondjaaGreatDoor
namespace Go.Proofs.YtoedhpcmgondjaaGreatDoor
open Go.Lib(hid)
open Go.RowKit Go.Proofs.Tryz
set_option maxRecDepth 100000
attribute [local instance] mU hZ cvZ
attribute [local go_sem high] zG zF zH zV zN yu zD zl zn zt zi zu y9 zK yE zJ
theorem bM (o l m:Int)(dict t:Bs)(size:Int)(w:World)(hl:dict.length≤9223372036854775807)(f3:t.length≤1500000)(l8: -1000000≤size)(l9:size≤1000000):
 Calls prog 76 #[.agg #[(o:Int),l,m],sv dict,sv t,size] w (rS w (yA (mgD o l m dict t size))):=by
 obtain⟨i,hi,f5,f6,f7⟩:=info_parts wH;by_cases b6:fits o l m dict∧(zX t).isSome=true
 case neg=>
  have Z:=fun w=>lL o l m dict t w b6 hl f3;have G:mgD o l m dict t size=none:=by
   unfold mgD;split
   ·rename_i O
    cases hb:zX t with
    |none=>rfl
    |some f=>exact absurd ⟨O.1,by rw[hb];rfl⟩ b6
   ·rfl
  rw[G];unfold yA;clear G b6;go_enter func76,ntmps76;have P:Bk (w.alloc (.cells #[(o:Int),l,m] 24)) w.heap.size 24 #[(o:Int),l,m]:=tBk;have g0:Below w.heap.size w (w.alloc (.cells #[(o:Int),l,m] 24)):=zy;go_upto_region 1 with(fail)
  generalize w.alloc (.cells #[(o:Int),l,m] 24)=w0 at*;have f8:=P.cell;have l':=P.lt;go_wp2_with fail;refine(Z _).mono ?_;rintro e w1 ⟨rfl,f9⟩;have g1:=g0.trans (f9.mono oo);have m0:=g1.size;go_wp2;exact bodyPost_ret (v:=.tuple #[sv [],.bool false]) (by simp [results,results76,go_sem]) rfl ⟨rfl,zy⟩
 obtain⟨O,a0⟩:=b6;obtain⟨f,hB⟩:=Option.isSome_iff_exists.1 a0;have Z:=fun w=>nD o l m dict t f w O hB f3;unfold UQ at Z;have hk:=xN O;have f':=xU hB;have m1:=(xI hB).2;have HN:Hid (¬(1≤size∧size≤64)→mgD o l m dict t size=none):=fun h=>(by unfold mgD;rw[if_neg (fun hh=>h hh.2)]);have c0:Hid (1≤size∧size≤64→mgD o l m dict t size=(qL (zA o l m dict) size ([],[]) f).bind fun a=>mcO a.1):=fun h=>(by unfold mgD;rw[if_pos ⟨O,h.1,h.2⟩,hB];rfl);obtain⟨R,hR⟩:∃R,mgD o l m dict t size=R:=⟨_,rfl⟩;rw[hR] at HN c0⊢;clear hR O hB a0;have j4:=hid f';have HK:=hid hk;have cD:Hid (∀A cap b wr,Sl wr A (zA o l m dict).ps.length cap 2 (psV (zA o l m dict).ps)→b.ok=true→Calls prog 95 #[knV (zA o l m dict) A cap,bkV b] wr (rS wr (xw (b.dat (zA o l m dict))))):=fun A cap b wr h hb=>nG _ A cap b wr hk h (by have:=qO hb;omega);have cM:Hid (∀A cap (x:Bs) wr,Sl wr A (zA o l m dict).ps.length cap 2 (psV (zA o l m dict).ps)→x.length≤2000→Calls prog 110 #[knV (zA o l m dict) A cap,sv x] wr (rT wr (bkV (xY (zA o l m dict) 0 x)))):=fun A cap x wr h hx=>ni _ A cap x wr hk h oo;clear f' hk;generalize zA o l m dict=K at*;go_enter func76,ntmps76;have P:Bk (w.alloc (.cells #[(o:Int),l,m] 24)) w.heap.size 24 #[(o:Int),l,m]:=tBk;have g0:Below w.heap.size w (w.alloc (.cells #[(o:Int),l,m] 24)):=zy;go_upto_region 1 with(fail)
 generalize w.alloc (.cells #[(o:Int),l,m] 24)=w0 at*;have f8:=P.cell;have m3:=P.lt;go_wp2_with fail;refine(Z _).mono ?_;rintro e w1 ⟨C,D,A2,c2,rfl,o1,p1,b1⟩;have z1:=b1.size;have g1:=g0.trans (b1.mono oo);have c1:=Bk.new w1 (knC K C D) 94;have o2:=o1.alloc (.cells (knC K C D) 94);have p2:=p1.alloc (.cells (knC K C D) 94);have q:=g1.alloc oo (.cells (knC K C D) 94);clear b1 f8 P g0 o1 p1 g1 Z;go_upto_region 2 with(fail)
 unfold knC at c1 o2 p2 q;generalize w1.alloc (.cells #[(K.o:Int),(K.l:Int),(K.m:Int),.slice C K.ps.length D,(K.base:Int),(K.last:Int)] 94)=W at*;generalize w1.heap.size=q1 at*;have j9:=c1.lt;have m5:=q.size;by_cases Q:1≤size∧size≤64
 case neg=>
  have G:=HN.out Q;subst G;have d3:=decide_eq_false Q;clear HN c0 Q cD cM;go_wp2_with fail;refine(xB _ _).mono ?_;rintro e w' ⟨rfl,rfl⟩;rw[d3];go_wp2;exact bodyPost_ret (v:=.tuple #[sv [],.bool false]) (by simp [results,results76,go_sem]) rfl ⟨rfl,q⟩
 have d3:=decide_eq_true Q;have G:=c0.out Q;obtain⟨m6,j'⟩:=Q;have HR:Hid (∀a,qL K size ([],[]) f=some a→R=mcO a.1):=fun a ha=>(by rw[G,ha];rfl);have g9:Hid (qL K size ([],[]) f=none→R=none):=fun ha=>(by rw[G,ha];rfl);have s2:=Sl.own o2;have t2:=Sl.own p2;have m7:=t2.1;have m8:=t2.2.1;have h0:Hid (∀wr,Below W.heap.size W wr→Sl wr C K.ps.length D 2 (psV K.ps)):=fun wr h=>s2.below h;have k0:Hid (∀wr,Below W.heap.size W wr→Sl wr A2 f.length c2 4 (zY f)):=fun wr h=>t2.below h;have h3:Hid (∀wr,Below W.heap.size W wr→Below w.heap.size w wr):=fun wr h=>q.trans (h.mono oo);have h4:Hid (∀wr,Below W.heap.size W wr→Bk wr q1 94 #[(K.o:Int),(K.l:Int),(K.m:Int),.slice C K.ps.length D,(K.base:Int),(K.last:Int)]):=fun wr h=>c1.below h j9;have o0:W.ownsRow W.heap.size 122 4 (.slice none ([]:List Blk).length 0) ([]:List Blk).length (zY []):=⟨by simp [zY],.inl ⟨rfl,rfl⟩⟩;have g3:Below W.heap.size W W:=Below.refl _ _;clear G HN c0 s2 t2 c1 o2 p2 q;go_wp2_with fail;refine(xB _ _).mono ?_;rintro e w' ⟨rfl,rfl⟩;rw[d3];go_wp2;go_loopw [13,14,37] (fun a b c wr=>∃(k:Nat) (u:List Blk) (n y:Bs) (Ao:Option Addr) (L:Nat),a= .slice Ao u.length L∧b= .string ⟨n.toArray⟩∧c= .int .i64 (k:Int)∧k≤f.length∧n.length≤64∧Hid (qL K size ([],[]) (f.take k)=some (u,n))∧Hid (lN K size (u,n) k y)∧wr.ownsRow W.heap.size 122 4 (.slice Ao u.length L) u.length (zY u)∧Below W.heap.size W wr) (fun _ _ c _=>f.length - (intOf c).toNat)
 case atStart=>exact⟨0,[],[],[],none,0,rfl,rfl,rfl,by omega,by simp,rfl,lN.zero K size,o0,g3⟩
 case round=>
  obtain⟨k,u,n,y,Ao,L,rfl,rfl,rfl,hk,m9,HM,M,ow,g⟩:=hrel;clear o0 g3;have hz:=g.size;have k2:u.length≤k:=M.out.len;by_cases a3:k<f.length
  ·have k3:(k:Int)<f.length:=oo
   have h7:=k0.out wr g;obtain⟨gb,m',rfl,hg,hc⟩:=Sl.jf h7 a3;have a5:=qp f k a3;have h8:=hc 0 _ a5.1;have h9:=hc 1 _ a5.2.1;have h':=hc 2 _ a5.2.2.1;have c3:=hc 3 _ a5.2.2.2;have a6:=j4.out f[k] (List.getElem_mem a3);have a0:=Blk.vT a6;have d6:Hid (∀d,f[k].dat K=some d→qL K size ([],[]) (f.take (k+1))=some (uw K size (u,n) f[k] d)):=fun d hd=>bQ a3 HM.out hd;have d7:Hid (f[k].dat K=none→R=none):=fun hd=>g9.out (Nu a3 hd);have d8:Hid (∀d,f[k].dat K=some d→lN K size (uw K size (u,n) f[k] d) (k+1) (y++d)):=fun d hd=>M.out.step HK.out j' a6 hd;have i1:Hid (∀wr,Below W.heap.size W wr→Calls prog 95 #[knV K C D,bkV f[k]] wr (rS wr (xw (f[k].dat K)))):=fun wr h=>cD.out _ _ f[k] wr (h0.out wr h) a6;have i2:Hid (∀d9,f[k].dat K=some d9→(d9.length:Int)=f[k].size):=fun d9 h=>tY a6 h;generalize f[k]=b at*;clear hc a5 h7 HM a6;obtain⟨p,r,j,T⟩:=b;simp only[Nat.add_zero] at h8 h9 h' c3 a0;obtain⟨f9,n1,n2,n3⟩:=a0;have hN:=Bk.new wr (bkC ⟨p,r,j,T⟩) 122;have i3:=ow.alloc (.cells (bkC ⟨p,r,j,T⟩) 122);have a8:=g.alloc oo (.cells (bkC ⟨p,r,j,T⟩) 122);go_upto_region 9 with(fail)
   generalize wr.alloc (.cells _ 122)=V at*;have k4:=hN.lt;have k5:=hN.cell;have zz:=a8.size;have n5:W.heap.size≤wr.heap.size:=hz;generalize wr.heap.size=n6 at*;have i4:=h4.out _ a8;have k6:=i4.cell;clear ow g h8 h9 h' c3;go_wp2_with fail;refine(i1.out _ a8).mono ?_;rintro e w5 ⟨rfl,b5⟩;have z5:=b5.size;have c5:=hN.below b5 k4;have E:=zf i3 b5;have F:=a8.trans (b5.mono oo);have c6:=h4.out _ F;have d':=c6.cell;have e0:=c5.cell;clear k5 hN k6 i4 i3 a8 b5 i1
   cases hD:(⟨p,r,j,T⟩:Blk).dat K with
   |none=>
    have k7:=d7.out hD;subst k7;have gw:=h3.out _ F;unfold xw;simp only[Option.getD_none,Option.isSome_none];clear d7 d6 d8 HR g9;go_wp2;exact bodyPost_ret (v:=.tuple #[sv [],.bool false]) (by simp [results,results76,go_sem]) rfl ⟨rfl,gw⟩
   |some d=>
    have k8:(d.length:Int)=j:=i2.out d hD;have S:=hid (d6.out d hD);have X:=hid (d8.out d hD);unfold xw;simp only[Option.getD_some,Option.isSome_some];clear d7 d6 d8 i2 hD;have i6:d.length≤64:=oo;clear k8;rcases List.eq_nil_or_concat u with rfl|⟨mz,z,i7⟩
    ·
     have B:Hid (uw K size (([]:List Blk),n) ⟨p,r,j,T⟩ d=([⟨p,r,j,T⟩],d)):=(by show _=_;unfold uw;rw[if_neg (fun h=>h.1 rfl)];rfl);have a':=hid (S.out.trans (congrArg some B.out));have b0:Hid (lN K size ([⟨p,r,j,T⟩],d) (k+1) (y++d)):=(by have:=X.out;rw[B.out] at this;exact this);have e1:(0:Nat)+1≤maxLen:=(by unfold maxLen;omega);have e2:((0:Nat)+1)*40≤140737488355328:=oo;clear S X B M;go_wp2_with(at_builtin;go_must(refine zT _ rfl _ _ 97 rfl (W.heap.size) 122 i _ 4 40 underlying97 hi f5 f6 f7 rfl (by omega) _ _ _ rfl (E.alloc _) _ 1 1 [.int .i64 p,.bool r,.int .i64 j,.string ⟨T.toArray⟩] rfl (Sl.newAt w5 #[(p:Int),.bool r,j,T] _ 1 4 (by first|rfl|simp) (by simp) (by omega)) (by simp [Value.oneCell']) e1 e2 ?_ ?_));try(case refine_1=>first|omega|(simp<;>omega;done))
     intro A6 b2 w6 o6 b4 _;have g6:=yD F b4 (by first|omega|(simp;omega)) (fun k hk=>by have:=(E.lt k hk).1;omega);have e5:w6.ownsRow W.heap.size 122 4 (.slice A6 [(⟨p,r,j,T⟩:Blk)].length b2) [(⟨p,r,j,T⟩:Blk)].length (zY [(⟨p,r,j,T⟩:Blk)]):=o6;clear o6 b4 E F d' e0 c5 c6;go_wp2;go_roundw
     case rel=>exact⟨k+1,[(⟨p,r,j,T⟩:Blk)],d,y++d,A6,b2,rfl,rfl,by go_num,oo,i6,a',b0,e5,g6⟩
     case measure=>simp [intOf];omega
    ·
     rw[List.concat_eq_append] at i7;subst i7;have e6:mz++[z]≠[]:=(by simp);simp only[List.length_append,List.length_singleton] at E k2⊢;by_cases hj:(n.length:Int)+d.length≤size
     ·have B:Hid (uw K size (mz++[z],n) ⟨p,r,j,T⟩ d=(mz++[xY K 0 (n++d)],n++d)):=by show _=_;unfold uw;rw[if_pos ⟨e6,hj⟩,List.dropLast_concat]
      have a':=hid (S.out.trans (congrArg some B.out));have b0:Hid (lN K size (mz++[xY K 0 (n++d)],n++d) (k+1) (y++d)):=(by have:=X.out;rw[B.out] at this;exact this);have i9:Hid (∀wr,Below W.heap.size W wr→Calls prog 110 #[knV K C D,sv (n++d)] wr (rT wr (bkV (xY K 0 (n++d))))):=fun wr h=>cM.out _ _ (n++d) wr (h0.out wr h) (by rw[List.length_append];omega);have e7:=TZ mz z (xY K 0 (n++d));have k9:(n++d).length≤64:=(by rw[List.length_append];omega);generalize xY K 0 (n++d)=c at*;obtain⟨H,s,I,U⟩:=c;simp only at e7;clear S X B M e6;have n8:¬9223372036854775807<n.length+d.length:=oo;go_wp2_with fail;refine(i9.out _ F).mono ?_;rintro e Y ⟨rfl,b8⟩;have z8:=b8.size;have J:=zf E b8;have g8:=F.trans (b8.mono oo);obtain⟨q,o3,k'⟩:∃g cap,Value.slice Ao (mz.length+1) L= .slice (some ⟨g,0,none⟩) (mz.length+1) cap:=by
       rcases J.2 with⟨h1,h2⟩|⟨g,cap,cur,h1,_⟩
       ·omega
       ·exact⟨g,cap,h1⟩
      injection k' with hA2 _ hc2
      subst hA2 hc2;have q8:=(J.lt q rfl);have l0:=fun l1=>J.frozenAt l1;have G0:∃v,Y.cell? ⟨q,mz.length*4,none⟩=some v:=⟨_,(J.cellAt (mz.length*4) (by omega)).trans (List.getElem?_eq_getElem (by rw[wC];first|omega|(simp;done)|(simp;omega)))⟩;have G1:∃v,Y.cell? ⟨q,mz.length*4+1,none⟩=some v:=⟨_,(J.cellAt (mz.length*4+1) (by omega)).trans (List.getElem?_eq_getElem (by rw[wC];first|omega|(simp;done)|(simp;omega)))⟩;have G2:∃v,Y.cell? ⟨q,mz.length*4+2,none⟩=some v:=⟨_,(J.cellAt (mz.length*4+2) (by omega)).trans (List.getElem?_eq_getElem (by rw[wC];first|omega|(simp;done)|(simp;omega)))⟩;have G3:∃v,Y.cell? ⟨q,mz.length*4+3,none⟩=some v:=⟨_,(J.cellAt (mz.length*4+3) (by omega)).trans (List.getElem?_eq_getElem (by rw[wC];first|omega|(simp;done)|(simp;omega)))⟩;obtain⟨v0,G0⟩:=G0;obtain⟨v1,G1⟩:=G1;obtain⟨v2,G2⟩:=G2;obtain⟨v3,G3⟩:=G3;have c9:=((((J.stored (mz.length*4+0) (.int .i64 H)).1.stored (mz.length*4+1) (.bool s)).1.stored (mz.length*4+2) (.int .i64 I)).1.stored (mz.length*4+3) (.string ⟨U.toArray⟩)).1;rw[e7] at c9;have i':Below W.heap.size W ((((Y.setCell ⟨q,mz.length*4+0,none⟩ (.int .i64 H)).setCell ⟨q,mz.length*4+1,none⟩ (.bool s)).setCell ⟨q,mz.length*4+2,none⟩ (.int .i64 I)).setCell ⟨q,mz.length*4+3,none⟩ (.string ⟨U.toArray⟩)):=zy;simp only[Nat.add_zero] at c9 i';clear E F b8 i9 e7 d' e0 c5 c6;go_upto_region 18 with(fail)
      generalize(((Y.setCell ⟨q,mz.length*4,none⟩ (.int .i64 H)).setCell ⟨q,mz.length*4+1,none⟩ (.bool s)).setCell ⟨q,mz.length*4+2,none⟩ (.int .i64 I)).setCell ⟨q,mz.length*4+3,none⟩ (.string ⟨U.toArray⟩)=w9 at*;have N:(mz++[(⟨H,s,I,U⟩:Blk)]).length=mz.length+1:=(by simp);have f1:=hid N;have l3:w9.ownsRow W.heap.size 122 4 (.slice (some ⟨q,0,none⟩) (mz++[(⟨H,s,I,U⟩:Blk)]).length L) (mz++[(⟨H,s,I,U⟩:Blk)]).length (zY (mz++[(⟨H,s,I,U⟩:Blk)])):=(by rw[N];exact c9);clear l0 G0 G1 G2 G3 c9 N;go_wp2;go_roundw
      case rel=>exact⟨k+1,mz++[(⟨H,s,I,U⟩:Blk)],n++d,y++d,_,L,(by rw[f1.out]),rfl,by go_num,by omega,k9,a',b0,l3,i'⟩
      case measure=>simp [intOf];omega
     ·have B:Hid (uw K size (mz++[z],n) ⟨p,r,j,T⟩ d=(mz++[z]++[⟨p,r,j,T⟩],d)):=by show _=_;unfold uw;rw[if_neg (fun h=>hj h.2)]
      have a':=hid (S.out.trans (congrArg some B.out));have b0:Hid (lN K size (mz++[z]++[⟨p,r,j,T⟩],d) (k+1) (y++d)):=(by have:=X.out;rw[B.out] at this;exact this);have e1:mz.length+1+1≤maxLen:=(by unfold maxLen;omega);have e2:(mz.length+1+1)*40≤140737488355328:=oo;clear S X B M e6;go_wp2_with(at_builtin;go_must(refine zT _ rfl _ _ 97 rfl (W.heap.size) 122 i _ 4 40 underlying97 hi f5 f6 f7 rfl (by omega) _ _ _ rfl (E.alloc _) _ 1 1 [.int .i64 p,.bool r,.int .i64 j,.string ⟨T.toArray⟩] rfl (Sl.newAt w5 #[(p:Int),.bool r,j,T] _ 1 4 (by first|rfl|simp) (by simp) (by omega)) (by simp [Value.oneCell']) e1 e2 ?_ ?_));try(case refine_1=>first|omega|(simp<;>omega;done))
      intro A6 b2 w6 o6 b4 _;have g6:=yD F b4 (by first|omega|(simp;omega)) (fun k hk=>by have:=(E.lt k hk).1;omega);have N:(mz++[z]++[(⟨p,r,j,T⟩:Blk)]).length=mz.length+1+1:=(by simp);have f1:=hid N;have e5:w6.ownsRow W.heap.size 122 4 (.slice A6 (mz++[z]++[(⟨p,r,j,T⟩:Blk)]).length b2) (mz++[z]++[(⟨p,r,j,T⟩:Blk)]).length (zY (mz++[z]++[(⟨p,r,j,T⟩:Blk)])):=(by rw[N,xW];exact o6);clear o6 b4 E F d' e0 c5 c6 N;go_wp2;go_roundw
      case rel=>exact⟨k+1,mz++[z]++[(⟨p,r,j,T⟩:Blk)],d,y++d,A6,b2,(by rw[f1.out]),rfl,by go_num,by omega,i6,a',b0,e5,g6⟩
      case measure=>simp [intOf];omega
  ·have k3:¬(k:Int)<f.length:=oo
   have HE:=HR.out (u,n) (by rw[←HM.out,List.take_of_length_le (by omega)]);have l4:=Sl.own ow;have cE:=oG u Ao L wr l4 M.out.ok oo;have gw:=h3.out wr g;have zw:=gw.size;rw[←HE] at cE;have p0:Hid (R=mcO u):=HE;clear HE M HM;go_wp2_with fail;refine cE.mono ?_;rintro e w7 ⟨rfl,b7⟩;have g7:=gw.trans (b7.mono oo);unfold yA;go_wp2;exact bodyPost_ret (v:=.tuple #[sv (R.getD []),.bool R.isSome]) (by simp [results,results76,go_sem]) rfl ⟨rfl,g7⟩
