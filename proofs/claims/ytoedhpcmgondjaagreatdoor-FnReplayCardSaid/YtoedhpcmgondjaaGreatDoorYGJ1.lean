import Derived.Deep.Cut
import Derived.Test.YtoedhpcmgondjaaGreatDoorYGS4
set_option linter.all false
set_option maxHeartbeats 8000000
namespace Go.Proofs.YtoedhpcmgondjaaGreatDoor
open Go.Lib(hid)
open Go.RowKit Go.Proofs.Tryz
set_option maxRecDepth 100000
attribute [local instance] mU hZ
attribute [local go_sem high] zG zF zH zV zN yu zD zl zn zt zi zu y9 zK yE zJ
theorem vk.lm {o l m:Int}(h:vk o l m):0≤l∧l≤16∧0≤m∧m≤16:=by unfold vk at h;omega
theorem xq (o l m:Int)(w:World)(f:vk o l m):
 Calls prog 159 #[.agg #[o,l,m]] w (rT w (.int .i64 (pow2 l))):=by
 obtain⟨h0,h1,h2,k⟩:=f.lm;have h:=qE l h0 h1;have n:decide (vk o l m)=true:=decide_eq_true f;clear f;go_enter func159,ntmps159;go_wp2_with fail;refine(xX _ _ _ _).mono ?_;rintro e g ⟨rfl,d⟩;have i:=d.size;simp only[World.size_alloc] at i;have p:=zU (yF _ _ _) d (by simp);have q:w.heap.size<g.heap.size:=oo;have j:Below w.heap.size w g:=((Below.refl _ _).alloc (Nat.le_refl _) _).trans (d.mono (by simp));clear d;go_wp2;go_ret;exact⟨by first|rfl|exact yZ h,j⟩
theorem wE (o l m:Int)(w:World)(f:vk o l m):
 Calls prog 157 #[.agg #[o,l,m]] w (rT w (.int .i64 (pow2 l+1))):=by
 obtain⟨h0,h1,h2,n⟩:=f.lm;have h:=qE l h0 h1;have i:=xu l h0 h1;obtain⟨p,q⟩:=i;have r:decide (vk o l m)=true:=decide_eq_true f;clear f;go_enter func157,ntmps157;go_wp2_with fail;refine(xX _ _ _ _).mono ?_;rintro e g ⟨rfl,d⟩;have j:=d.size;simp only[World.size_alloc] at j;have s:=zU (yF _ _ _) d (by simp);have t:w.heap.size<g.heap.size:=oo;have k:Below w.heap.size w g:=((Below.refl _ _).alloc (Nat.le_refl _) _).trans (d.mono (by simp));clear d;go_wp2;go_ret;exact⟨by first|rfl|exact yZ (by rw[h]),k⟩
theorem rF (o l m:Int)(w:World)(f:vk o l m):
 Calls prog 156 #[.agg #[o,l,m]] w (rT w (.int .i64 (pow2 m - 1))):=by
 obtain⟨h0,h1,h2,g⟩:=f.lm;have i:=qE m h2 g;have j:=xu m h2 g;obtain⟨p,q⟩:=j;have r:decide (vk o l m)=true:=decide_eq_true f;clear f;go_enter func156,ntmps156;go_wp2_with fail;refine(xX _ _ _ _).mono ?_;rintro e h ⟨rfl,d⟩;have k:=d.size;simp only[World.size_alloc] at k;have s:=zU (yF _ _ _) d (by simp);have t:w.heap.size<h.heap.size:=oo;have n:Below w.heap.size w h:=((Below.refl _ _).alloc (Nat.le_refl _) _).trans (d.mono (by simp));clear d;go_wp2;go_ret;exact⟨by first|rfl|exact yZ (by rw[i]),n⟩
theorem xM (K:Kn)(A:Option Addr)(cap:Nat)(w:World)(d:vk K.o K.l K.m)(q:K.ps.length≤100000):
 Calls prog 185 #[knV K A cap] w (rT w (.int .i64 K.nx)):=by
 have h:=d.lm;obtain⟨i,j,r,s⟩:=h;have k:=xu K.l i j;obtain⟨t,f⟩:=k;have n:Hid (K.nx=pow2 K.l+1+1+K.ps.length):=(by show K.nx=_;unfold Kn.nx;omega);go_enter func185,ntmps185;go_wp2_with fail;have u:=zM (yF w (knC K A cap) 94) (by simp);refine wp_region_quiet_below kr kr ?_;repeat(go_big_quiet_step ((go_at_call 157;exact Calls.regrown_of (wE _ _ _ _ d))))
 refine wpQuiet_nil ?_;intro p g;have f:Below _ _ p:=zh g;clear g;go_wp2;go_ret;exact⟨yZ n.out.symm,((Below.refl _ _).alloc (Nat.le_refl _) _).trans (f.mono (by simp))⟩
theorem uU (K:Kn)(A:Option Addr)(cap:Nat)(w:World)(hk:K.ok):
 Calls prog 162 #[knV K A cap] w (rT w (.bool K.gr)):=by
 have f:=hk.st;have k:K.ps.length≤100000:=(by have:=hk.bd;omega);have h1: -1≤K.last:=by
  have:=hk.bd;rcases hk.last with h|h
  ·omega
  ·unfold codeOk at h;omega
 by_cases h0:K.last= -1
 ·have g:Hid (K.gr=false):=by
   show K.gr=false;unfold Kn.gr;simp;omega
  have l:(K.last != (-1:Int))=false:=(by simpa using h0);have n:(K.last==(-1:Int))=true:=(by simpa using h0);clear h0;go_enter func162,ntmps162;go_wp2_with fail;have o:=zM (yF w (knC K A cap) 94) (by simp);refine wp_region_quiet_below kr kr ?_;repeat(go_big_quiet_step ((first|(go_at_call 185;exact Calls.regrown_of (xM _ _ _ _ f k))|(go_at_call 156;exact Calls.regrown_of (rF _ _ _ _ f)))))
  refine wpQuiet_nil ?_;intro i d;have j:Below _ _ i:=zh d;clear d;go_wp2;go_ret;exact⟨zS g.out.symm,((Below.refl _ _).alloc (Nat.le_refl _) _).trans (j.mono (by simp))⟩
 ·have g:Hid (decide (K.nx≤pow2 K.m - 1)=K.gr):=by
   show decide (K.nx≤pow2 K.m - 1)=K.gr;unfold Kn.gr Kn.top;rw[Bool.eq_iff_iff];simp;omega
  have l:(K.last != (-1:Int))=true:=(by simpa using h0);have n:(K.last==(-1:Int))=false:=(by simpa using h0);clear h0;go_enter func162,ntmps162;go_wp2_with fail;have o:=zM (yF w (knC K A cap) 94) (by simp);refine wp_region_quiet_below kr kr ?_;repeat(go_big_quiet_step ((first|(go_at_call 185;exact Calls.regrown_of (xM _ _ _ _ f k))|(go_at_call 156;exact Calls.regrown_of (rF _ _ _ _ f)))))
  refine wpQuiet_nil ?_;intro i d;have j:Below _ _ i:=zh d;clear d;go_wp2;go_ret;exact⟨zS g.out,((Below.refl _ _).alloc (Nat.le_refl _) _).trans (j.mono (by simp))⟩
theorem dR (K:Kn)(A:Option Addr)(cap:Nat)(w:World)(hk:K.ok):
 Calls prog 245 #[knV K A cap] w (rT w (.int .i64 K.great)):=by
 have o:=hk.st;have p:K.ps.length≤100000:=(by have:=hk.bd;omega);have v: -1000≤K.nx:=(by unfold Kn.nx;have:=xu K.l (hk.lm.1) (hk.lm.2.1);omega);have x:K.nx≤1000000:=(by unfold Kn.nx;have:=xu K.l (hk.lm.1) (hk.lm.2.1);have:=hk.bd;omega);go_enter func245,ntmps245;go_wp2_with fail;refine(uU _ _ _ _ hk).mono ?_;rintro e q ⟨rfl,g⟩;have r:=g.size;simp only[World.size_alloc] at r;have h:=zU (yF _ _ _) g (by simp);have i:w.heap.size<q.heap.size:=oo;have j:Below w.heap.size w q:=((Below.refl _ _).alloc (Nat.le_refl _) _).trans (g.mono (by simp));clear g;by_cases k:K.gr=true
 ·have m:Hid (K.nx=K.great):=by show K.nx=K.great;unfold Kn.great;rw[if_pos k]
  go_wp2_with fail;refine(xM _ _ _ _ o p).mono ?_;rintro e f ⟨rfl,d⟩;have s:=d.size;have t:=zU h d i;have u:w.heap.size<f.heap.size:=oo;have n:Below w.heap.size w f:=j.trans (d.mono oo);clear d h i j;go_wp2;go_ret;exact⟨yZ m.out,n⟩
 ·have y:K.gr=false:=by simpa using k
  have m:Hid (K.nx - 1=K.great):=(by show K.nx - 1=K.great;unfold Kn.great;rw[if_neg k]);go_wp2_with fail;refine(xM _ _ _ _ o p).mono ?_;rintro e f ⟨rfl,d⟩;have s:=d.size;have t:=zU h d i;have u:w.heap.size<f.heap.size:=oo;have n:Below w.heap.size w f:=j.trans (d.mono oo);clear d h i j;go_wp2;go_ret;exact⟨yZ m.out,n⟩
theorem Rh (K:Kn)(A:Option Addr)(cap:Nat)(w:World)(hk:K.ok):
 Calls prog 227 #[knV K A cap] w (rT w (.bool (decide (K.top<K.nx∧K.base<K.ps.length)))):=by
 have f:=hk.st;have k:K.ps.length≤100000:=(by have:=hk.bd;omega);by_cases h0:pow2 K.m - 1<K.nx
 ·have l:decide (pow2 K.m - 1<K.nx)=true:=decide_eq_true h0
  have g:Hid (decide (K.base<(K.ps.length:Int))=decide (K.top<K.nx∧K.base<K.ps.length)):=by
   show _=_;unfold Kn.top;rw[Bool.eq_iff_iff];simp;exact fun _=>h0
  clear h0;go_enter func227,ntmps227;go_wp2_with fail;have n:=zM (yF w (knC K A cap) 94) (by simp);refine wp_region_quiet_below kr kr ?_;repeat(go_big_quiet_step ((first|(go_at_call 185;exact Calls.regrown_of (xM _ _ _ _ f k))|(go_at_call 156;exact Calls.regrown_of (rF _ _ _ _ f)))))
  refine wpQuiet_nil ?_;intro i d;have j:Below _ _ i:=zh d;clear d;go_wp2;go_ret;exact⟨zS g.out,((Below.refl _ _).alloc (Nat.le_refl _) _).trans (j.mono (by simp))⟩
 ·have l:decide (pow2 K.m - 1<K.nx)=false:=decide_eq_false h0
  have g:Hid (decide (K.top<K.nx∧K.base<K.ps.length)=false):=by
   show _=_;unfold Kn.top;simp only[decide_eq_false_iff_not];exact fun h=>h0 h.1
  clear h0;go_enter func227,ntmps227;go_wp2_with fail;have n:=zM (yF w (knC K A cap) 94) (by simp);refine wp_region_quiet_below kr kr ?_;repeat(go_big_quiet_step ((first|(go_at_call 185;exact Calls.regrown_of (xM _ _ _ _ f k))|(go_at_call 156;exact Calls.regrown_of (rF _ _ _ _ f)))))
  refine wpQuiet_nil ?_;intro i d;have j:Below _ _ i:=zh d;clear d;go_wp2;go_ret;exact⟨zS g.out.symm,((Below.refl _ _).alloc (Nat.le_refl _) _).trans (j.mono (by simp))⟩
theorem ik (K:Kn)(A:Option Addr)(cap:Nat)(c:Int)(w:World)(hk:K.ok):
 Calls prog 215 #[knV K A cap,c] w (rT w (.bool (decide (0≤c∧c≤K.great)))):=by
 by_cases h0:0≤c
 ·have f:decide (0≤c)=true:=decide_eq_true h0
  have d:Hid (decide (c≤K.great)=decide (0≤c∧c≤K.great)):=by
   show _=_;rw[Bool.eq_iff_iff];simp;exact fun _=>h0
  go_enter func215,ntmps215;go_wp2_with fail;refine(dR _ _ _ _ hk).mono ?_;rintro e i ⟨rfl,g⟩;go_wp2;go_ret;exact⟨zS d.out,((Below.refl _ _).alloc (Nat.le_refl _) _).trans (g.mono (by simp))⟩
 ·have f:decide (0≤c)=false:=decide_eq_false h0
  have d:Hid (decide (0≤c∧c≤K.great)=false):=by
   show _=_;simp only[decide_eq_false_iff_not];exact fun h=>h0 h.1
  go_enter func215,ntmps215;go_wp2;go_ret;exact⟨by first|rfl|exact zS d.out.symm,zy⟩
abbrev trC (K:Kn)(A An Ap:Option Addr)(cap m cn cp:Nat):Array Value:=#[K.o,K.l,K.m,.slice A K.ps.length cap,K.base,K.last,.slice An m cn,.slice Ap K.ps.length cp]
structure y5 (w : World) (B b : Nat) (K : Kn) (A An Ap : Option Addr) (cap cn cp : Nat) : Prop where
 bB : B ≤ b
 box : Bk w b 180 (trC K A An Ap cap K.tr.nds.length cn cp)
 prs : w.ownsRow B 173 2 (.slice A K.ps.length cap) K.ps.length (psV K.ps)
 nds : w.ownsRow B 195 6 (.slice An K.tr.nds.length cn) K.tr.nds.length (ndC K.tr.nds K.tr.nds.length)
 nos : w.ownsRow B 3 1 (.slice Ap K.ps.length cp) K.ps.length (K.tr.prs.map ivn)
section
variable {w w' : World} {B b : Nat} {K : Kn} {A An Ap : Option Addr} {cap cn cp : Nat}
theorem y5.keep (h:y5 w B b K A An Ap cap cn cp)(d:Below w.heap.size w w'):y5 w' B b K A An Ap cap cn cp:=
 ⟨h.bB,h.box.below d h.box.lt,zf h.prs d,zf h.nds d,zf h.nos d⟩
theorem y5.alloc (h:y5 w B b K A An Ap cap cn cp)(o:Obj):y5 (w.alloc o) B b K A An Ap cap cn cp:=h.keep ((Below.refl _ _).alloc (Nat.le_refl _) o)
end
structure Kn.fine (K : Kn) : Prop where
 st : vk K.o K.l K.m
 pairs : YR K.cl K.ps
 len : K.ps.length ≤ 1020
theorem Kn.ok.fine {K:Kn}(h:K.ok):K.fine:=⟨h.st,h.pairs,h.bd.2.2.2.1⟩
theorem Kn.fine.cl {K:Kn}(h:K.fine):2≤K.cl∧K.cl≤256:=by
 obtain⟨h1,h2,f,g,i⟩:=h.st;unfold Kn.cl pow2;have d:K.l=1∨K.l=2∨K.l=3∨K.l=4∨K.l=5∨K.l=6∨K.l=7∨K.l=8:=oo;rcases d with e|e|e|e|e|e|e|e<;>rw[e]<;>decide
theorem Kn.fine.tr {K:Kn}(h:K.fine):rJ K.cl K.ps K.tr:=Pj (by have:=h.cl;omega) (by have:=h.cl;omega) h.pairs
theorem Ku {cl:Int}(h0:0≤cl)(ps:List Pr):(qF cl ps).nds.length≤cl.toNat+ps.length:=by
 induction ps using xx with
 |h0=>simp [qF,Tr.lits]
 |h1 ps p d=>
  rw[qV];unfold Tr.learn;split
  ·simp;omega
  ·simp;omega
theorem Kn.fine.KI {K:Kn}(h:K.fine):2≤K.tr.nds.length∧K.tr.nds.length≤1300:=by
 have h1:=Ku (show(0:Int)≤K.cl by have:=h.cl;omega) K.ps;have h2:=h.tr.lits;have d:=h.cl;have e:=h.len;have f:(qF K.cl K.ps).nds.length=K.tr.nds.length:=rfl;omega
theorem pX {B b:Nat}{K:Kn}{A An Ap:Option Addr}{cap cn cp:Nat}(c:Int)(w:World)(d:y5 w B b K A An Ap cap cn cp)(hk:K.fine)(k:codeOk K.cl K.ps.length c):
 Calls prog 186 #[.pointer (some ⟨b,0,none⟩),c] w (rT w (ivn (K.tr.xG K.cl c))):=by
 have s:=hk.st;have m:=d.box.cell;have t:=d.box.lt;have G:=hk.len;have y:=hk.cl;have z:=hk.tr.len;have h:=d.nos;have n:K.cl=pow2 K.l:=rfl;by_cases i:K.cl+1<c
 ·have C:c≤K.cl+1+K.ps.length:=by unfold codeOk at k;omega
  have o:(c - K.cl - 2).toNat<K.tr.prs.length:=oo;have r:Hid ((ivn (K.tr.xG K.cl c))=ivn K.tr.prs[(c - K.cl - 2).toNat]):=by
   show _=_;unfold Tr.xG;rw[if_pos i,List.getD_eq_getElem?_getD,List.getElem?_eq_getElem o];rfl
  have u:0<K.ps.length:=oo;obtain⟨g,H,D,I⟩:=h.form u;injection D with e1 e2 e3
  subst e1 e3;have j:=(h.cellAt (c - K.cl - 2).toNat (by omega)).trans (show _=some (ivn K.tr.prs[(c - K.cl - 2).toNat]) by rw[List.getElem?_map,List.getElem?_eq_getElem o];rfl);have v:=(h.lt g rfl).2;generalize K.tr.prs[(c - K.cl - 2).toNat]=q at*;rw[n] at i C j;have x:(c - pow2 K.l - 2).toNat=(c - (pow2 K.l+1)).toNat - 1:=oo;rw[x] at j;have J:c - (pow2 K.l+1) - 1<K.ps.length:=oo;have L:1≤c - (pow2 K.l+1):=oo;have M:c≤100000:=oo;have N:2≤pow2 K.l:=oo;have O:pow2 K.l≤256:=oo;clear x n y k z h u o;go_enter func186,ntmps186;go_wp2_with fail;refine(wE _ _ _ _ s).mono ?_;rintro e E ⟨rfl,f⟩;have P:=zU m f t;have Q:=(f.cell (p:=⟨g,(c - (pow2 K.l+1)).toNat - 1,none⟩) v).trans j;clear m j t v d;go_wp2;go_ret;exact⟨congrArg Ending.returned r.out.symm,f⟩
 ·have F:0≤c:=by unfold codeOk at k;omega
  have r:Hid ((ivn (K.tr.xG K.cl c))=Value.int .i64 c):=by
   show _=_;unfold Tr.xG;rw[if_neg i];show Value.int .i64 ((c.toNat:Nat):Int)=_;rw[Int.toNat_of_nonneg F]
  rw[n] at i;go_enter func186,ntmps186;go_wp2_with fail;refine(wE _ _ _ _ s).mono ?_;rintro e E ⟨rfl,f⟩;clear m d;go_wp2;go_ret;exact⟨congrArg Ending.returned r.out.symm,f⟩
theorem WH {B b:Nat}{K:Kn}{A An Ap:Option Addr}{cap cn cp:Nat}(p:Nat)(c:Int)(w:World)(o:y5 w B b K A An Ap cap cn cp)(hk:K.fine)(J:p<K.tr.nds.length)(M:0≤c)(q:c≤255):
 Calls prog 187 #[.pointer (some ⟨b,0,none⟩),(p:Int),.int .u8 c] w fun e w'=>e= .returned (.int .i64 (K.tr.kC p (UInt8.ofNat c.toNat)))∧w=w':=by
 have hX:=o.box.cell;have N:=hk.KI;have z:=hk.tr.uniq;have O:=hid z;clear z;have r:=o.nds;have C:0<K.tr.nds.length:=oo;obtain⟨g,a1,P,Q⟩:=r.form C;injection P with e1 e2 e3
 subst e1 e3;have s:Hid (∀i k,i<K.tr.nds.length→k<6→w.cell? ⟨g,i*6+k,none⟩=(ndV K.tr.nds K.tr.nds.length i)[k]?):=fun i k R hk=>(r.cellAt (i*6+k) oo).trans (vU _ _ R hk);clear r Q C;obtain⟨d,t⟩:∃x:UInt8,UInt8.ofNat c.toNat=x:=⟨_,rfl⟩;have T:c=(d.toNat:Int):=(by rw[←t,UInt8.toNat_ofNat'];omega);rw[t];clear t;subst T;clear M q;have a2:(p:Int)<K.tr.nds.length:=oo;have q:=s.out p 1 J oo;rw[show(ndV K.tr.nds K.tr.nds.length p)[1]? =some (.int .i64 (yN K.tr.nds p K.tr.nds.length)) from rfl] at q;have U:=hid (Zb.start K.tr.nds p d);obtain⟨a3,a4⟩:=N;clear o;go_enter func187,ntmps187;go_wp2;go_loop [7] (fun a=>∃j:Nat,j≤K.tr.nds.length∧a= .int .i64 (yN K.tr.nds (p:Int) j)∧Hid (Zb K.tr.nds p d j)) (fun a=>(intOf a+1).toNat)
 case atStart=>exact⟨K.tr.nds.length,Nat.le_refl _,rfl,U⟩
 case round=>
  obtain⟨j,u,rfl,D⟩:=hrel;have v:=YD K.tr.nds (p:Int) j;obtain⟨E,F⟩:=v;by_cases l:yN K.tr.nds (p:Int) j= -1
  ·have y:=hid (Oq D.out u l)
   rw[l];clear l E F;go_wp2;go_ret;exact⟨yZ y.out.symm,rfl⟩
  ·obtain⟨n,m⟩:∃n:Nat,yN K.tr.nds (p:Int) j=(n:Int):=⟨(yN K.tr.nds (p:Int) j).toNat,oo⟩
   have G:n<K.tr.nds.length:=oo;have a5:(n:Int)<K.tr.nds.length:=oo;have V:=s.out n 3 G oo;have H:=s.out n 2 G oo;rw[show(ndV K.tr.nds K.tr.nds.length n)[3]? =some (.int .u8 ((K.tr.nds[n]?.getD ⟨0,0,0,0⟩).last.toNat:Int)) from rfl] at V;rw[show(ndV K.tr.nds K.tr.nds.length n)[2]? =some (.int .i64 (nxt K.tr.nds n)) from rfl] at H;have W:Hid (¬(K.tr.nds[n]?.getD ⟨0,0,0,0⟩).last=d→Zb K.tr.nds p d n∧n<j∧nxt K.tr.nds n=yN K.tr.nds (p:Int) n):=fun f=>QE D.out u m f;have X:Hid ((K.tr.nds[n]?.getD ⟨0,0,0,0⟩).last=d→K.tr.kC p d=(n:Int)):=fun f=>ND O.out u m f;rw[m];generalize(K.tr.nds[n]?.getD ⟨0,0,0,0⟩).last=L at*;clear m l E F;by_cases f:L=d
   ·have y:=hid (X.out f)
    have v:(((L.toNat:Int)) != (d.toNat:Int))=false:=(by simp [f]);clear f;go_wp2;go_ret;exact⟨yZ y.out.symm,rfl⟩
   ·obtain⟨h1,h2,I⟩:=W.out f
    have Y:¬L.toNat=d.toNat:=fun h=>f (UInt8.toNat_inj.1 h);have v:(((L.toNat:Int)) != (d.toNat:Int))=true:=(by simp;omega);have Z:=hid h1;have a6:=YD K.tr.nds (p:Int) n;rw[I] at H;clear h1 I f Y;go_wp2;go_round
    case rel=>exact⟨n,oo,rfl,Z⟩
    case measure=>simp [intOf];omega
structure Kept (B : Nat) (S : Nat → Prop) (w w' : World) : Prop where
 os : w'.os = w.os
 tape : w'.tape = w.tape
 output : w'.output = w.output
 size : w.heap.size ≤ w'.heap.size
 block : ∀ k, k < w.heap.size → (k < B ∨ ¬ S k) → w'.heap[k]? = w.heap[k]?
section
variable {B : Nat} {S S' : Nat → Prop} {a w w' c : World}
theorem Kept.of_below (h:Below w.heap.size w w'):Kept B S w w':=⟨h.os,h.tape,h.output,h.size,fun k hk _=>h.block k hk⟩
theorem Kept.refl (B:Nat)(S:Nat→Prop)(w:World):Kept B S w w:=Kept.of_below (Below.refl _ w)
theorem Kept.trans (h:Kept B S a w)(k:Kept B S w c):Kept B S a c:=
 ⟨k.os.trans h.os,k.tape.trans h.tape,k.output.trans h.output,Nat.le_trans h.size k.size,fun i d e=>(k.block i (Nat.lt_of_lt_of_le d h.size) e).trans (h.block i d e)⟩
theorem Kept.mono (h:Kept B S w w')(d:∀g,S g→S' g):Kept B S' w w':=⟨h.os,h.tape,h.output,h.size,fun k hk e=>h.block k hk (e.elim .inl fun f=>.inr fun i=>f (d _ i))⟩
theorem Kept.below (h:Kept B S w w')(d:B≤w.heap.size):Below B w w':=⟨h.os,h.tape,h.output,h.size,fun k hk=>h.block k oo (.inl hk)⟩
theorem Kept.drew (h:Kept B S a w):Kept B S a w.drew:=⟨h.os,h.tape,h.output,h.size,h.block⟩
theorem Kept.drewN (h:Kept B S a w)(n:Nat):Kept B S a (w.drewN n):=⟨h.os,h.tape,h.output,h.size,h.block⟩
theorem Kept.Q5 (h:Kept B S a.drew w):Kept B S a w:=⟨h.os,h.tape,h.output,h.size,h.block⟩
theorem Kept.alloc (h:Kept B S a w)(o:Obj):Kept B S a (w.alloc o):=h.trans (Kept.of_below ((Below.refl _ w).alloc (Nat.le_refl _) o))
theorem Kept.setCell (h:Kept B S a w){p:Addr}(e:B≤p.block∧(S p.block∨a.heap.size≤p.block))(u:Value):Kept B S a (w.setCell p u):=
 ⟨h.os,h.tape,h.output,by simpa [World.setCell] using h.size,fun k hk d=>(Below.heap_setCell _ _ _ _ (by
  rintro rfl;rcases d with d|d
  ·omega
  ·rcases e.2 with h1|h1
   ·exact d h1
   ·omega)).trans (h.block k hk d)⟩
theorem Kept.grown {row:Option Nat}(h:Kept B S a w)(d:w.grownBy w' row)(g:∀k,row=some k→B≤k∧(S k∨a.heap.size≤k)):Kept B S a w':=
 ⟨d.os.trans h.os,d.tape.trans h.tape,d.output.trans h.output,Nat.le_trans h.size d.size,fun k hk f=>(d.block k (Nat.lt_of_lt_of_le hk h.size) (fun e=>by
  have h1:=g k e.symm;rcases f with f|f
  ·omega
  ·rcases h1.2 with h2|h2
   ·exact f h2
   ·omega)).trans (h.block k hk f)⟩
theorem Kept.bk {g:Nat}{t:TypeId}{cs:Array Value}(h:Kept B S w w')(d:Bk w g t cs)(e:g<B∨¬S g):Bk w' g t cs:=(h.block g d.lt e).trans d
theorem Kept.own {d:Nat}{e:TypeId}{s n:Nat}{v:Value}{xs:List Value}(h:Kept B S w w')(f:w.ownsRow d e s v n xs)(i:∀g,v.ownBlock=some g→g<B∨¬S g):w'.ownsRow d e s v n xs:=by
 have j:=f.lt;obtain⟨h1,h2⟩:=f;refine⟨h1,?_⟩;rcases h2 with h2|⟨g,cap,cur,rfl,k,l,rest⟩
 ·exact .inl h2
 ·exact .inr ⟨g,cap,cur,rfl,k,(h.block g (j g rfl).2 (i g rfl)).trans l,rest⟩
end
def ru (b:Nat)(A An Ap:Option Addr)(g:Nat):Prop:=g=b∨A.map (·.block)=some g∨An.map (·.block)=some g∨Ap.map (·.block)=some g
def Ie (w:World)(B b:Nat)(K:Kn)(S:Nat→Prop):Prop:=∃A An Ap cap cn cp,y5 w B b K A An Ap cap cn cp∧∀g,ru b A An Ap g→S g
def kS (B b:Nat)(K:Kn)(S:Nat→Prop)(w:World)(e:Ending)(w':World):Prop:=e= .returned (.tuple #[])∧Ie w' B b K (fun g=>S g∨w.heap.size≤g)∧Kept B S w w'
theorem Wh :(prog.info? 195).map (fun i=>(i.zero,i.size,i.bytes))=some (some (.agg #[.int .i64 0,.int .i64 0,.int .i64 0,.int .u8 0,.int .u8 0,.int .i64 0]),6,40):=by kernel_rfl
theorem lu {w:World}{B:Nat}{e:TypeId}{A:Option Addr}{n cap size:Nat}{cs:List Value}(h:w.ownsRow B e size (.slice A n cap) n cs):∀g,A.map (·.block)=some g→Value.ownBlock (.slice A n cap)=some g:=by
 intro g d;rcases h.2 with⟨f,_⟩|⟨i,j,cur,f,_⟩
 ·injection f with h1;subst h1;cases d
 ·injection f with h1 h2 h3
  subst h1;simp at d;subst d;rfl
theorem wX {A:Option Addr}{n cap:Nat}{g:Nat}(h:Value.ownBlock (.slice A n cap)=some g):A.map (·.block)=some g:=by
 cases A with
 |none=>cases h
 |some a=>injection h with h;simp [←h]
theorem xO {w w':World}{B B':Nat}{e f:TypeId}{s j n k:Nat}{v i:Value}{xs l:List Value}(h:w.ownsRow B e s v n xs)(m:w.ownsRow B' f j i k l)(o:e≠f)(p:w.grownBy w' i.ownBlock):w'.ownsRow B e s v n xs:=by
 have q:=h.lt;have d:=uF h m o;obtain⟨h1,h2⟩:=h;refine⟨h1,?_⟩;rcases h2 with h2|⟨g,cap,cur,rfl,r,t,rest⟩
 ·exact .inl h2
 ·refine .inr ⟨g,cap,cur,rfl,r,(p.block g (q g rfl).2 (fun u=> ?_)).trans t,rest⟩
  rcases d with d|d
  ·cases d
  ·exact d u
theorem oW {w:World}{B B':Nat}{e d:TypeId}{s i n f j g:Nat}{v:Value}{xs l:List Value}(h:w.ownsRow B e s v n xs)(m:w.ownsRow B' d i (.slice (some ⟨g,0,none⟩) f j) f l)(o:e≠d):∀k,v.ownBlock=some k→k≠g:=by
 intro k hk p;rcases uF h m o with h1|h1
 ·rw[h1] at hk;cases hk
 ·exact h1 (by rw[hk,p];rfl)
def Ky (B b:Nat)(K:Kn)(i:Tr)(A An Ap:Option Addr)(cap cp:Nat)(j k:Int)(w:World)(v:Value)(d:World):Prop:=
 ∃(n:Nat) (e:List Nd) (f:Option Addr) (h:Nat),v=ivn n∧i=⟨e,K.tr.prs++[n]⟩∧n≤1400∧Bk d b 180 (trC K A f Ap cap e.length h cp)∧
  d.ownsRow B 173 2 (.slice A K.ps.length cap) K.ps.length (psV K.ps)∧d.ownsRow B 195 6 (.slice f e.length h) e.length (ndC e e.length)∧d.ownsRow B 3 1 (.slice Ap K.ps.length cp) K.ps.length (K.tr.prs.map ivn)∧
  Bk d w.heap.size 173 #[(j:Int),k]∧Kept B (ru b A An Ap) w d∧∀g,f.map (·.block)=some g→ru b A An Ap g∨w.heap.size≤g
theorem Wy {B b:Nat}{K:Kn}{A An Ap:Option Addr}{cap cn cp:Nat}(r j:Int)(w:World)(G:y5 w B b K A An Ap cap cn cp)(hk:K.fine)(hl:K.ps.length<1020)(hp:codeOk K.cl K.ps.length r)(h2:0≤j)(h3:j<K.cl):
 Calls prog 183 #[.pointer (some ⟨b,0,none⟩),.agg #[(r:Int),j]] w (kS B b { K with ps:=K.ps++[(r,j)] } (ru b A An Ap) w):=by
 obtain⟨i,hi,b6,b7,b8⟩:=info_parts Wh;obtain⟨n5,n6,n7,n8,n9⟩:=info_parts tu;obtain⟨j1,j2,j3,j4,j5⟩:=info_parts nY;have j6:=hk.st;have f8:=hk.cl;have j7:=hk.KI;obtain⟨n',o0⟩:=j7;have b9:=hk.tr;have j8:=b9.len;obtain⟨Q,_⟩:=b9.node hp;have f9:j≤255:=oo;obtain⟨H,a8⟩:∃x:UInt8,UInt8.ofNat j.toNat=x:=⟨_,rfl⟩;have f':(H.toNat:Int)=j:=(by rw[←a8,UInt8.toNat_ofNat'];omega);have cN:=fun w G=>pX r w G hk hp (b:=b) (B:=B) (A:=A) (An:=An) (Ap:=Ap) (cap:=cap) (cn:=cn) (cp:=cp);have d0:({ K with ps:=K.ps++[(r,j)] } :Kn).tr=K.tr.learn K.cl (r,j):=qV K.cl K.ps (r,j);have g3:∀n,K.tr.kid (K.tr.xG K.cl r) H=some n→({ K with ps:=K.ps++[(r,j)] } :Kn).tr=⟨K.tr.nds,K.tr.prs++[n]⟩:=fun n hn=>by
  rw[d0];unfold Tr.learn;simp only[a8,hn]
 have g4:K.tr.kid (K.tr.xG K.cl r) H=none→({ K with ps:=K.ps++[(r,j)] } :Kn).tr=⟨K.tr.nds++[⟨K.tr.xG K.cl r,H,(K.tr.nds[K.tr.xG K.cl r]?.getD ⟨0,0,0,0⟩).first,K.nx⟩],K.tr.prs++[K.tr.nds.length]⟩:=fun hn=>by
  rw[d0];unfold Tr.learn;simp only[a8,hn,j8];rfl
 generalize j9:K.tr.xG K.cl r=P at*;have cC:=fun w G=>WH P j w G hk Q h2 f9 (b:=b) (B:=B) (A:=A) (An:=An) (Ap:=Ap) (cap:=cap) (cn:=cn) (cp:=cp);rw[a8] at cC;obtain⟨q,hq⟩:∃q,K.tr.kC P H=q:=⟨_,rfl⟩;simp only[hq] at cC;have CN:=hid cN;have CC:=hid cC;have g7:Hid (0≤q→∃n:Nat,q=n∧n<K.tr.nds.length∧({ K with ps:=K.ps++[(r,j)] } :Kn).tr=⟨K.tr.nds,K.tr.prs++[n]⟩):=fun h=>by
  have:=PO (T:=K.tr) (p:=P) (b:=H) oo;exact⟨q.toNat,by omega,by rw[hq] at this;exact this.2,g3 _ (by rw[hq] at this;exact this.1)⟩
 have g8:Hid (q<0→({ K with ps:=K.ps++[(r,j)] } :Kn).tr=⟨K.tr.nds++[⟨P,H,(K.tr.nds[P]?.getD ⟨0,0,0,0⟩).first,K.nx⟩],K.tr.prs++[K.tr.nds.length]⟩):=fun h=>g4 (Sj (T:=K.tr) (p:=P) (b:=H) oo);have j':Hid (∀i (h:i<K.tr.nds.length),K.tr.nds[i].par<(i:Int)):=fun i h=>(b9.up i h).1;have k0:=hid f';clear cN cC d0 g3 g4 b9 j9 a8 f' hq;have o1:=G.box.lt;have c1:=G.bB;have cX:=fun w=>xM K A cap w j6 oo;have o2:=Int.le_trans (show(0:Int)≤2 by omega) (show 2≤K.nx by unfold Kn.nx;unfold Kn.cl at f8;omega);have o3:K.nx≤100000:=(by unfold Kn.nx;unfold Kn.cl at f8;omega);have CX:=hid cX;clear cX;have h0:=hid (G.prs.lt);have o4:=hid G;go_enter func183,ntmps183;go_wp2_with fail;refine(CN.out _ (G.alloc _)).mono ?_;rintro e I ⟨rfl,a'⟩;have k1:=a'.size;simp only[World.size_alloc] at k1;have c2:=(G.alloc (.cells #[(r:Int),j] 173)).keep a';have b0:=(Bk.new w #[(r:Int),j] 173).below a' (by simp);have g1:Kept B (ru b A An Ap) w I:=((Kept.refl _ _ w).alloc _).trans (Kept.of_below a');clear a' G;have k2:=b0.cell;go_wp2_with fail;refine(CC.out _ c2).mono ?_;rintro e I ⟨rfl,rfl⟩;clear k2;generalize h1:({ K with ps:=K.ps++[(r,j)] } :Kn)=K' at*;have k4:=hid h1;clear h1;go_upto_if 18 with(fail)
 go_cut [5] (fun v wx=>Ky B b K K'.tr A An Ap cap cp r j w v wx)
 case first=>
  by_cases k6:q<0
  ·have HE:=hid (g8.out k6)
   obtain⟨k7,J,W,u,F⟩:=c2;obtain⟨R,o5,hv,o6⟩:=u.form oo;injection hv with e1 e2 e3
   subst e1 e3;have o7:=(u.lt R rfl).2;have k8:B≤R:=(u.lt R rfl).1;have o8:(P:Int)<K.tr.nds.length:=oo;have c0:=(u.cellAt (P*6+0) oo).trans (vU _ _ Q oo);have h4:=(u.cellAt (P*6+1) oo).trans (vU _ _ Q oo);have h5:=(u.cellAt (P*6+2) oo).trans (vU _ _ Q oo);have c3:=(u.cellAt (P*6+3) oo).trans (vU _ _ Q oo);have d6:=(u.cellAt (P*6+4) oo).trans (vU _ _ Q oo);have d7:=(u.cellAt (P*6+5) oo).trans (vU _ _ Q oo);simp only[Nat.add_zero,ndV,List.getElem?_cons_zero,List.getElem?_cons_succ] at c0 h4 h5 c3 d6 d7;have hX:=J.cell;obtain⟨f,h6⟩:∃d,K.tr.nds[P]?.getD ⟨0,0,0,0⟩=d:=⟨_,rfl⟩;rw[h6] at c0 c3 d6 d7 HE;clear h6 e2 CN CC;have d9:=Bk.new I #[f.par,.int .i64 (yN K.tr.nds P K.tr.nds.length),.int .i64 (nxt K.tr.nds P),.int .u8 (f.last.toNat:Int),.int .u8 (f.first.toNat:Int),f.code] 195;have d':=J.alloc (.cells #[f.par,.int .i64 (yN K.tr.nds P K.tr.nds.length),.int .i64 (nxt K.tr.nds P),.int .u8 (f.last.toNat:Int),.int .u8 (f.first.toNat:Int),f.code] 195);have U:=b0.alloc (.cells #[f.par,.int .i64 (yN K.tr.nds P K.tr.nds.length),.int .i64 (nxt K.tr.nds P),.int .u8 (f.last.toNat:Int),.int .u8 (f.first.toNat:Int),f.code] 195);have k9:=W.alloc (.cells #[f.par,.int .i64 (yN K.tr.nds P K.tr.nds.length),.int .i64 (nxt K.tr.nds P),.int .u8 (f.last.toNat:Int),.int .u8 (f.first.toNat:Int),f.code] 195);have k':=u.alloc (.cells #[f.par,.int .i64 (yN K.tr.nds P K.tr.nds.length),.int .i64 (nxt K.tr.nds P),.int .u8 (f.last.toNat:Int),.int .u8 (f.first.toNat:Int),f.code] 195);have l0:=F.alloc (.cells #[f.par,.int .i64 (yN K.tr.nds P K.tr.nds.length),.int .i64 (nxt K.tr.nds P),.int .u8 (f.last.toNat:Int),.int .u8 (f.first.toNat:Int),f.code] 195);have g2:=g1.alloc (.cells #[f.par,.int .i64 (yN K.tr.nds P K.tr.nds.length),.int .i64 (nxt K.tr.nds P),.int .u8 (f.last.toNat:Int),.int .u8 (f.first.toNat:Int),f.code] 195);have o9:I.heap.size+1≤(I.alloc (.cells #[f.par,.int .i64 (yN K.tr.nds P K.tr.nds.length),.int .i64 (nxt K.tr.nds P),.int .u8 (f.last.toNat:Int),.int .u8 (f.first.toNat:Int),f.code] 195)).heap.size:=(by simp);go_upto_region 6 with(fail)
   generalize I.alloc (.cells #[f.par,.int .i64 (yN K.tr.nds P K.tr.nds.length),.int .i64 (nxt K.tr.nds P),.int .u8 (f.last.toNat:Int),.int .u8 (f.first.toNat:Int),f.code] 195)=c4 at*;clear c0 h4 h5 c3 d6 d7 hX J b0 W u F g1;have L:=d'.cell;have a1:=U.cell;have e0:=d9.cell;have e4:=d'.lt;have e5:=U.lt;have l1:=d9.lt;have c5:K.tr.nds.length+1≤maxLen:=(by unfold maxLen;omega);have e6:(K.tr.nds.length+1)*40≤140737488355328:=oo;have HL:Hid (∀w',Below c4.heap.size c4 w'→(w'.cell? ⟨b,0,none⟩=some (.int .i64 K.o)∧w'.cell? ⟨b,1,none⟩=some (.int .i64 K.l)∧w'.cell? ⟨b,2,none⟩=some (.int .i64 K.m)∧w'.cell? ⟨b,3,none⟩=some (.slice A K.ps.length cap)∧w'.cell? ⟨b,4,none⟩=some (.int .i64 K.base)∧w'.cell? ⟨b,5,none⟩=some (.int .i64 K.last)∧w'.cell? ⟨b,6,none⟩=some (.slice (some ⟨R,0,none⟩) K.tr.nds.length cn)∧w'.cell? ⟨w.heap.size,1,none⟩=some (.int .i64 j)∧w'.cell? ⟨I.heap.size,1,none⟩=some (.int .i64 (yN K.tr.nds P K.tr.nds.length))∧w'.cell? ⟨I.heap.size,4,none⟩=some (.int .u8 (f.first.toNat:Int)))):=fun w' h=>⟨(h.cell (p:=⟨_,_,_⟩) oB).trans (L 0),(h.cell (p:=⟨_,_,_⟩) oB).trans (L 1),(h.cell (p:=⟨_,_,_⟩) oB).trans (L 2),(h.cell (p:=⟨_,_,_⟩) oB).trans (L 3),(h.cell (p:=⟨_,_,_⟩) oB).trans (L 4),(h.cell (p:=⟨_,_,_⟩) oB).trans (L 5),(h.cell (p:=⟨_,_,_⟩) oB).trans (L 6),(h.cell (p:=⟨_,_,_⟩) oB).trans (a1 1),(h.cell (p:=⟨_,_,_⟩) oB).trans (e0 1),(h.cell (p:=⟨_,_,_⟩) oB).trans (e0 4)⟩;clear L a1 e0;have l2:IntKind.u8.wrap j=j:=IntWalk.u8_in _ ⟨h2,f9⟩;refine yV 23 (fun w'=>w'.cell? ⟨b,0,none⟩=some (.int .i64 K.o)∧w'.cell? ⟨b,1,none⟩=some (.int .i64 K.l)∧w'.cell? ⟨b,2,none⟩=some (.int .i64 K.m)∧w'.cell? ⟨b,3,none⟩=some (.slice A K.ps.length cap)∧w'.cell? ⟨b,4,none⟩=some (.int .i64 K.base)∧w'.cell? ⟨b,5,none⟩=some (.int .i64 K.last)∧w'.cell? ⟨b,6,none⟩=some (.slice (some ⟨R,0,none⟩) K.tr.nds.length cn)∧w'.cell? ⟨w.heap.size,1,none⟩=some (.int .i64 j)∧w'.cell? ⟨I.heap.size,1,none⟩=some (.int .i64 (yN K.tr.nds P K.tr.nds.length))∧w'.cell? ⟨I.heap.size,4,none⟩=some (.int .u8 (f.first.toNat:Int))) kr kr (by first|(exact HL.out _ vC)|go_keep) (fun X=> ?_);simp only[List.take_succ_cons,List.take_zero];refine tk 0 ?_;refine tk 1 ?_;refine tk 2 ?_;refine tk 3 ?_;refine tk 4 ?_;refine tk 5 ?_;refine tk 6 ?_;refine tk 7 ?_;refine tk 8 ?_;refine tk 9 ?_;refine tk 10 ?_;refine tk 11 ?_;refine tk 12 ?_;refine tk 13 ?_;refine tk 14 ?_;refine tk 15 ?_;refine tk 16 ?_;try simp only[Act.put,rR]
   refine rd1 17 fun KK E=> ?_;go_simp
   (go_at_call 185;refine(CX.out _).mono ?_;rintro e w4 ⟨rfl,M⟩;have M:Below c4.heap.size c4 w4:=zB M;have o':=M.size;have e7:=d'.below M e4;have e8:=U.below M e5;have h8:=d9.below M l1;have h9:=zf k9 M;have a3:=zf k' M;have h':=zf l0 M;have i0:=g2.trans (Kept.of_below M))
   refine E.out _ _ (by first|(exact HL.out _ vC)|go_keep) fun X=> ?_;try simp only[Act.put,rR]
   refine tk 18 ?_;try simp only[Act.put,rR]
   refine rd1 19 fun KK E=> ?_;go_simp;refine E.out _ _ (by first|(exact HL.out _ vC)|go_keep) fun X=> ?_;try simp only[Act.put,rR]
   refine rd1 20 fun KK E=> ?_
   ((refine uQ _ rfl _ _ 178 rfl B 195 i _ 6 40 underlying178 hi b6 b7 b8 rfl (by omega) (.slice (some ⟨R,0,none⟩) K.tr.nds.length cn) K.tr.nds.length (ndC K.tr.nds K.tr.nds.length) rfl (a3.alloc _) (some ⟨_,0,none⟩) 1 1 [.int .i64 (P:Int),.int .i64 (-1),.int .i64 (yN K.tr.nds P K.tr.nds.length),.int .u8 j,.int .u8 (f.first.toNat:Int),.int .i64 K.nx] rfl (Sl.new w4 #[(P:Int),.int .i64 (-1),.int .i64 (yN K.tr.nds P K.tr.nds.length),.int .u8 j,.int .u8 (f.first.toNat:Int),K.nx] _ 1 6 (by simp) (by omega)) (by simp [Value.oneCell']) c5 e6 (by first|omega|(simp<;>omega)) ?_);intro N t w5 O y b2;have z:=Bk.grown (e7.alloc _) y (own_ne a3 e7 (by decide));have a4:=Bk.grown (e8.alloc _) y (own_ne a3 e8 (by decide));have i1:=Bk.grown (h8.alloc _) y (by rintro k ⟨⟩;show R≠I.heap.size;omega);have l3:=a4.cell;have l4:=i1.cell;have e':=z.cell;have f0:=z.free;have Y:=xO (h9.alloc _) (a3.alloc _) (by decide) y;have f1:=xO (h'.alloc _) (a3.alloc _) (by decide) y;have g5:=(i0.alloc _).grown y (by rintro k ⟨⟩;exact⟨k8,.inl (.inr (.inr (.inl rfl)))⟩);have i2:=ve y)
   refine E.out _ _ (by first|(exact HL.out _ vC)|go_keep) fun X=> ?_;try simp only[Act.put,rR]
   refine tk 21 ?_;refine tk 22 ?_;try simp only[Act.put,rR]
   refine wpAnyH_done kr ?_ _;refine yJ ?_;refine wpOp_step (o:=_) rfl (fun KK E=> ?_);go_simp;refine E _ _ (NoPanic.normal ?_);try simp only[Act.put,rR]
   have HD:Hid ((⟨(P:Int),H,f.first,K.nx⟩:Nd).last.toNat=j):=k0.out;have l6:=hid (Jq K.tr.nds j'.out ⟨(P:Int),H,f.first,K.nx⟩ P Q rfl);generalize i3:(⟨(P:Int),H,f.first,K.nx⟩:Nd)=c7 at*;have i4:Hid (c7.first=f.first∧c7.code=K.nx):=(by show _∧_;rw[←i3];exact⟨rfl,rfl⟩);clear i3 a3 h9 h' e7 e8 h8 i1 l4 l3 e' f0 i0 M l2 X;obtain⟨s,cm,hv,p1⟩:=O.form oo;injection hv with e1 e2 e3
   subst e1 e3;clear e2;have i5:ru b A (some ⟨R,0,none⟩) Ap s∨w.heap.size≤s:=by
    rcases b2 with h|h
    ·left
     injection h with h
     exact .inr (.inr (.inl (by rw[show s=R from h];rfl)))
    ·right
     injection h with h
     have h:s=_:=h;simp only[World.size_alloc] at h;omega
   have l8:=(O.lt s rfl).1;have l9:=own_ne O z (by decide);have V:=z.set 6 (.slice (some ⟨s,0,none⟩) (K.tr.nds.length+1) t);have Z:=zL O (p:=⟨b,6,none⟩) l9 (.slice (some ⟨s,0,none⟩) (K.tr.nds.length+1) t);have a0:=zL Y (p:=⟨b,6,none⟩) (own_ne Y z (by decide)) (.slice (some ⟨s,0,none⟩) (K.tr.nds.length+1) t);have c8:=zL f1 (p:=⟨b,6,none⟩) (own_ne f1 z (by decide)) (.slice (some ⟨s,0,none⟩) (K.tr.nds.length+1) t);have a5:=a4.far (p:=⟨b,6,none⟩) (by show w.heap.size≠b;omega) (.slice (some ⟨s,0,none⟩) (K.tr.nds.length+1) t);have g6:=g5.setCell (p:=⟨b,6,none⟩) ⟨c1,.inl (.inl rfl)⟩ (.slice (some ⟨s,0,none⟩) (K.tr.nds.length+1) t);clear O Y f1 a4 g5 z b2 y;go_upto_region 7 with(fail)
   generalize w5.setCell ⟨b,6,none⟩ (.slice (some ⟨s,0,none⟩) (K.tr.nds.length+1) t)=w6 at*;have p2:=V.cell;have i6:=Z.cellAt (P*6+1) oo;rw[List.getElem?_append_left (by rw[wI];omega),vU _ _ Q (by omega)] at i6;simp only[ndV,List.getElem?_cons_zero,List.getElem?_cons_succ] at i6;have p3:=Z.frozenAt (P*6+1);have p4:(P:Int)<(K.tr.nds.length:Int)+1:=oo;have p5:P<K.tr.nds.length+1:=oo;go_wp2_with fail;go_meet;have f2:(K.tr.nds++[c7]).length=K.tr.nds.length+1:=(by simp);refine⟨K.tr.nds.length,K.tr.nds++[c7],some ⟨s,0,none⟩,t,rfl,HE.out,oo,?_,?_,?_,?_,?_,?_,?_⟩
   ·rw[f2]
    exact V.far (p:=⟨s,P*6+1,none⟩) (by show b≠s;exact fun e=>own_ne Z V (by decide) s rfl e.symm) _
   ·exact zL a0 (p:=⟨s,P*6+1,none⟩) (oW a0 Z (by decide)) _
   ·rw[f2]
    have h:=(Z.stored (P*6+1) (.int .i64 (K.tr.nds.length:Int))).1;have h2:=l6.out;rw[HD.out,i4.out.1,i4.out.2,f2] at h2;rw[h2] at h;exact h
   ·exact zL c8 (p:=⟨s,P*6+1,none⟩) (oW c8 Z (by decide)) _
   ·exact a5.far (p:=⟨s,P*6+1,none⟩) (by show w.heap.size≠s;exact fun e=>own_ne Z a5 (by decide) s rfl e.symm) _
   ·exact g6.setCell (p:=⟨s,P*6+1,none⟩) ⟨l8,i5⟩ _
   ·intro g C
    have:s=g:=(by simpa using C);subst this;exact i5
  ·obtain⟨n,l',hn,i7⟩:=g7.out oo
   have m0:=hid i7;obtain⟨k7,J,W,u,F⟩:=c2;subst l';clear i7;go_wp2_with fail;go_meet;exact⟨n,K.tr.nds,An,cn,rfl,m0.out,oo,J,W,u,F,b0,g1,fun g C=>.inl (.inr (.inr (.inl C)))⟩
 case rest=>
  obtain⟨n,p6,m1,m2,rfl,a6,hn,J,W,u,F,U,g2,i8⟩:=hcut;have HT:=hid a6;have HA:=hid i8;clear a6 i8 c2 b0 g1 g7 g8 CN CC CX;have hX:=J.cell;have c5:K.ps.length+1≤maxLen:=(by unfold maxLen;omega);have e6:(K.ps.length+1)*8≤140737488355328:=oo;have m5:(K.ps.length+1)*16≤140737488355328:=oo;have e4:=J.lt;have e5:=U.lt;clear hi b6 b7 b8;obtain⟨i,hi,b6,b7,b8⟩:=info_parts tu;go_upto_region 8 with(fail)
  go_wp2_with(at_builtin;go_must(refine zT _ rfl _ _ 33 rfl (B) 3 i _ 1 8 underlying33 hi b6 b7 b8 rfl (by omega) _ _ _ rfl (F.alloc _) _ 1 1 [ivn n] rfl (Sl.newAt wc #[ivn n] _ 1 1 (by first|rfl|simp) (by simp) (by omega)) (by simp [Value.oneCell']) c5 e6 ?_ ?_));try(case refine_1=>first|omega|(simp<;>omega;done))
  intro N t w5 O y b2;have z:=Bk.grown (J.alloc _) y (own_ne F J (by decide));have a4:=Bk.grown (U.alloc _) y (own_ne F U (by decide));have Y:=xO (W.alloc _) (F.alloc _) (by decide) y;have f3:=xO (u.alloc _) (F.alloc _) (by decide) y;have g5:=(g2.alloc _).grown y (fun k hk=>⟨(F.lt k hk).1,.inl (.inr (.inr (.inr (wX hk))))⟩);have i2:=ve y;have m6:Hid (∀g,N.map (·.block)=some g→ru b A An Ap g∨w.heap.size≤g):=fun g C=>by
   have D:=lu O g C;rcases b2 with h|h
   ·rw[h] at D
    exact .inl (.inr (.inr (.inr (wX D))))
   ·rw[h] at D
    injection D with D
    have:=g2.size;try simp only[World.size_alloc] at D
    exact .inr oo
  have e':=z.cell;have f0:=z.free;have V:=z.set 7 (.slice N (K.ps.length+1) t);have a5:=a4.far (p:=⟨b,7,none⟩) (by show w.heap.size≠b;omega) (.slice N (K.ps.length+1) t);have a0:=zL Y (p:=⟨b,7,none⟩) (own_ne Y z (by decide)) (.slice N (K.ps.length+1) t);have m7:=zL f3 (p:=⟨b,7,none⟩) (own_ne f3 z (by decide)) (.slice N (K.ps.length+1) t);have c8:=zL O (p:=⟨b,7,none⟩) (own_ne O z (by decide)) (.slice N (K.ps.length+1) t);have g6:=g5.setCell (p:=⟨b,7,none⟩) ⟨c1,.inl (.inl rfl)⟩ (.slice N (K.ps.length+1) t);clear hX J U W u F g2 y b2 O Y f3 a4 g5 z;go_upto_region 9 with(fail)
  generalize w5.setCell ⟨b,7,none⟩ (.slice N (K.ps.length+1) t)=w6 at*;clear e' f0 i2;have L:=V.cell;have a1:=a5.cell;have e4:=V.lt;have e5:=a5.lt;have HM:Hid (∀w',Below w6.heap.size w6 w'→(w'.cell? ⟨b,3,none⟩=some (.slice A K.ps.length cap)∧w'.cell? ⟨w.heap.size,0,none⟩=some (.int .i64 r)∧w'.cell? ⟨w.heap.size,1,none⟩=some (.int .i64 j))):=fun w' h=>⟨(h.cell (p:=⟨_,_,_⟩) oB).trans (L 3),(h.cell (p:=⟨_,_,_⟩) oB).trans (a1 0),(h.cell (p:=⟨_,_,_⟩) oB).trans (a1 1)⟩;clear L a1;refine yV 12 (fun w'=>w'.cell? ⟨b,3,none⟩=some (.slice A K.ps.length cap)∧w'.cell? ⟨w.heap.size,0,none⟩=some (.int .i64 r)∧w'.cell? ⟨w.heap.size,1,none⟩=some (.int .i64 j)) kr kr (by first|(exact HM.out _ vC)|go_keep) (fun X=> ?_);simp only[List.take_succ_cons,List.take_zero];refine tk 0 ?_;refine tk 1 ?_;refine tk 2 ?_;refine tk 3 ?_;refine tk 4 ?_;refine tk 5 ?_;refine tk 6 ?_;try simp only[Act.put,rR]
  refine rd1 7 fun KK E=> ?_;go_simp;refine E.out _ _ (by first|(exact HM.out _ vC)|go_keep) fun X=> ?_;try simp only[Act.put,rR]
  refine rd1 8 fun KK E=> ?_
  ((refine uQ _ rfl _ _ 92 rfl B 173 j1 _ 2 16 underlying92 j2 j3 j4 j5 rfl (by omega) (.slice A K.ps.length cap) K.ps.length (psV K.ps) rfl ((World.ownsRow.drew a0).alloc _) (some ⟨_,0,none⟩) 1 1 [.int .i64 r,.int .i64 j] rfl (Sl.new w6.drew #[(r:Int),j] _ 1 2 (by simp) (by omega)) (by simp [Value.oneCell']) c5 m5 (by first|omega|(simp<;>omega)) ?_);intro A7 m8 w7 f5 b4 m9;have a7:=Bk.grown (V.drew.alloc _) b4 (own_ne a0 V (by decide));have m':=Bk.grown (a5.drew.alloc _) b4 (fun k hk=>by have:=(h0.out k hk).2;omega);have p8:=m'.cell;have p9:=a7.cell;have p':=a7.free)
  refine E.out _ _ (by first|(exact HM.out _ vC)|go_keep) fun X=> ?_;try simp only[Act.put,rR]
  refine tk 9 ?_;refine tk 10 ?_;refine tk 11 ?_;try simp only[Act.put,rR]
  refine wpAnyH_done kr ?_ _;refine yJ ?_;refine wpOp_step (o:=_) rfl (fun KK E=> ?_);go_simp;refine E _ _ (NoPanic.normal ?_);try simp only[Act.put,rR]
  have i':=xO ((World.ownsRow.drew m7).alloc _) ((World.ownsRow.drew a0).alloc _) (by decide) b4;have j0:=xO ((World.ownsRow.drew c8).alloc _) ((World.ownsRow.drew a0).alloc _) (by decide) b4;have n0:=(g6.drew.alloc _).grown b4 (fun k hk=>⟨(h0.out k hk).1,.inl (.inr (.inl (wX hk)))⟩);have n1:∀g,A7.map (·.block)=some g→ru b A An Ap g∨w.heap.size≤g:=fun g C=>by
   have D:=lu f5 g C;rcases m9 with h|h
   ·rw[h] at D
    exact .inl (.inr (.inl (wX D)))
   ·rw[h] at D
    injection D with D
    have:=g6.size;try simp only[World.size_alloc] at D
    exact .inr (by simp at D;omega)
  go_end0;have n2:=k4.out;have a6:=HT.out;subst n2;have f6:({ K with ps:=K.ps++[(r,j)] } :Kn).ps.length=K.ps.length+1:=(by simp);refine⟨rfl,⟨A7,m1,N,m8,m2,t,⟨c1,?_,?_,?_,?_⟩,?_⟩,n0.setCell (p:=⟨b,3,none⟩) ⟨c1,.inl (.inl rfl)⟩ _⟩
  ·unfold trC
   rw[f6,a6];exact a7.set 3 _
  ·rw[f6]
   show World.ownsRow _ _ _ _ _ _ (psV (K.ps++[(r,j)]));rw[Yk];exact zL f5 (p:=⟨b,3,none⟩) (own_ne f5 a7 (by decide)) _
  ·rw[a6]
   exact zL i' (p:=⟨b,3,none⟩) (own_ne i' a7 (by decide)) _
  ·rw[a6,f6,List.map_append]
   exact zL j0 (p:=⟨b,3,none⟩) (own_ne j0 a7 (by decide)) _
  ·rintro g (C|C|C|C)
   ·exact .inl (.inl C)
   ·exact n1 g C
   ·exact HA.out g C
   ·exact m6.out g C
theorem ZF {w:World}{B:Nat}{e:TypeId}{A:Option Addr}{n cap size k:Nat}{cs:List Value}(h:w.ownsRow B e size (.slice A n cap) n cs)(hk:k≤n):w.ownsRow B e size (.slice A k cap) k (cs.take (k*size)):=by
 obtain⟨h1,h2⟩:=h;have f:k*size≤n*size:=Nat.mul_le_mul_right _ hk;refine⟨by rw[List.length_take,h1];omega,?_⟩;rcases h2 with⟨d,h0⟩|⟨g,p,cur,d,i,j,q,l,m,o⟩
 ·have:k=0:=oo
  subst this;left;injection d with e1 e2 e3
  subst e1 e3;exact⟨rfl,rfl⟩
 ·injection d with e1 e2 e3
  subst e1 e3;refine .inr ⟨g,cap,cur,rfl,i,j,oo,l,m,?_⟩;rw[←o,List.take_take,Nat.min_eq_left f]
theorem Rx {B b:Nat}{K:Kn}{A An Ap:Option Addr}{cap cn cp:Nat}(w:World)(hT:y5 w B b K A An Ap cap cn cp)(hk:K.fine)(f6:0≤K.base)(f7:K.base≤K.ps.length):
 Calls prog 184 #[.pointer (some ⟨b,0,none⟩)] w (kS B b { K with ps:=K.ps.take K.base.toNat } (ru b A An Ap) w):=by
 have a':=hk.st;have f8:=hk.cl;have c6:=hk.KI;obtain⟨f9,f'⟩:=c6;have O:=hk.tr;have g0:=O.len;have g2:=hk.len;obtain⟨j,Q⟩:∃j:Nat,K.base=j:=⟨K.base.toNat,oo⟩;have R:j≤K.ps.length:=oo;have b0:({ K with ps:=K.ps.take j } :Kn).fine:=⟨a',jq hk.pairs _,by show(K.ps.take j).length≤1020;rw[List.length_take];omega⟩;obtain⟨r,U,t2,t3,t4⟩:=OZ (show(0:Int)≤K.cl by omega) K.ps j R;have g5:K.cl.toNat≤r:=by
  have h:=b0.tr.lits;have e:({ K with ps:=K.ps.take j } :Kn).tr.nds=K.tr.nds.take r:=U;rw[e,List.length_take] at h;have:({ K with ps:=K.ps.take j } :Kn).cl=K.cl:=rfl;rw[this] at h;omega
 have g6:r≤K.tr.nds.length:=t2;have c7:Hid (({ K with ps:=K.ps.take j } :Kn).tr=⟨K.tr.nds.take r,K.tr.prs.take j⟩):=by
  show _=_;have F:({ K with ps:=K.ps.take j } :Kn).tr.nds=K.tr.nds.take r:=U;have G:({ K with ps:=K.ps.take j } :Kn).tr.prs=K.tr.prs.take j:=t3;generalize({ K with ps:=K.ps.take j } :Kn).tr=T at*
  cases T;simp only at F G;rw[F,G]
 have c8:Hid (∀i (h:i<K.tr.nds.length),(i<r→(K.tr.nds[i]?.getD ⟨0,0,0,0⟩).code<K.cl+2+(j:Int))∧(r≤i→K.cl+2+(j:Int)≤(K.tr.nds[i]?.getD ⟨0,0,0,0⟩).code)):=fun i h=>by
  have:=t4 i h;rw[List.getElem?_eq_getElem h];exact this
 have c9:Hid (∀i (h:i<K.tr.nds.length),(K.tr.nds[i]?.getD ⟨0,0,0,0⟩).par<(i:Int)∧(K.cl.toNat≤i→0≤(K.tr.nds[i]?.getD ⟨0,0,0,0⟩).par)):=fun i h=>by
  have:=O.up i h;rw[List.getElem?_eq_getElem h];exact this
 clear U t2 t3 t4 O;have b4:K.cl=pow2 K.l:=rfl;have g7:2≤pow2 K.l:=oo;have g8:pow2 K.l≤256:=oo;have c':=hid b4;clear b4;obtain⟨H,C,I,t,V⟩:=hT;have d0:=C.lt;have g9:=hid I.lt;obtain⟨f,g',hv,h0⟩:=t.form oo;injection hv with F G e3
 subst F e3;clear G;have h1:=(t.lt f rfl).2;have d2:=(t.lt f rfl).1;have h2:r≤cn:=(by have:=(Sl.own t).1;omega);have h3:j≤cap:=(by have:=(Sl.own I).1;omega);have h4:j≤cp:=(by have:=(Sl.own V).1;omega);have d3:f≠b:=own_ne t C (by decide) f rfl;have d4:Hid (K.base.toNat=j):=(by show _=_;rw[Q];simp);have J:=hid Q;have hX:=C.cell;clear Q b0;have h5:K.base≤1020:=oo;go_enter func184,ntmps184;go_wp2_with fail;refine(wE _ _ _ _ a').mono ?_;rintro e w1 ⟨rfl,x⟩;have W:=C.below x d0;have b5:=zf I x;have b6:=zf t x;have b7:=zf V x;have g1:Kept B (ru b A (some ⟨f,0,none⟩) Ap) w w1:=Kept.of_below x;clear x hX C I t V;have d7:=W.cell;go_wp2_with fail;go_loopw [4] (fun v wr=>∃m:Nat,v= .int .i64 ((m:Int)+1)∧r≤m+1∧m+1≤K.tr.nds.length∧Bk wr b 180 (trC K A (some ⟨f,0,none⟩) Ap cap K.tr.nds.length cn cp)∧wr.ownsRow B 173 2 (.slice A K.ps.length cap) K.ps.length (psV K.ps)∧
  wr.ownsRow B 195 6 (.slice (some ⟨f,0,none⟩) K.tr.nds.length cn) K.tr.nds.length (ndC K.tr.nds (m+1))∧wr.ownsRow B 3 1 (.slice Ap K.ps.length cp) K.ps.length (K.tr.prs.map ivn)∧Kept B (ru b A (some ⟨f,0,none⟩) Ap) w wr) (fun v _=>(intOf v).toNat)
 case atStart=>
  have e:K.tr.nds.length - 1+1=K.tr.nds.length:=oo;exact⟨K.tr.nds.length - 1,by congr 1;omega,by omega,by omega,W,b5,by rw[e];exact b6,b7,g1⟩
 case round=>
  obtain⟨m,rfl,h6,d8,s,D,n,E,X⟩:=hrel;clear d7 W b5 b6 b7 g1;have b9:=s.cell;have y:m<K.tr.nds.length:=oo;have h7:(m:Int)<K.tr.nds.length:=oo;have Y:=(n.cellAt (m*6+5) oo).trans (vU _ _ y oo);have L:=(n.cellAt (m*6+0) oo).trans (vU _ _ y oo);have Z:=(n.cellAt (m*6+2) oo).trans (vU _ _ y oo);simp only[Nat.add_zero,ndV,List.getElem?_cons_zero,List.getElem?_cons_succ] at Y L Z;have b':=c9.out m y;have a0:=c8.out m y;have M:Hid (∀P,P<m→(K.tr.nds[m]?.getD ⟨0,0,0,0⟩).par=(P:Int)→((ndC K.tr.nds (m+1)).set (P*6+1) (Value.int .i64 (nxt K.tr.nds m)))=ndC K.tr.nds m):=fun P hP h=>JC K.tr.nds m P y hP h;generalize K.tr.nds[m]?.getD ⟨0,0,0,0⟩=d at*;obtain⟨dp,dl,df,dc⟩:=d;simp only at Y L b' a0 M;rw[c'.out] at a0;obtain⟨d',a1⟩:=b';obtain⟨a2,a3⟩:=a0;by_cases e0:r≤m
  ·have e1:pow2 K.l+1+1+K.base≤dc:=by have:=a3 e0;have:=J.out;omega
   have e2:=a1 oo;obtain⟨P,rfl⟩:=Int.eq_ofNat_of_zero_le e2;have e4:P<m:=oo;have i0:(P:Int)<K.tr.nds.length:=oo;have HP:=hid (M.out P e4 rfl);clear a1 a2 a3 M;have e6:=(n.cellAt (P*6+1) oo).trans (vU _ _ (show P<K.tr.nds.length by omega) oo);simp only[ndV,List.getElem?_cons_zero,List.getElem?_cons_succ] at e6;have i1:=n.frozenAt (P*6+1);have i2:=(n.lt f rfl).2;have i3:=s.lt;have HM:Hid (∀w',Below wr.heap.size wr w'→(w'.cell? ⟨b,6,none⟩=some (.slice (some ⟨f,0,none⟩) K.tr.nds.length cn)∧w'.cell? ⟨f,m*6,none⟩=some (.int .i64 (P:Int))∧w'.cell? ⟨f,m*6+2,none⟩=some (.int .i64 (nxt K.tr.nds m)))):=fun w' h=>⟨(h.cell (p:=⟨_,_,_⟩) oB).trans (b9 6),(h.cell (p:=⟨_,_,_⟩) oB).trans (L),(h.cell (p:=⟨_,_,_⟩) oB).trans (Z)⟩;go_upto_region 5 with(fail)
   refine yV 22 (fun w'=>w'.cell? ⟨b,6,none⟩=some (.slice (some ⟨f,0,none⟩) K.tr.nds.length cn)∧w'.cell? ⟨f,m*6,none⟩=some (.int .i64 (P:Int))∧w'.cell? ⟨f,m*6+2,none⟩=some (.int .i64 (nxt K.tr.nds m))) kr kr (by first|(exact HM.out _ vC)|go_keep) (fun i4=> ?_);simp only[List.take_succ_cons,List.take_zero];refine tk 0 ?_;refine tk 1 ?_;refine tk 2 ?_;refine tk 3 ?_;refine tk 4 ?_;refine tk 5 ?_;refine tk 6 ?_;refine tk 7 ?_;refine tk 8 ?_;refine tk 9 ?_;refine tk 10 ?_;refine tk 11 ?_;refine tk 12 ?_;refine tk 13 ?_;refine tk 14 ?_;refine tk 15 ?_;refine tk 16 ?_;refine tk 17 ?_;refine tk 18 ?_;refine tk 19 ?_;refine tk 20 ?_;refine tk 21 ?_;try simp only[Act.put,rR]
   refine wpAnyH_done kr ?_ _;refine yJ ?_;refine wpOp_step (o:=_) rfl (fun KK e8=> ?_);go_simp;refine e8 _ _ (NoPanic.normal ?_);try simp only[Act.put,rR]
   go_wp2;go_roundw
   case rel=>
    obtain⟨q,rfl⟩:∃q,m=q+1:=⟨m - 1,oo⟩;refine⟨q,by go_num,oo,oo,?_,?_,?_,?_,?_⟩
    ·exact s.far (p:=⟨f,P*6+1,none⟩) (fun e=>d3 e.symm) _
    ·exact zL D (p:=⟨f,P*6+1,none⟩) (oW D n (by decide)) _
    ·have h:=(n.stored (P*6+1) (.int .i64 (nxt K.tr.nds (q+1)))).1
     rw[HP.out] at h;exact h
    ·exact zL E (p:=⟨f,P*6+1,none⟩) (oW E n (by decide)) _
    ·exact(X.setCell (p:=⟨f,P*6+1,none⟩) ⟨d2,.inl (.inr (.inr (.inl rfl)))⟩ _).drew
   case measure=>first|(simp [intOf];done)|(simp [intOf];omega)
  ·have e1:¬pow2 K.l+1+1+K.base≤dc:=by have:=a2 oo;have:=J.out;omega
   have e9:m+1=r:=oo;clear d' a1 a2 a3 M L Z;subst e9;have i6:(m:Int)+1≤cn:=oo;have i7:K.base≤cap:=(by have:=J.out;omega);have i8:K.base≤cp:=(by have:=J.out;omega);have e':=s.free;go_upto_region 7 with(fail)
   have u:=s.set 6 (.slice (some ⟨f,0,none⟩) (m+1) cn);have a4:=zL D (p:=⟨b,6,none⟩) (own_ne D s (by decide)) (.slice (some ⟨f,0,none⟩) (m+1) cn);have a5:=zL n (p:=⟨b,6,none⟩) (own_ne n s (by decide)) (.slice (some ⟨f,0,none⟩) (m+1) cn);have a6:=zL E (p:=⟨b,6,none⟩) (own_ne E s (by decide)) (.slice (some ⟨f,0,none⟩) (m+1) cn);have g3:=X.setCell (p:=⟨b,6,none⟩) ⟨H,.inl (.inl rfl)⟩ (.slice (some ⟨f,0,none⟩) (m+1) cn);generalize wr.setCell ⟨b,6,none⟩ (.slice (some ⟨f,0,none⟩) (m+1) cn)=w3 at*;clear b9 e' s D n E X Y;have f1:=u.cell;have f2:=u.free;go_upto_region 8 with(fail)
   have z:=u.set 7 (.slice Ap K.base.toNat cp);have c2:=zL a4 (p:=⟨b,7,none⟩) (own_ne a4 u (by decide)) (.slice Ap K.base.toNat cp);have c3:=zL a5 (p:=⟨b,7,none⟩) (own_ne a5 u (by decide)) (.slice Ap K.base.toNat cp);have c4:=zL a6 (p:=⟨b,7,none⟩) (own_ne a6 u (by decide)) (.slice Ap K.base.toNat cp);have g4:=g3.setCell (p:=⟨b,7,none⟩) ⟨H,.inl (.inl rfl)⟩ (.slice Ap K.base.toNat cp);generalize w3.setCell ⟨b,7,none⟩ (.slice Ap K.base.toNat cp)=w4 at*;clear f1 f2 u a4 a5 a6 g3;have i':=z.cell;have j0:=z.free;go_wp2;go_end0;have N:=d4.out;have f4:=c7.out;have a7:({ K with ps:=K.ps.take K.base.toNat } :Kn).ps.length=j:=(by show(K.ps.take K.base.toNat).length=j;rw[N,List.length_take];omega);have a8:({ K with ps:=K.ps.take K.base.toNat } :Kn).tr=⟨K.tr.nds.take (m+1),K.tr.prs.take j⟩:=(by rw[N];exact f4);have a9:(K.tr.nds.take (m+1)).length=m+1:=(by rw[List.length_take];omega);refine⟨rfl,⟨A,some ⟨f,0,none⟩,Ap,cap,cn,cp,⟨H,?_,?_,?_,?_⟩,fun g hg=>.inl hg⟩,g4.setCell (p:=⟨b,3,none⟩) ⟨H,.inl (.inl rfl)⟩ _⟩
   ·unfold trC
    rw[a7,a8,a9];have h:=z.set 3 (.slice A K.base.toNat cap);rw[N] at h⊢;exact h
   ·rw[a7]
    show World.ownsRow _ _ _ _ _ _ (psV (K.ps.take K.base.toNat));rw[N,ZY];exact ZF (zL c2 (p:=⟨b,3,none⟩) (own_ne c2 z (by decide)) _) R
   ·rw[a8,a9]
    have h:=ZF (k:=m+1) (zL c3 (p:=⟨b,3,none⟩) (own_ne c3 z (by decide)) (.slice A K.base.toNat cap)) oo;rw[MB _ _ d8,a9] at h;exact h
   ·rw[a8,a7]
    have h:=ZF (k:=j) (zL c4 (p:=⟨b,3,none⟩) (own_ne c4 z (by decide)) (.slice A K.base.toNat cap)) R;rw[Nat.mul_one,←List.map_take] at h;exact h
theorem y5.setLast {w:World}{B b:Nat}{K:Kn}{A An Ap:Option Addr}{cap cn cp:Nat}(h:y5 w B b K A An Ap cap cn cp)(x:Int):y5 (w.setCell ⟨b,5,none⟩ (.int .i64 x)) B b { K with last:=x } A An Ap cap cn cp:=
 ⟨h.bB,h.box.set 5 _,zL h.prs (p:=⟨b,5,none⟩) (own_ne h.prs h.box (by decide)) _,zL h.nds (p:=⟨b,5,none⟩) (own_ne h.nds h.box (by decide)) _,zL h.nos (p:=⟨b,5,none⟩) (own_ne h.nos h.box (by decide)) _⟩
theorem lD {B b:Nat}{K:Kn}{A An Ap:Option Addr}{cap cn cp:Nat}(w:World)(d:y5 w B b K A An Ap cap cn cp)(hk:K.ok):
 Calls prog 161 #[.pointer (some ⟨b,0,none⟩),K.cl] w (kS B b K.cleared (ru b A An Ap) w):=by
 have n:=hk.st;have o:=d.box.cell;have q:=d.bB;have I:=d.box.lt;have j:=fun w d=>Rx w d hk.fine hk.base0 hk.base1 (b:=b) (B:=B) (A:=A) (An:=An) (Ap:=Ap) (cap:=cap) (cn:=cn) (cp:=cp);have r:Hid (K.cleared= { ({ K with ps:=K.ps.take K.base.toNat } :Kn) with last:= -1 }):=rfl;generalize s:({ K with ps:=K.ps.take K.base.toNat } :Kn)=J at*;have t:=hid j;clear s j;have L:(K.cl==pow2 K.l)=true:=(by simp [Kn.cl]);generalize K.cl=c at*;go_enter func161,ntmps161;go_wp2_with fail;refine(xq _ _ _ _ n).mono ?_;rintro e u ⟨rfl,f⟩;have k:=d.keep f;have m:Kept B (ru b A An Ap) w u:=Kept.of_below f;have M:=k.box.lt;clear o f;go_wp2_with fail;refine(t.out _ k).mono ?_;rintro e N ⟨rfl,⟨v,x,y,z,C,D,i,E⟩,F⟩;have O:=i.box.cell;have P:=i.box.free;have G:=m.trans F;have Q:=m.size;go_wp2;go_end0;refine⟨rfl,⟨v,x,y,z,C,D,?_,fun g H=>(E g H).elim .inl (fun h=>.inr oo)⟩,G.setCell (p:=⟨b,5,none⟩) ⟨q,.inl (.inl rfl)⟩ _⟩;rw[r.out];exact i.setLast (-1)
theorem kP {B b:Nat}{K:Kn}{A An Ap:Option Addr}{cap cn cp:Nat}(c:Int)(w:World)(i:y5 w B b K A An Ap cap cn cp)(hk:K.ok)(j:K.fol c=true):
 Calls prog 161 #[.pointer (some ⟨b,0,none⟩),c] w (kS B b (K.after c) (ru b A An Ap) w):=by
 have J:=hk.st;have Z:=i.box.cell;have a0:=i.bB;have d':=i.box.lt;have b1:=hk.bd;have b2:=aF hk j;have e0:(c==pow2 K.l)=false:=by
  have h:=b2.2.2.1;unfold Kn.cl at h;simpa using h
 have D:=fun w=>uU K A cap w hk;have L:=fun w=>xM K A cap w J oo;by_cases d:K.gr=true
 ·have M:=K.qf hk d
  have b3:=K.qh hk j;have b4:=bC b3.1 (K.TW hk j);have hh:=bg (K.any c);have b5:K.ps.length<1020:=by
   unfold Kn.gr at d;simp only[decide_eq_true_eq] at d;have:=d.2;unfold Kn.nx at this;unfold Kn.cl at b1;omega
  obtain⟨f,k,N,a2⟩:∃f:Int,(f=if c=K.nx then K.last else c)∧codeOk K.cl K.ps.length f∧wV (K.word f)=wV (K.any c):=by
   refine⟨_,rfl,?_,?_⟩
   ·split
    ·exact M
    ·unfold Kn.fol at j
     simp only[decide_eq_true_eq] at j;rcases j with j|⟨_,j⟩
     ·exact j
     ·contradiction
   ·unfold Kn.any
    split
    ·rw[WO]
     have:=eG hk.pairs _ _ (Nat.le_refl _) M;intro a3;unfold Kn.word at a3;rw[a3] at this;simp at this
    ·rfl
  have E:=hid k;clear k;have b6:=(K.uS hk N).1;have O:=K.YM hk N;rw[a2] at O;have cN:=fun w i=>pX f w i hk.fine N (b:=b) (B:=B) (A:=A) (An:=An) (Ap:=Ap) (cap:=cap) (cn:=cn) (cp:=cp);have cL:=fun w i=>Wy K.last (wV (K.any c)) w i hk.fine b5 M hh.1 b4 (b:=b) (B:=B) (A:=A) (An:=An) (Ap:=Ap) (cap:=cap) (cn:=cn) (cp:=cp);have Q:Hid (K.after c= { ({ K with ps:=K.ps++[(K.last,wV (K.any c))] } :Kn) with last:=c }):=by
   show _=_;unfold Kn.after;rw[if_pos d]
  have b7:=hk.fine.KI;obtain⟨e4,e5⟩:=b7;generalize b8:({ K with ps:=K.ps++[(K.last,wV (K.any c))] } :Kn)=K1 at*;generalize wV (K.any c)=x at*;generalize K.tr.xG K.cl f=P at*;clear b8;have CN:=hid cN;have CL:=hid cL;have R:=hid D;have CX:=hid L;have HF:=hid O;clear cN cL D L O a2;obtain⟨e7,e8⟩:=hh;go_enter func161,ntmps161;go_wp2_with fail;refine(xq _ _ _ _ J).mono ?_;rintro e T ⟨rfl,m⟩;have n:=i.keep m;have y:Kept B (ru b A An Ap) w T:=Kept.of_below m;clear Z m;have U:=n.box.cell;go_wp2_with fail;refine(R.out _).mono ?_;rintro e w2 ⟨rfl,q⟩;have r:=n.keep q;have F:=y.trans (Kept.of_below q);clear U q n y;have a6:=r.box.cell;go_wp2_with fail;refine(CX.out _).mono ?_;rintro e s ⟨rfl,V⟩;have G:=r.keep V;have g3:=F.trans (Kept.of_below V);clear a6 V r F;obtain⟨c4,H,a7,z,a8⟩:=G;have W:=H.cell;obtain⟨t,e9,hv,e'⟩:=z.form oo;injection hv with e1 e2 e3
  subst e1 e3;clear e2;have f0:=(z.lt t rfl).2;have f1:=H.lt;have I:=(z.cellAt (P*6+4) oo).trans (vU _ _ b6 oo);simp only[ndV,List.getElem?_cons_zero,List.getElem?_cons_succ] at I;have f2:(P:Int)<K.tr.nds.length:=oo;have a9:=HF.out;rw[a9] at I;clear a9;go_upto_if 31 with(fail)
  go_cut [4] (fun v wx=>v= .int .i64 f∧s=wx)
  case first=>
   by_cases u:c=K.nx
   ·have c7:(c==K.nx)=true:=by simpa using u
    have k:=E.out;rw[if_pos u] at k;clear u E;subst k;go_wp2_with fail;go_meet;exact⟨rfl,rfl⟩
   ·have c7:(c==K.nx)=false:=by simpa using u
    have k:=E.out;rw[if_neg u] at k;clear u E;subst k;go_wp2_with fail;go_meet;exact⟨rfl,rfl⟩
  case rest=>
   obtain⟨rfl,rfl⟩:=hcut;have HM:Hid (∀w',Below s.heap.size s w'→(w'.cell? ⟨b,5,none⟩=some (.int .i64 K.last)∧w'.cell? ⟨b,6,none⟩=some (.slice (some ⟨t,0,none⟩) K.tr.nds.length cn)∧w'.cell? ⟨t,P*6+4,none⟩=some (.int .u8 x))):=fun w' h=>⟨(h.cell (p:=⟨_,_,_⟩) oB).trans (W 5),(h.cell (p:=⟨_,_,_⟩) oB).trans (W 6),(h.cell (p:=⟨_,_,_⟩) oB).trans (I)⟩;have G:y5 s B b K A (some ⟨t,0,none⟩) Ap cap cn cp:=⟨c4,H,a7,z,a8⟩;clear W I H a7 z a8;have f3:IntKind.i64.wrap x=x:=IntWalk.i64_in _ oo;go_upto_region 7 with(fail)
   refine yV 18 (fun w'=>w'.cell? ⟨b,5,none⟩=some (.int .i64 K.last)∧w'.cell? ⟨b,6,none⟩=some (.slice (some ⟨t,0,none⟩) K.tr.nds.length cn)∧w'.cell? ⟨t,P*6+4,none⟩=some (.int .u8 x)) kr kr (by first|(exact HM.out _ vC)|go_keep) (fun c8=> ?_);simp only[List.take_succ_cons,List.take_zero];refine tk 0 ?_;refine tk 1 ?_;refine tk 2 ?_;refine tk 3 ?_;refine tk 4 ?_;refine tk 5 ?_;refine tk 6 ?_;refine tk 7 ?_;refine tk 8 ?_;refine tk 9 ?_;refine tk 10 ?_;refine tk 11 ?_;try simp only[Act.put,rR]
   refine rd1 12 fun KK X=> ?_;go_simp
   (go_at_call 186;refine(CN.out _ (G.keep yj)).mono ?_;rintro e w4 ⟨rfl,C⟩;have C:Below s.heap.size s w4:=zB C;have f4:=C.size;have d0:=G.keep C;have g4:=g3.trans (Kept.of_below C))
   refine X.out _ _ (by first|(exact HM.out _ vC)|go_keep) fun c8=> ?_;try simp only[Act.put,rR]
   refine tk 13 ?_;refine tk 14 ?_;refine tk 15 ?_;refine tk 16 ?_;refine tk 17 ?_;try simp only[Act.put,rR]
   refine wpAnyH_done kr ?_ _;refine yJ ?_;refine wpOp_step (o:=_) rfl (fun KK X=> ?_);go_simp
   (go_at_call 183;refine(CL.out _ d0).mono ?_;rintro e w5 ⟨rfl,⟨A5,d2,d3,d4,d5,d6,Y,d7⟩,g5⟩)
   refine X _ _ (NoPanic.normal ?_);try simp only[Act.put,rR]
   have f6:=Y.box.cell;have f7:=Y.box.free;have g6:=g4.trans g5;have f8:=g4.size;go_wp2;go_end0;refine⟨rfl,⟨A5,d2,d3,d4,d5,d6,?_,fun g d=>(d7 g d).elim .inl (fun h=>.inr oo)⟩,g6.setCell (p:=⟨b,5,none⟩) ⟨a0,.inl (.inl rfl)⟩ _⟩;rw[Q.out];exact Y.setLast c
 ·have f9:K.gr=false:=by simpa using d
  have Q:Hid (K.after c= { K with last:=c }):=by
   show _=_;unfold Kn.after;rw[if_neg d]
  have R:=hid D;clear D L d;go_enter func161,ntmps161;go_wp2_with fail;refine(xq _ _ _ _ J).mono ?_;rintro e T ⟨rfl,m⟩;have n:=i.keep m;have y:Kept B (ru b A An Ap) w T:=Kept.of_below m;clear Z m;have U:=n.box.cell;go_wp2_with fail;refine(R.out _).mono ?_;rintro e w2 ⟨rfl,q⟩;have r:=n.keep q;have F:=y.trans (Kept.of_below q);clear U q n y;have a6:=r.box.cell;have f':=r.box.free;go_wp2;go_end0;refine⟨rfl,⟨A,An,Ap,cap,cn,cp,?_,fun g d=>.inl d⟩,F.setCell (p:=⟨b,5,none⟩) ⟨a0,.inl (.inl rfl)⟩ _⟩;rw[Q.out];exact r.setLast c
theorem WI (r M:Nat)(o l m:Int)(w:World)(V:Rd w r M)(hM:M≤30000000)(X:vk o l m):
 Calls prog 24 #[.pointer (some ⟨r,0,none⟩),.agg #[(o:Int),l,m]] w fun e w'=>(∃o' l' m':Int,e= .returned (.agg #[o',l',m']))∧Rd w' r (M+5)∧zk w.heap.size r w w':=by
 have hr:=V.lt;have a9:=X.2.1;have a':=X.2.2.1;go_enter func24,ntmps24;have Y:Bk ((w.alloc (.cells #[(o:Int),l,m] 24)).alloc (.cells #[.int .i64 0,.int .i64 0,.int .i64 0] 24)) w.heap.size 24 #[(o:Int),l,m]:=tBk;have P:Bk ((w.alloc (.cells #[(o:Int),l,m] 24)).alloc (.cells #[.int .i64 0,.int .i64 0,.int .i64 0] 24)) (w.heap.size+1) 24 #[.int .i64 0,.int .i64 0,.int .i64 0]:=tBk;have R0:=(V.alloc (.cells #[(o:Int),l,m] 24)).alloc (.cells #[.int .i64 0,.int .i64 0,.int .i64 0] 24);have Z:zk w.heap.size r w ((w.alloc (.cells #[(o:Int),l,m] 24)).alloc (.cells #[.int .i64 0,.int .i64 0,.int .i64 0] 24)):=y8 zy r;go_upto_region 1 with(fail)
 generalize(w.alloc (.cells #[(o:Int),l,m] 24)).alloc (.cells #[.int .i64 0,.int .i64 0,.int .i64 0] 24)=w0 at*;have z0:=P.lt;go_wp2_with fail;refine(pick_any r M 40 _ R0 oo oo oo).mono ?_;rintro e h ⟨⟨k,rfl,b2,b3⟩,z,F⟩;have z1:=F.size;try simp only[World.size_alloc,World.size_setCell,World.size_drew] at z1
 have n:=Y.zC F oA oo;have j:=P.zC F oA oo;have C:=Z.trans (F.mono oA);clear F Z Y P;have b4:=j.lt;by_cases h0:k=0
 ·subst h0
  have a0:=z.lt;have q:=Sl.list h [.int .i64 (-1),.int .i64 2] 3 h.heap.size 2 rfl rfl oo;go_wp2_with fail;refine(sZ r _ [(-1),2] (some ⟨h.heap.size,0,none⟩) 2 _ (z.alloc _) (by omega) q (by simp) (by simp) (by rintro g a1 ⟨⟩;omega)).mono ?_;rintro e G ⟨⟨y,H,rfl⟩,s,d⟩;have I:=d.size;try simp only[World.size_alloc,World.size_setCell,World.size_drew] at I
  have f:=(n.alloc _).zC d oA oo;have t:=(j.alloc _).zC d oA oo;have u:=(C.alloc oC _).trans (d.mono oA);clear d C n j;clear q H;have J:=f.cell;have L:=f.free;have x:=f.set 0 (.int .i64 y);have i:=t.far (p:=⟨w.heap.size,0,none⟩) (by show w.heap.size+1≠w.heap.size;omega) (.int .i64 y);have N:=s.far (p:=⟨w.heap.size,0,none⟩) (by show r<w.heap.size;omega) (.int .i64 y);have O:=u.setCell (p:=⟨w.heap.size,0,none⟩) (.inr (Nat.le_refl _)) (.int .i64 y);simp only[List.setIfInBounds_toArray,List.set_cons_zero,List.set_cons_succ] at x;go_upto_region 8 with(fail)
  generalize G.setCell ⟨w.heap.size,0,none⟩ (.int .i64 y)=W at*;clear f t s u J L;have R:=x.cell;have T:=i.free;have U:=i.cell;go_wp2;have Q:=(((i.set 0 (.int .i64 y)).set 1 (.int .i64 l)).set 2 (.int .i64 m)).cell;have D:Rd (((W.setCell ⟨w.heap.size+1,0,none⟩ (.int .i64 y)).setCell ⟨w.heap.size+1,1,none⟩ (.int .i64 l)).setCell ⟨w.heap.size+1,2,none⟩ (.int .i64 m)) r (M+5):=Rd.far (Rd.far (Rd.far (N.mono oo) (by show r<w.heap.size+1;omega) _) (by show r<w.heap.size+1;omega) _) (by show r<w.heap.size+1;omega) _;have E:zk w.heap.size r w (((W.setCell ⟨w.heap.size+1,0,none⟩ (.int .i64 y)).setCell ⟨w.heap.size+1,1,none⟩ (.int .i64 l)).setCell ⟨w.heap.size+1,2,none⟩ (.int .i64 m)):=zk.setCell (zk.setCell (zk.setCell O (.inr (by show w.heap.size≤w.heap.size+1;omega)) _) (.inr (by show w.heap.size≤w.heap.size+1;omega)) _) (.inr (by show w.heap.size≤w.heap.size+1;omega)) _;exact bodyPost_ret (v:=.agg #[(y:Int),l,m]) (by simp [results,results24,go_sem,Q]) rfl ⟨⟨y,l,m,rfl⟩,D,E⟩
 have b5:(k==0)=false:=(by rw[beq_eq_false_iff_ne];exact h0);by_cases h1:k=1
 ·subst h1
  have a0:=z.lt;have q:=Sl.list h [.int .i64 0,.int .i64 9,.int .i64 (-1),.int .i64 9223372036854775807] 3 h.heap.size 4 rfl rfl oo;go_wp2_with fail;refine(sZ r _ [0,9,(-1),9223372036854775807] (some ⟨h.heap.size,0,none⟩) 4 _ (z.alloc _) (by omega) q (by simp) (by simp) (by rintro g a1 ⟨⟩;omega)).mono ?_;rintro e G ⟨⟨y,H,rfl⟩,s,d⟩;have I:=d.size;try simp only[World.size_alloc,World.size_setCell,World.size_drew] at I
  have f:=(n.alloc _).zC d oA oo;have t:=(j.alloc _).zC d oA oo;have u:=(C.alloc oC _).trans (d.mono oA);clear d C n j;clear q H;have J:=f.cell;have L:=f.free;have x:=f.set 1 (.int .i64 y);have i:=t.far (p:=⟨w.heap.size,1,none⟩) (by show w.heap.size+1≠w.heap.size;omega) (.int .i64 y);have N:=s.far (p:=⟨w.heap.size,1,none⟩) (by show r<w.heap.size;omega) (.int .i64 y);have O:=u.setCell (p:=⟨w.heap.size,1,none⟩) (.inr (Nat.le_refl _)) (.int .i64 y);simp only[List.setIfInBounds_toArray,List.set_cons_zero,List.set_cons_succ] at x;go_upto_region 8 with(fail)
  generalize G.setCell ⟨w.heap.size,1,none⟩ (.int .i64 y)=W at*;clear f t s u J L;have R:=x.cell;have T:=i.free;have U:=i.cell;go_wp2;have Q:=(((i.set 0 (.int .i64 o)).set 1 (.int .i64 y)).set 2 (.int .i64 m)).cell;have D:Rd (((W.setCell ⟨w.heap.size+1,0,none⟩ (.int .i64 o)).setCell ⟨w.heap.size+1,1,none⟩ (.int .i64 y)).setCell ⟨w.heap.size+1,2,none⟩ (.int .i64 m)) r (M+5):=Rd.far (Rd.far (Rd.far (N.mono oo) (by show r<w.heap.size+1;omega) _) (by show r<w.heap.size+1;omega) _) (by show r<w.heap.size+1;omega) _;have E:zk w.heap.size r w (((W.setCell ⟨w.heap.size+1,0,none⟩ (.int .i64 o)).setCell ⟨w.heap.size+1,1,none⟩ (.int .i64 y)).setCell ⟨w.heap.size+1,2,none⟩ (.int .i64 m)):=zk.setCell (zk.setCell (zk.setCell O (.inr (by show w.heap.size≤w.heap.size+1;omega)) _) (.inr (by show w.heap.size≤w.heap.size+1;omega)) _) (.inr (by show w.heap.size≤w.heap.size+1;omega)) _;exact bodyPost_ret (v:=.agg #[(o:Int),(y:Int),m]) (by simp [results,results24,go_sem,Q]) rfl ⟨⟨o,y,m,rfl⟩,D,E⟩
 have b6:(k==1)=false:=(by rw[beq_eq_false_iff_ne];exact h1);by_cases h2:k=2
 ·subst h2
  have a0:=z.lt;have q:=Sl.list h [.int .i64 (l+1),.int .i64 11,.int .i64 (-1),.int .i64 (-9223372036854775808)] 3 h.heap.size 4 rfl rfl oo;have b7:=n.cell;go_wp2_with fail;refine(sZ r _ [(l+1),11,(-1),(-9223372036854775808)] (some ⟨h.heap.size,0,none⟩) 4 _ (z.alloc _) (by omega) q (by simp) (by simp) (by rintro g a1 ⟨⟩;omega)).mono ?_;rintro e G ⟨⟨y,H,rfl⟩,s,d⟩;have I:=d.size;try simp only[World.size_alloc,World.size_setCell,World.size_drew] at I
  have f:=(n.alloc _).zC d oA oo;have t:=(j.alloc _).zC d oA oo;have u:=(C.alloc oC _).trans (d.mono oA);clear d C n j;clear q H;have J:=f.cell;have L:=f.free;have x:=f.set 2 (.int .i64 y);have i:=t.far (p:=⟨w.heap.size,2,none⟩) (by show w.heap.size+1≠w.heap.size;omega) (.int .i64 y);have N:=s.far (p:=⟨w.heap.size,2,none⟩) (by show r<w.heap.size;omega) (.int .i64 y);have O:=u.setCell (p:=⟨w.heap.size,2,none⟩) (.inr (Nat.le_refl _)) (.int .i64 y);simp only[List.setIfInBounds_toArray,List.set_cons_zero,List.set_cons_succ] at x;go_upto_region 8 with(fail)
  generalize G.setCell ⟨w.heap.size,2,none⟩ (.int .i64 y)=W at*;clear f t s u J L;have R:=x.cell;have T:=i.free;have U:=i.cell;go_wp2;have Q:=(((i.set 0 (.int .i64 o)).set 1 (.int .i64 l)).set 2 (.int .i64 y)).cell;have D:Rd (((W.setCell ⟨w.heap.size+1,0,none⟩ (.int .i64 o)).setCell ⟨w.heap.size+1,1,none⟩ (.int .i64 l)).setCell ⟨w.heap.size+1,2,none⟩ (.int .i64 y)) r (M+5):=Rd.far (Rd.far (Rd.far (N.mono oo) (by show r<w.heap.size+1;omega) _) (by show r<w.heap.size+1;omega) _) (by show r<w.heap.size+1;omega) _;have E:zk w.heap.size r w (((W.setCell ⟨w.heap.size+1,0,none⟩ (.int .i64 o)).setCell ⟨w.heap.size+1,1,none⟩ (.int .i64 l)).setCell ⟨w.heap.size+1,2,none⟩ (.int .i64 y)):=zk.setCell (zk.setCell (zk.setCell O (.inr (by show w.heap.size≤w.heap.size+1;omega)) _) (.inr (by show w.heap.size≤w.heap.size+1;omega)) _) (.inr (by show w.heap.size≤w.heap.size+1;omega)) _;exact bodyPost_ret (v:=.agg #[(o:Int),l,(y:Int)]) (by simp [results,results24,go_sem,Q]) rfl ⟨⟨o,l,y,rfl⟩,D,E⟩
 have b8:(k==2)=false:=(by rw[beq_eq_false_iff_ne];exact h2);have R:=n.cell;have T:=j.free;have U:=j.cell;go_wp2;have Q:=(((j.set 0 (.int .i64 o)).set 1 (.int .i64 l)).set 2 (.int .i64 m)).cell;have D:Rd (((h.setCell ⟨w.heap.size+1,0,none⟩ (.int .i64 o)).setCell ⟨w.heap.size+1,1,none⟩ (.int .i64 l)).setCell ⟨w.heap.size+1,2,none⟩ (.int .i64 m)) r (M+5):=Rd.far (Rd.far (Rd.far (z.mono oo) (by show r<w.heap.size+1;omega) _) (by show r<w.heap.size+1;omega) _) (by show r<w.heap.size+1;omega) _;have E:zk w.heap.size r w (((h.setCell ⟨w.heap.size+1,0,none⟩ (.int .i64 o)).setCell ⟨w.heap.size+1,1,none⟩ (.int .i64 l)).setCell ⟨w.heap.size+1,2,none⟩ (.int .i64 m)):=zk.setCell (zk.setCell (zk.setCell C (.inr (by show w.heap.size≤w.heap.size+1;omega)) _) (.inr (by show w.heap.size≤w.heap.size+1;omega)) _) (.inr (by show w.heap.size≤w.heap.size+1;omega)) _;exact bodyPost_ret (v:=.agg #[(o:Int),l,m]) (by simp [results,results24,go_sem,Q]) rfl ⟨⟨o,l,m,rfl⟩,D,E⟩
