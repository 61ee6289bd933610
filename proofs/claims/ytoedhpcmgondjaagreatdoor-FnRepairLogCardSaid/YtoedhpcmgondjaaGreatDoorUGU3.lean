import Derived.Test.YtoedhpcmgondjaaGreatDoorUGU1
import Derived.Test.YtoedhpcmgondjaaGreatDoorUGP4
import Derived.Deep.Cut
import Derived.Test.YtoedhpcmgondjaaGreatDoorUGS5
set_option linter.all false
set_option maxHeartbeats 8000000
namespace Go.Proofs.YtoedhpcmgondjaaGreatDoor
open Go.RowKit
set_option maxRecDepth 100000
def PV (ps:List Pc)(c:Int):Prop:=0≤c∧c≤40∧TG ps c
def aC (ps:List Pc)(c:Int)(i:Nat)(h:i<ps.length):Prop:=0≤ps[i].1∧ps[i].1<c∧1≤ps[i].2.length∧ps[i].2.length≤64∧∀h0:0<i,(ps[i - 1]'oo).1<ps[i].1
theorem Ny (ps:List Pc)(c:Int):TG ps c↔∀(i:Nat) (h:i<ps.length),aC ps c i h:=by
 constructor
 ·intro h i a
  have h1:=h.1 i a;refine⟨h1.1,h1.2.1,h1.2.2.1,h1.2.2.2,fun h0=> ?_⟩;have h2:=h.2 (i - 1) oo;simpa [show i - 1+1=i by omega] using h2
 ·intro h
  refine⟨fun i a=> ?_,fun i a=> ?_⟩
  ·have h1:=h i a
   exact⟨h1.1,h1.2.1,h1.2.2.1,h1.2.2.2.1⟩
  ·have h1:=(h (i+1) a).2.2.2.2 oo
   simpa using h1
theorem Zx {ps:List Pc}{c:Int}(h:TG ps c):∀(j i:Nat) (a:j<ps.length) (b:i<j),(ps[i]'oo).1<ps[j].1
 |0,i,a,b=>by omega
 |j+1,i,a,b=>by
  have h1:=h.2 j a;by_cases e:i=j
  ·subst e;exact h1
  ·have:=Zx h j i oo oo;omega
theorem Y2 {ps:List Pc}{c:Int}{k:Nat}(a:∀(i:Nat) (h:i<ps.length),i<k→aC ps c i h)(hk:k<ps.length)(b:aC ps c k hk):∀(i:Nat) (h:i<ps.length),i<k+1→aC ps c i h:=by
 intro i h f;by_cases e:i=k
 ·subst e;exact b
 ·exact a i h oo
def dB (ps:List Pc)(n:Int):Option Bs:=(ps.find? fun p=>decide (p.1=n)).map (·.2)
theorem Qu {ps:List Pc}{n:Int}(h:∀(i:Nat) (a:i<ps.length),ps[i].1≠n):dB ps n=none:=by
 unfold dB;rw[Option.map_eq_none_iff,List.find?_eq_none];intro p b;obtain⟨i,a,rfl⟩:=List.getElem_of_mem b;simpa using h i a
theorem Xc {ps:List Pc}{n:Int}{i:Nat}(b:i<ps.length)(c:ps[i].1=n)(e:∀(j:Nat) (a:j<i),(ps[j]'oo).1≠n):dB ps n=some ps[i].2:=by
 unfold dB;have h:ps.find? (fun p=>decide (p.1=n))=some ps[i]:=by
  rw[List.find?_eq_some_iff_getElem];exact⟨by simpa using c,i,b,rfl,fun j a=>by simpa using e j a⟩
 rw[h];rfl
def AtN (ps:List Pc)(a:Nat)(n:Int):Prop:=a≤ps.length∧(∀(i:Nat) (h:i<ps.length),i<a→ps[i].1<n)∧∀(i:Nat) (h:i<ps.length),a≤i→n≤ps[i].1
theorem O8 {ps:List Pc}{c:Int}(h:TG ps c):AtN ps 0 0:=⟨by omega,fun i h b=>by omega,fun i a _=>(h.1 i a).1⟩
theorem NZ {ps:List Pc}{c:Int}(h:TG ps c){a:Nat}{n:Int}(e:AtN ps a n)(f:a<ps.length)(g:ps[a].1=n):dB ps n=some ps[a].2∧AtN ps (a+1) (n+1):=by
 refine⟨Xc f g fun j k=> ?_,oo,fun i b l=> ?_,fun i b l=> ?_⟩
 ·have:=e.2.1 j oo k;omega
 ·by_cases m:i=a
  ·subst m;omega
  ·have:=e.2.1 i b oo;omega
 ·have:=Zx h i a b oo;omega
theorem Oa {ps:List Pc}{c:Int}(h:TG ps c){a:Nat}{n:Int}(f:AtN ps a n)(l:∀m:a<ps.length,ps[a].1≠n):dB ps n=none∧AtN ps a (n+1):=by
 have j:∀(i:Nat) (b:i<ps.length),a≤i→n+1≤ps[i].1:=by
  intro i b k;have h1:=f.2.2 a oo (Nat.le_refl _);have h2:=l oo;by_cases g:i=a
  ·subst g;omega
  ·have:=Zx h i a b oo;omega
 refine⟨Qu fun i b e=> ?_,f.1,fun i b k=> ?_,j⟩
 ·by_cases g:i<a
  ·have:=f.2.1 i b g;omega
  ·have:=j i b oo;omega
 ·have:=f.2.1 i b k;omega
def jf (ps:List Pc)(k:Nat):List Int:=((List.range k).filter fun n:Nat=>(dB ps (n:Int)).isNone).map fun n:Nat=>(n:Int)
theorem QD {ps:List Pc}{k:Nat}{d:Bs}(h:dB ps k=some d):jf ps (k+1)=jf ps k:=by
 unfold jf;rw[List.range_succ,List.filter_append];simp [h]
theorem U5 {ps:List Pc}{k:Nat}(h:dB ps k=none):jf ps (k+1)=jf ps k++[(k:Int)]:=by
 unfold jf;rw[List.range_succ,List.filter_append];simp [h]
open Classical in
noncomputable def Oy (ps:List Pc)(c:Int):List Int:=if PV ps c then jf ps c.toNat else[]
theorem Pm {ps:List Pc}{c:Int}(h:PV ps c):Oy ps c=jf ps c.toNat:=by unfold Oy;rw[if_pos h]
def jD (ps:List Pc)(s:Nat)(f:UInt8)(k:Nat):Bs:=(List.range k).flatMap fun n:Nat=>(dB ps (n:Int)).getD (List.replicate s f)
theorem Ue (ps:List Pc)(s:Nat)(f:UInt8)(k:Nat):jD ps s f (k+1)=jD ps s f k++(dB ps (k:Int)).getD (List.replicate s f):=by
 unfold jD;rw[List.range_succ,List.flatMap_append];simp
def SS (ps:List Pc)(c s f:Int):Prop:=PV ps c∧1≤s∧s≤64∧0≤f∧f≤255
open Classical in
noncomputable def Oo (ps:List Pc)(c s f:Int):Option Bs:=if SS ps c s f then some (jD ps s.toNat (UInt8.ofNat f.toNat) c.toNat) else none
theorem Q4 {ps:List Pc}{c s f:Int}(h:SS ps c s f):Oo ps c s f=some (jD ps s.toNat (UInt8.ofNat f.toNat) c.toNat):=by unfold Oo;rw[if_pos h]
theorem Zu {ps:List Pc}{c:Int}(b:TG ps c):∀k:Nat,∃a:Nat,AtN ps a k∧(jf ps k).length+a=k
 |0=>⟨0,O8 b,rfl⟩
 |k+1=>by
  obtain⟨a,g,i⟩:=Zu b k;by_cases h:∃i:a<ps.length,ps[a].1=(k:Int)
  ·obtain⟨h1,h2⟩:=h
   obtain⟨e,f⟩:=NZ b g h1 h2;exact⟨a+1,f,by rw[QD e];omega⟩
  ·obtain⟨e,f⟩:=Oa b g fun h1 h2=>h ⟨h1,h2⟩
   exact⟨a,f,by rw[U5 e];simp;omega⟩
theorem O6 {ps:List Pc}{c:Int}(h:PV ps c):(jf ps c.toNat).length+ps.length=c.toNat:=by
 obtain⟨a,b,g⟩:=Zu h.2.2 c.toNat;have e:a=ps.length:=by
  by_cases f:a<ps.length
  ·have h1:=b.2.2 a f (Nat.le_refl _)
   have h2:=(h.2.2.1 a f).2.1;have:=h.1;omega
  ·have:=b.1;omega
 omega
end Go.Proofs.YtoedhpcmgondjaaGreatDoor
namespace Go.Proofs.YtoedhpcmgondjaaGreatDoor
open Go.RowKit
set_option maxRecDepth 100000
attribute [local go_sem high] zA zB zD zS zL yf zC zk zl zt zi zu yR zG yu zH
end Go.Proofs.YtoedhpcmgondjaaGreatDoor
namespace Go.Proofs.YtoedhpcmgondjaaGreatDoor
open Go.RowKit
theorem fA {K:Kn}(hk:K.ok)(n:Int){d:Bs}(e:d.length≤64):(xH K n d).dat K=some d:=by
 cases a:vJ K d with
 |none=>rw[YU a];unfold Blk.dat;rw[if_pos rfl]
 |some s=>
  rw[YT a];split
  ·rename_i f
   have b:fits K.o K.l K.m d:=by
    by_cases b:fits K.o K.l K.m d
    ·exact b
    ·unfold vJ at a;rw[if_neg b] at a;cases a
   have c:s=K.comp d:=(by unfold vJ at a;rw[if_pos b] at a;injection a with a;exact a.symm);subst c;have h:=Nj hk b.2.2 b.2.1 (by have:=Yd K d hk.base0 b.2.1;omega) oo;unfold Blk.dat;rw[if_neg (by simp),h,if_neg (by simp)]
  ·unfold Blk.dat;rw[if_pos rfl]
structure Made (K : Kn) (X d : Bs) (size : Nat) (bs : List Blk) (cs : List Bs) : Prop where
 num : pW 0 bs
 cat : wW bs = X
 siz : zn bs = (d.length : Int)
 len : bs.length = cs.length
 dat : ∀ (i : Nat) (h : i < bs.length) (h' : i < cs.length), bs[i].dat K = some cs[i] ∧ bs[i].size = (cs[i].length : Int)
 bd : ∀ x ∈ cs, 1 ≤ x.length ∧ x.length ≤ size
 flat : cs.flatten = d
 most : bs.length ≤ 40
 small : d.length ≤ 2000
theorem NV (f:Nat)(bs:List Blk)(i:Nat)(h:i<(vI f bs).length)(a:i<bs.length):(vI f bs)[i]= { bs[i] with num:=((f+i:Nat):Int) } :=by
 induction bs generalizing f i with
 |nil=>simp at a
 |cons b bs c=>
  cases i with
  |zero=>simp [vI]
  |succ i=>
   simp only[vI,List.getElem_cons_succ];have:=c (f+1) i (by simpa [vI] using h) (by simpa using a);rw[this,show f+1+i=f+(i+1) by omega]
theorem Ru (f:Nat)(bs:List Blk)(h:∀b ∈ bs,b.ok=true)(a:f+bs.length≤40):pW f (vI f bs):=by
 induction bs generalizing f with
 |nil=>trivial
 |cons b bs e=>
  rw[List.length_cons] at a;exact⟨U4 (h b (by simp)) (by omega) (by omega),rfl,e (f+1) (fun c g=>h c (by simp [g])) (by omega)⟩
theorem Me {o l m:Int}{dict d X:Bs}{size:Int}(h:mkC o l m dict d size=some X):
 ∃(n:Nat) (bs:List Blk) (cs:List Bs),size=n∧1≤n∧n≤64∧fits o l m dict∧(zy o l m dict).ok∧Made (zy o l m dict) X d n bs cs:=by
 unfold mkC at h;split at h
 ·rename_i f
  obtain⟨a,h1,h2,q,g⟩:=f;injection h with h
  obtain⟨n,rfl⟩:=Int.eq_ofNat_of_zero_le (by omega:0≤size);rw[Int.toNat_natCast] at h;have hk:=xG a;have b:(mks (zy o l m dict) n d.length d).length=(chunks n d.length d).length:=(by unfold mks;rw[List.length_map]);have j:(chunks n d.length d).length≤40:=uQ n oo 40 _ d oo;refine⟨n,vI 0 (mks (zy o l m dict) n d.length d),chunks n d.length d,rfl,oo,oo,a,hk,?_,?_,?_,?_,?_,?_,?_,?_,g⟩
  ·exact Ru 0 _ (Yg hk n _ oo oo d) oo
  ·rw[←h];unfold mkB;rw[Yh]
  ·rw[aJ,Xx _ _ _ (by omega) d (Nat.le_refl _)]
  ·rw[dX,b]
  ·intro i k p
   have c:=oZ n oo d.length d (chunks n d.length d)[i] (List.getElem_mem p);rw[NV 0 _ i k (by omega)];have e:(mks (zy o l m dict) n d.length d)[i]'(by omega)=xH (zy o l m dict) 0 (chunks n d.length d)[i]:=(by unfold mks;rw[List.getElem_map]);rw[e,VS];exact⟨fA hk _ oo,dD _ _ _⟩
  ·exact fun x c=>oZ n oo d.length d x c
  ·exact mg n oo d.length d (Nat.le_refl _)
  ·rw[dX,b];exact j
 ·cases h
section
variable {K : Kn} {X d : Bs} {n : Nat} {bs : List Blk} {cs : List Bs}
theorem Made.blocks (h:Made K X d n bs cs):zX X=some bs:=by
 rw[←h.cat];exact ZO h.num (by have:=h.siz;have:=h.small;omega)
theorem Made.ok (h:Made K X d n bs cs):∀b ∈ bs,b.ok=true:=dG h.num
theorem Made.short (h:Made K X d n bs cs):X.length≤2960:=(xO h.blocks).1
theorem Made.find (h:Made K X d n bs cs):fE X=jI 0 bs:=by
 have h1:=Nk h.ok (by rw[h.cat];have:=h.short;omega);rw[h.cat] at h1;exact h1
theorem QY {f:Nat}{bs:List Blk}(h:pW f bs)(i:Nat)(a:i<bs.length):(bs.find? fun b=>decide (b.num=((f+i:Nat):Int)))=some bs[i]:=by
 rw[List.find?_eq_some_iff_getElem];refine⟨by simpa using(lK h i a).2,i,a,rfl,fun j c=> ?_⟩;have:=(lK h j oo).2;simp only[Bool.not_eq_true',decide_eq_false_iff_not];omega
theorem Made.first (h:Made K X d n bs cs)(i:Nat)(a:i<bs.length):iq (fE X) (i:Int)=some bs[i]:=by
 rw[h.find,jq];have:=QY h.num i a
 rwa [Nat.zero_add] at this
def nC (cs:List Bs)(k:Nat):List Pc:=(List.range k).filterMap fun i:Nat=>cs[i]?.map fun x=>((i:Int),x)
theorem jF (cs:List Bs)(k:Nat)(h:k<cs.length):nC cs (k+1)=nC cs k++[((k:Int),cs[k])]:=by
 unfold nC;rw[List.range_succ,List.filterMap_append];simp [List.getElem?_eq_getElem h]
theorem uY (cs:List Bs)(k:Nat)(h:k≤cs.length):(nC cs k).length=k:=by
 induction k with
 |zero=>rfl
 |succ k a=>rw[jF cs k (by omega),List.length_append,a (by omega)];rfl
theorem gB (cs:List Bs)(k i:Nat)(h:k≤cs.length)(a:i<(nC cs k).length):∃e:i<cs.length,(nC cs k)[i]=((i:Int),cs[i]):=by
 induction k with
 |zero=>simp [nC] at a
 |succ k b=>
  have f:=uY cs (k+1) h;have c:=uY cs k oo;by_cases g:i<k
  ·obtain⟨h1,h2⟩:=b oo oo
   refine⟨h1,?_⟩;simp only[jF cs k (by omega)];rw[List.getElem_append_left (by omega)];exact h2
  ·have:i=k:=oo
   subst this;refine⟨by omega,?_⟩;simp only[jF cs i (by omega)];rw[List.getElem_append_right (by omega)];simp [c]
theorem Made.has (h:Made K X d n bs cs)(i:Nat)(c:i<cs.length):dB (nC cs cs.length) (i:Int)=some cs[i]:=by
 have f:=uY cs cs.length (Nat.le_refl _);have a:i<(nC cs cs.length).length:=oo;obtain⟨_,e⟩:=gB cs cs.length i (Nat.le_refl _) a;rw[Xc a (by rw[e]) (fun j g=>by
  obtain⟨_,b⟩:=gB cs cs.length j (Nat.le_refl _) oo;rw[b];simp;omega),e]
theorem Made.pv (h:Made K X d n bs cs)(f:n≤64):PV (nC cs cs.length) cs.length:=by
 have g:=uY cs cs.length (Nat.le_refl _);have j:=h.most;have k:=h.len;refine⟨by omega,oo,(Ny _ _).2 fun i a=> ?_⟩;obtain⟨h1,e⟩:=gB cs cs.length i (Nat.le_refl _) a;have b:=h.bd cs[i] (List.getElem_mem h1);unfold aC;rw[e];refine⟨by simp,by simp;omega,b.1,by simp;omega,fun h0=> ?_⟩;obtain⟨_,c⟩:=gB cs cs.length (i - 1) (Nat.le_refl _) oo;rw[c];simp;omega
theorem Made.lost (h:Made K X d n bs cs)(b:n≤64):Oy (nC cs cs.length) cs.length=[]:=by
 have a:=h.pv b;have c:=uY cs cs.length (Nat.le_refl _);rw[Pm a];have:=O6 a;rw[Int.toNat_natCast] at this⊢;exact List.eq_nil_of_length_eq_zero oo
theorem Xt (cs:List Bs)(ps:List Pc)(s:Nat)(f:UInt8)(a:∀i (b:i<cs.length),dB ps (i:Int)=some cs[i]):∀k,k≤cs.length→jD ps s f k=(cs.take k).flatten
 |0,_=>by simp [jD]
 |k+1,h=>by
  have e:cs.take (k+1)=cs.take k++[cs[k]]:=List.take_succ_eq_append_getElem oo;rw[Ue,Xt cs ps s f a k (by omega),a k (by omega),e,List.flatten_append];simp only[Option.getD_some,List.flatten_cons,List.flatten_nil,List.append_nil]
theorem Made.join (h:Made K X d n bs cs)(e:1≤n)(a:n≤64):Oo (nC cs cs.length) cs.length n 0=some d:=by
 have b:=h.pv a;rw[Q4 (show SS (nC cs cs.length) cs.length n 0 from⟨b,by omega,by omega,by omega,by omega⟩),Int.toNat_natCast,Int.toNat_natCast,Xt cs _ _ _ (fun i c=>h.has i c) cs.length (Nat.le_refl _),List.take_length,h.flat]
theorem Ve {X:Bs}(h:Made K X d n bs cs):∀k,k≤bs.length→(ZM (bs.take k) (fE X)).length=k
 |0,_=>rfl
 |k+1,hk=>by
  have b:=h.first k oo;have a:=(lK h.num k oo).2;rw[Nat.zero_add] at a;rw[List.take_succ_eq_append_getElem (by omega),Su,if_pos (by rw[a];exact b),List.length_append,Ve h k (by omega)];rfl
theorem Made.KI (h:Made K X d n bs cs):(Lp X X).length=bs.length:=by
 unfold Lp;rw[h.blocks];have:=Ve h bs.length (Nat.le_refl _)
 rwa [List.take_length] at this
end
theorem N8 (K:Kn)(b:Blk)(k:Int):({ b with num:=k } :Blk).dat K=b.dat K:=by unfold Blk.dat;rfl
theorem vM (K:Kn)(b:Blk)(bs:List Blk):yL K (b::bs)=(b.dat K).bind fun d=>(yL K bs).map (d++·):=rfl
theorem kQ (K:Kn)(bs cs:List Blk):yL K (bs++cs)=(yL K bs).bind fun x=>(yL K cs).map (x++·):=by
 induction bs with
 |nil=>simp only[List.nil_append,yL,Option.bind_some];cases yL K cs<;>simp
 |cons c bs a=>
  rw[List.cons_append,vM,vM,a]
  cases c.dat K with
  |none=>rfl
  |some d=>
   simp only[Option.bind_some]
   cases yL K bs with
   |none=>rfl
   |some x=>simp only[Option.bind_some,Option.map_some];cases yL K cs<;>simp
theorem TF (K:Kn)(f:Nat)(bs:List Blk):yL K (vI f bs)=yL K bs:=by
 induction bs generalizing f with
 |nil=>rfl
 |cons b bs a=>rw[vI,vM,vM,a,N8]
theorem XR {K:Kn}(hk:K.ok)(a:List Bs)(h:∀x ∈ a,x.length≤64):yL K (a.map (xH K 0))=some a.flatten:=by
 induction a with
 |nil=>rfl
 |cons x a b=>rw[List.map_cons,vM,fA hk 0 (h x (by simp)),Option.bind_some,b (fun y c=>h y (by simp [c]))];rfl
theorem QX {K:Kn}(hk:K.ok){n:Nat}(h1:1≤n)(h2:n≤64)(d:Bs):yL K (mks K n d.length d)=some d:=by
 unfold mks;rw[XR hk _ (fun x a=>by have:=oZ n h1 d.length d x a;omega),mg n h1 d.length d (Nat.le_refl _)]
theorem SI {bs:List Blk}{X:Bs}(c:∀b ∈ bs,b.ok=true)(h:mcO bs=some X):zX X=some (vI 0 bs)∧bs.length≤40∧zn bs≤2000:=by
 unfold mcO at h;split at h
 ·rename_i a
  injection h with h
  rw[←h];exact⟨ZO (Ru 0 bs c (by omega)) (by rw[aJ];exact a.2),a.1,a.2⟩
 ·cases h
theorem TN {o l m:Int}{dict:Bs}(a:fits o l m dict){bs:List Blk}{X:Bs}(c:∀b ∈ bs,b.ok=true)(h:mcO bs=some X):cdB o l m dict X=yL (zy o l m dict) bs:=by
 rw[rO a (SI c h).1,TF]
def nwO (K:Kn)(d:Bs)(size:Int):Option (List Blk):=if 1≤size∧size≤64∧d.length≤2000∧(d.length:Int)≤size*40 then some (mks K size.toNat d.length d) else none
theorem Vy {K:Kn}{d:Bs}{size:Int}{bs:List Blk}(h:nwO K d size=some bs):∃n:Nat,size=n∧1≤n∧n≤64∧d.length≤2000∧d.length≤n*40∧bs=mks K n d.length d:=by
 unfold nwO at h;split at h
 ·rename_i a
  injection h with h
  obtain⟨n,rfl⟩:=Int.eq_ofNat_of_zero_le (by omega:0≤size);exact⟨n,rfl,by omega,by omega,a.2.2.1,by omega,by rw[←h,Int.toNat_natCast]⟩
 ·cases h
theorem WO {K:Kn}(hk:K.ok){d:Bs}{size:Int}{bs:List Blk}(h:nwO K d size=some bs):(∀b ∈ bs,b.ok=true)∧bs.length≤40:=by
 obtain⟨n,rfl,h1,h2,a,c,rfl⟩:=Vy h;refine⟨Yg hk n _ h1 h2 d,?_⟩;unfold mks;rw[List.length_map];exact uQ n h1 40 _ d oo
theorem Rw {K:Kn}(hk:K.ok){d:Bs}{size:Int}{bs:List Blk}(h:nwO K d size=some bs):yL K bs=some d:=by
 obtain⟨n,rfl,h1,h2,a,b,rfl⟩:=Vy h;exact QX hk h1 h2 d
def apD (o l m:Int)(dict t d:Bs)(size:Int):Option Bs:=if fits o l m dict then(zX t).bind fun bs=>(nwO (zy o l m dict) d size).bind fun cs=>mcO (bs++cs) else none
theorem qG {bs cs:List Blk}(h1:∀b ∈ bs,b.ok=true)(h2:∀b ∈ cs,b.ok=true):∀b ∈ bs++cs,b.ok=true:=fun b a=>by
 rcases List.mem_append.1 a with h|h
 ·exact h1 b h
 ·exact h2 b h
theorem xh {α a:Type}{o:Option α}{f:α→Option a}{y:a}(h:o.bind f=some y):∃x,o=some x∧f x=some y:=by
 cases o with
 |none=>cases h
 |some x=>exact⟨x,rfl,h⟩
theorem NI {o l m:Int}{dict t d X:Bs}{size:Int}(h:apD o l m dict t d size=some X):
 ∃bs cs,fits o l m dict∧zX t=some bs∧nwO (zy o l m dict) d size=some cs∧mcO (bs++cs)=some X∧∀b ∈ bs++cs,b.ok=true:=by
 unfold apD at h;split at h
 ·rename_i a
  obtain⟨bs,c,h⟩:=xh h;obtain⟨cs,e,h⟩:=xh h;exact⟨bs,cs,a,c,e,h,qG (xY c) (WO (xG a) e).1⟩
 ·cases h
theorem OZ {o l m:Int}{dict t d X y:Bs}{size:Int}(h:apD o l m dict t d size=some X)(b:cdB o l m dict t=some y):cdB o l m dict X=some (y++d):=by
 obtain⟨bs,cs,a,c,e,f,g⟩:=NI h;rw[rO a c] at b;rw[TN a g f,kQ,b,Option.bind_some,Rw (xG a) e];rfl
def x8 (K:Kn)(s f t:Int)(b:Blk):Option (List Blk):=
 if min (s+b.size) t≤max s f then some [] else
 if max s f=s∧min (s+b.size) t=s+b.size then some [b] else
 (b.dat K).map fun d=>[xH K 0 ((d.drop (max s f - s).toNat).take (min (s+b.size) t - max s f).toNat)]
def wS (K:Kn)(f t:Int):Int→List Blk→Option (List Blk)
 |_,[]=>some []
 |s,b::bs=>(x8 K s f t b).bind fun x=>(wS K f t (s+b.size) bs).map (x++·)
theorem fZ (K:Kn)(f t:Int)(bs:List Blk)(b:Blk)(s:Int):wS K f t s (bs++[b])=(wS K f t s bs).bind fun x=>(x8 K (s+zn bs) f t b).map (x++·):=by
 induction bs generalizing s with
 |nil=>simp only[List.nil_append,wS,Option.bind_some];rw[show zn []=0 from rfl,Int.add_zero];cases x8 K s f t b<;>simp
 |cons c bs a=>
  rw[List.cons_append,wS,wS,a,ry,Int.add_assoc]
  cases x8 K s f t c with
  |none=>rfl
  |some d=>
   simp only[Option.bind_some]
   cases wS K f t (s+c.size) bs with
   |none=>rfl
   |some x=>simp only[Option.bind_some,Option.map_some];cases x8 K (s+(c.size+zn bs)) f t b<;>simp
theorem Xg {K:Kn}{f t:Int}{bs:List Blk}{k:Nat}{x y:List Blk}(hk:k<bs.length)(h:wS K f t 0 (bs.take k)=some x)(a:x8 K (zn (bs.take k)) f t bs[k]=some y):wS K f t 0 (bs.take (k+1))=some (x++y):=by
 rw[List.take_succ_eq_append_getElem hk,fZ,h,Int.zero_add,a];rfl
theorem Yx {K:Kn}{f t:Int}{bs:List Blk}(h:wS K f t 0 bs=none)(cs:List Blk):wS K f t 0 (bs++cs)=none:=by
 induction cs using y7 with
 |h0=>simpa using h
 |h1 cs c a=>rw[←List.append_assoc,fZ,a];rfl
theorem Y1 {K:Kn}{f t:Int}{bs:List Blk}{k:Nat}(hk:k<bs.length)(a:x8 K (zn (bs.take k)) f t bs[k]=none):wS K f t 0 bs=none:=by
 have h:wS K f t 0 (bs.take (k+1))=none:=by
  rw[List.take_succ_eq_append_getElem hk,fZ,Int.zero_add,a];cases wS K f t 0 (bs.take k)<;>rfl
 have e:=Yx h (bs.drop (k+1))
 rwa [List.take_append_drop] at e
theorem QL {K:Kn}(hk:K.ok){s f t:Int}{b:Blk}{x:List Blk}(e:b.ok=true)(h:x8 K s f t b=some x):(∀c ∈ x,c.ok=true)∧x.length≤1:=by
 unfold x8 at h;split at h
 ·injection h with h;subst h;exact⟨fun c a=>(by cases a),by simp⟩
 ·rename_i h1
  split at h
  ·injection h with h;subst h;exact⟨fun c a=>by simp at a;rw[a];exact e,by simp⟩
  ·rename_i h2
   cases hd:b.dat K with
   |none=>rw[hd] at h;cases h
   |some d=>
    rw[hd] at h;injection h with h
    subst h;have g:=tX e hd;have i:=Blk.vz e;refine⟨fun c a=> ?_,by simp⟩;simp at a;rw[a];exact Wy hk (by omega) (by omega) (by simp;omega) (by simp;omega)
theorem kX {K:Kn}(hk:K.ok){f t:Int} :∀(bs:List Blk) (s:Int) (x:List Blk),(∀b ∈ bs,b.ok=true)→wS K f t s bs=some x→(∀c ∈ x,c.ok=true)∧x.length≤bs.length
 |[],s,x,_,h=>by
  injection h with h;subst h;exact⟨fun c a=>(by cases a),by simp⟩
 |b::bs,s,x,e,h=>by
  rw[wS] at h;obtain⟨y,g,h⟩:=xh h
  cases a:wS K f t (s+b.size) bs with
  |none=>rw[a] at h;cases h
  |some z=>
   rw[a] at h;injection h with h
   subst h;obtain⟨i,k⟩:=QL hk (e b (by simp)) g;obtain⟨j,l⟩:=kX hk bs _ z (fun c a=>e c (by simp [a])) a;refine⟨qG i j,?_⟩;rw[List.length_append,List.length_cons];omega
def aB (s f t:Int)(d:Bs):Bs:=(d.take (t - s).toNat).drop (f - s).toNat
theorem P9 (s f t:Int)(d e:Bs)(a:0≤f - s∨True):aB s f t (d++e)=aB s f t d++aB (s+d.length) f t e:=by
 unfold aB;rw[List.take_append,List.drop_append,List.length_take,show(t - (s+(d.length:Int))).toNat=(t - s).toNat - d.length by omega];by_cases h:(t - s).toNat≤d.length
 ·rw[show(t - s).toNat - d.length=0 by omega];simp
 ·rw[Nat.min_eq_right (by omega),show(f - s).toNat - d.length=(f - (s+(d.length:Int))).toNat by omega]
theorem UH {K:Kn}(hk:K.ok){s f t:Int}{b:Blk}{x:List Blk}{d:Bs}(c:b.ok=true)(a:b.dat K=some d)(h:x8 K s f t b=some x):yL K x=some (aB s f t d):=by
 have e:=tX c a;have g:=Blk.vz c;unfold x8 at h;split at h
 ·rename_i h1
  injection h with h;subst h
  unfold aB;rw[List.drop_of_length_le (by rw[List.length_take];omega)];rfl
 ·rename_i h1
  split at h
  ·rename_i h2
   injection h with h;subst h
   unfold aB;rw[vM,a,List.take_of_length_le (by omega),show(f - s).toNat=0 by omega];simp [yL]
  ·rename_i h2
   rw[a] at h;injection h with h;subst h
   rw[vM,fA hk 0 (by simp;omega)];unfold aB;rw[Option.bind_some,show yL K []=some [] from rfl,Option.map_some,List.append_nil,List.take_drop];by_cases i:t≤s+b.size
   ·rw[show(max s f - s).toNat+(min (s+b.size) t - max s f).toNat=(t - s).toNat by omega,show(max s f - s).toNat=(f - s).toNat by omega]
   ·rw[List.take_of_length_le (show d.length≤(t - s).toNat by omega),List.take_of_length_le (show d.length≤(max s f - s).toNat+(min (s+b.size) t - max s f).toNat by omega),show(max s f - s).toNat=(f - s).toNat by omega]
theorem ZB {K:Kn}(hk:K.ok){f t:Int} :∀(bs:List Blk) (s:Int) (x:List Blk) (d:Bs),(∀b ∈ bs,b.ok=true)→yL K bs=some d→wS K f t s bs=some x→yL K x=some (aB s f t d)
 |[],s,x,d,_,a,h=>by
  injection h with h;subst h;injection a with a;subst a;unfold aB;simp [yL]
 |b::bs,s,x,d,g,a,h=>by
  rw[wS] at h;rw[vM] at a;obtain⟨y,j,h⟩:=xh h;obtain⟨p,i,a⟩:=xh a
  cases e:wS K f t (s+b.size) bs with
  |none=>rw[e] at h;cases h
  |some z=>
   cases hd2:yL K bs with
   |none=>rw[hd2] at a;cases a
   |some k=>
    rw[e] at h;rw[hd2] at a;injection h with h
    injection a with a
    subst h a;have l:=UH hk (g b (by simp)) i j;have m:=tX (g b (by simp)) i;have o:=ZB hk bs (s+b.size) z k (fun c e=>g c (by simp [e])) hd2 e;rw[kQ,l,Option.bind_some,o,P9 _ _ _ _ _ (.inr trivial),m];rfl
def rpD (o l m:Int)(dict t:Bs)(f e:Int)(d:Bs)(size:Int):Option Bs:=if fits o l m dict then
 (zX t).bind fun bs=>if 0≤f∧f≤e∧e≤zn bs then(nwO (zy o l m dict) d size).bind fun cs=>(wS (zy o l m dict) 0 f 0 bs).bind fun a=>(wS (zy o l m dict) e (zn bs) 0 bs).bind fun b=>mcO (a++cs++b) else none
 else none
theorem O3 {o l m:Int}{dict t d X:Bs}{f e size:Int}(h:rpD o l m dict t f e d size=some X):
 ∃bs cs a c,fits o l m dict∧zX t=some bs∧0≤f∧f≤e∧e≤zn bs∧nwO (zy o l m dict) d size=some cs∧wS (zy o l m dict) 0 f 0 bs=some a∧wS (zy o l m dict) e (zn bs) 0 bs=some c∧mcO (a++cs++c)=some X∧∀b ∈ a++cs++c,b.ok=true:=by
 unfold rpD at h;split at h
 ·rename_i j
  obtain⟨bs,g,h⟩:=xh h;split at h
  ·rename_i i
   obtain⟨cs,k,h⟩:=xh h;obtain⟨a,p,h⟩:=xh h;obtain⟨c,q,h⟩:=xh h;have hk:=xG j;exact⟨bs,cs,a,c,j,g,i.1,i.2.1,i.2.2,k,p,q,h,qG (qG (kX hk bs 0 a (xY g) p).1 (WO hk k).1) (kX hk bs 0 c (xY g) q).1⟩
  ·cases h
 ·cases h
theorem Oz {o l m:Int}{dict t d X y:Bs}{f e size:Int}(h:rpD o l m dict t f e d size=some X)(a:cdB o l m dict t=some y):
 0≤f∧f≤e∧e≤y.length∧cdB o l m dict X=some (y.take f.toNat++d++y.drop e.toNat):=by
 obtain⟨bs,cs,g,i,c,b,h1,h2,w,j,k,p,q,r⟩:=O3 h;have hk:=xG c;rw[rO c b] at a;have s:=Q9 (xY b) a;have u:=ZB hk bs 0 g y (xY b) a k;have v:=ZB hk bs 0 i y (xY b) a p;refine⟨h1,h2,oo,?_⟩;rw[TN c r q,kQ,kQ,u,Option.bind_some,Rw hk j,Option.map_some,Option.bind_some,v,Option.map_some];unfold aB;rw[←s];simp
def vO (K:Kn)(size:Int)(a:List Blk×Bs)(b:Blk)(d:Bs):List Blk×Bs:=
 if a.1≠[]∧((a.2.length:Int)+d.length)≤size then(a.1.dropLast++[xH K 0 (a.2++d)],a.2++d) else(a.1++[b],d)
def qg (K:Kn)(size:Int):List Blk×Bs→List Blk→Option (List Blk×Bs)
 |a,[]=>some a
 |a,b::bs=>(b.dat K).bind fun d=>qg K size (vO K size a b d) bs
theorem eY (K:Kn)(size:Int)(bs:List Blk)(b:Blk)(a:List Blk×Bs):qg K size a (bs++[b])=(qg K size a bs).bind fun x=>(b.dat K).map fun d=>vO K size x b d:=by
 induction bs generalizing a with
 |nil=>simp only[List.nil_append,qg,Option.bind_some];cases b.dat K<;>rfl
 |cons c bs e=>
  rw[List.cons_append,qg,qg]
  cases c.dat K with
  |none=>rfl
  |some d=>simp only[Option.bind_some];exact e _
theorem eu {K:Kn}{size:Int}{bs:List Blk}{k:Nat}{x:List Blk×Bs}{d:Bs}(hk:k<bs.length)(h:qg K size ([],[]) (bs.take k)=some x)(a:bs[k].dat K=some d):qg K size ([],[]) (bs.take (k+1))=some (vO K size x bs[k] d):=by
 rw[List.take_succ_eq_append_getElem hk,eY,h,a];rfl
theorem Yp {K:Kn}{size:Int}{bs:List Blk}(h:qg K size ([],[]) bs=none)(cs:List Blk):qg K size ([],[]) (bs++cs)=none:=by
 induction cs using y7 with
 |h0=>simpa using h
 |h1 cs c a=>rw[←List.append_assoc,eY,a];rfl
theorem PQ {K:Kn}{size:Int}{bs:List Blk}{k:Nat}(hk:k<bs.length)(a:bs[k].dat K=none):qg K size ([],[]) bs=none:=by
 have h:qg K size ([],[]) (bs.take (k+1))=none:=by
  rw[List.take_succ_eq_append_getElem hk,eY,a];cases qg K size ([],[]) (bs.take k)<;>rfl
 have e:=Yp h (bs.drop (k+1))
 rwa [List.take_append_drop] at e
structure nS (K : Kn) (size : Int) (a : List Blk × Bs) (n : Nat) (y : Bs) : Prop where
 ok : ∀ b ∈ a.1, b.ok = true
 len : a.1.length ≤ n
 dat : yL K a.1 = some y
 last : ∀ (h : a.1 ≠ []), (a.1.getLast h).dat K = some a.2 ∧ (a.1.getLast h).size = (a.2.length : Int)
 nil : a.1 = [] → y = []
theorem nS.zero (K:Kn)(size:Int):nS K size ([],[]) 0 []:=⟨fun b a=>(by cases a),by simp,rfl,fun h=>absurd rfl h,fun _=>rfl⟩
theorem nS.step {K:Kn}(hk:K.ok){size:Int}(h2:size≤64){a:List Blk×Bs}{n:Nat}{y:Bs}(h:nS K size a n y){b:Blk}{d:Bs}(j:b.ok=true)(k:b.dat K=some d):nS K size (vO K size a b d) (n+1) (y++d):=by
 have p:=tX j k;have r:=Blk.vz j;obtain⟨i,l⟩:=a;unfold vO;simp only at*;by_cases f:i≠[]∧((l.length:Int)+d.length)≤size
 ·rw[if_pos f]
  obtain⟨m,s⟩:=f;obtain⟨q,t⟩:=h.last m;have e:=List.dropLast_concat_getLast m;have g:=h.dat;rw[←e,um,q] at g
  cases hx:yL K i.dropLast with
  |none=>rw[hx] at g;cases g
  |some x=>
   rw[hx] at g;injection g with g
   have u:i.dropLast.length+1=i.length:=by
    have:=congrArg List.length e;rw[List.length_append,List.length_singleton] at this;exact this
   have o:(xH K 0 (l++d)).dat K=some (l++d):=fA hk 0 (by rw[List.length_append];omega);refine⟨fun c f=> ?_,?_,?_,fun _=> ?_,fun h0=> ?_⟩
   ·rcases List.mem_append.1 f with f|f
    ·exact h.ok c (List.dropLast_subset _ f)
    ·simp at f;rw[f];exact Wy hk (by omega) (by omega) (by rw[List.length_append];omega) (by rw[List.length_append];omega)
   ·have:=h.len;simp only[List.length_append,List.length_singleton] at*;omega
   ·rw[um,hx,o,←g];simp
   ·rw[List.getLast_concat];exact⟨o,dD _ _ _⟩
   ·simp at h0
 ·rw[if_neg f]
  refine⟨qG h.ok (fun c f=>by simp at f;rw[f];exact j),?_,?_,fun _=> ?_,fun h0=> ?_⟩
  ·have:=h.len;simp only[List.length_append,List.length_singleton] at*;omega
  ·rw[um,h.dat,k];rfl
  ·rw[List.getLast_concat];exact⟨k,p.symm⟩
  ·simp at h0
theorem UD {K:Kn}(hk:K.ok){size:Int}(h2:size≤64){bs:List Blk}(c:∀b ∈ bs,b.ok=true):∀(k:Nat) (y:Bs),k≤bs.length→yL K (bs.take k)=some y→∃a,qg K size ([],[]) (bs.take k)=some a∧nS K size a k y
 |0,y,_,h=>⟨([],[]),rfl,by injection h with h;subst h;exact nS.zero K size⟩
 |k+1,y,i,h=>by
  rw[List.take_succ_eq_append_getElem (by omega),um] at h;obtain⟨x,e,h⟩:=xh h
  cases hd:bs[k].dat K with
  |none=>rw[hd] at h;cases h
  |some d=>
   rw[hd] at h;injection h with h
   subst h;obtain⟨a,f,g⟩:=UD hk h2 c k x oo e;exact⟨_,eu oo f hd,g.step hk h2 (c _ (List.getElem_mem _)) hd⟩
def mgD (o l m:Int)(dict t:Bs)(size:Int):Option Bs:=if fits o l m dict∧1≤size∧size≤64 then(zX t).bind fun bs=>(qg (zy o l m dict) size ([],[]) bs).bind fun a=>mcO a.1 else none
theorem YY {K:Kn}{size:Int} :∀(bs:List Blk) (a x:List Blk×Bs),qg K size a bs=some x→∃y,yL K bs=some y
 |[],a,x,_=>⟨[],rfl⟩
 |b::bs,a,x,h=>by
  rw[qg] at h;obtain⟨d,c,h⟩:=xh h;obtain⟨y,e⟩:=YY bs _ _ h;exact⟨d++y,by rw[vM,c,Option.bind_some,e];rfl⟩
theorem Vz {o l m:Int}{dict t X:Bs}{size:Int}(h:mgD o l m dict t size=some X):
 ∃bs a y,fits o l m dict∧1≤size∧size≤64∧zX t=some bs∧yL (zy o l m dict) bs=some y∧nS (zy o l m dict) size a bs.length y∧mcO a.1=some X:=by
 unfold mgD at h;split at h
 ·rename_i b
  obtain⟨bs,e,h⟩:=xh h;obtain⟨a,f,h⟩:=xh h;obtain⟨y,g⟩:=YY bs _ _ f;obtain⟨j,c,i⟩:=UD (xG b.1) (size:=size) b.2.2 (xY e) bs.length y (Nat.le_refl _) (by rw[List.take_length];exact g);rw[List.take_length,f] at c;injection c with c
  subst c;exact⟨bs,a,y,b.1,b.2.1,b.2.2,e,g,i,h⟩
 ·cases h
theorem NG {o l m:Int}{dict t X:Bs}{size:Int}(h:mgD o l m dict t size=some X):∃y,cdB o l m dict t=some y∧cdB o l m dict X=some y:=by
 obtain⟨bs,a,y,b,h1,h2,e,f,c,g⟩:=Vz h;exact⟨y,by rw[rO b e,f],by rw[TN b c.ok g,c.dat]⟩
end Go.Proofs.YtoedhpcmgondjaaGreatDoor
namespace Go.Proofs.YtoedhpcmgondjaaGreatDoor
open Go.Lib(hid)
open Go.RowKit Go.Proofs.Tryz
set_option maxRecDepth 100000
attribute [local instance] mU hZ cvZ
attribute [local go_sem high] zA zB zD zS zL yf zC zk zl zt zi zu yR zG yu zH
theorem Yi (bs:List Blk):∀u ∈ zU bs,u.oneCell'=true:=by
 intro u a;unfold zU at a;obtain⟨b,_,c⟩:=List.mem_flatMap.1 a;simp only[bkL,List.mem_cons,List.not_mem_nil,or_false] at c;rcases c with rfl|rfl|rfl|rfl<;>rfl
theorem jU (bs:List Blk)(A:Option Addr)(cap:Nat)(w:World)(f:Sl w A bs.length cap 4 (zU bs))(j:∀b ∈ bs,b.ok=true)(G:bs.length≤1000000):
 Calls prog 125 #[.slice A bs.length cap] w fun e w'=>e= .returned (.int .i64 (zn bs))∧Below w.heap.size w w':=by
 have l:=hid j;have H:=f.1;go_enter func125,ntmps125;go_wp2;have u:Hid (∀wr,Below w.heap.size w wr→Sl wr A bs.length cap 4 (zU bs)):=fun wr h=>f.below h;clear f j;go_loopw [3,4] (fun s i wr=>∃k:Nat,s= .int .i64 (zn (bs.take k))∧i= .int .i64 k∧k≤bs.length∧Below w.heap.size w wr) (fun _ i _=>bs.length - (intOf i).toNat)
 case atStart=>exact⟨0,rfl,rfl,oo,zx⟩
 case round=>
  obtain⟨k,rfl,rfl,hk,a⟩:=hrel;have I:=a.size;have v:=vV (bs.take k) (fun b a=>l.out b (List.mem_of_mem_take a));have m:(bs.take k).length≤1000000:=(by simp;omega);have J:=hid m;obtain⟨L,x⟩:=v;have M:zn (bs.take k)≤64000000:=oo;clear x m;by_cases c:k<bs.length
  ·have y:(k:Int)<bs.length:=oo
   have o:=u.out wr a;obtain⟨g,N,rfl,O,p⟩:=Sl.je o c;have q:=qo bs k c;have z:=p 2 _ q.2.2.1;clear p q o;have B:=Blk.vz (l.out bs[k] (List.getElem_mem c));obtain⟨C,E,_,_⟩:=B;have t:Hid (zn (bs.take (k+1))=zn (bs.take k)+bs[k].size):=(by show _=_;rw[List.take_succ_eq_append_getElem c,vK]);generalize bs[k]=b at*;obtain⟨P,r,Q,D⟩:=b;simp only[Nat.add_zero] at z C E t;generalize zn (bs.take k)=S at*;go_wp2;go_roundw
   case rel=>exact⟨k+1,(by rw[t.out]),by go_num,by omega,zx⟩
   case measure=>simp [intOf];omega
  ·have y:¬(k:Int)<bs.length:=oo
   have F:Hid (zn (bs.take k)=zn bs):=(by show _=_;rw[List.take_of_length_le (by omega)]);go_wp2;go_ret;exact⟨yP F.out,a⟩
theorem TW (bs:List Blk)(A:Option Addr)(cap:Nat)(w:World)(c:Sl w A bs.length cap 4 (zU bs))(f:∀b ∈ bs,b.ok=true)(i:bs.length≤1000000):
 Calls prog 150 #[.slice A bs.length cap] w fun e w'=>e= .returned (.bool (decide (bs.length≤40∧zn bs≤2000)))∧Below w.heap.size w w':=by
 have g:=jU bs A cap w c f i;have m:=c.1;have j:=vV bs f;by_cases h:bs.length≤40
 ·have k:(bs.length:Int)≤40:=oo
  have a:decide (bs.length≤40∧zn bs≤2000)=decide (zn bs≤2000):=(by simp [h]);rw[a];clear a j c f;generalize zn bs=z at*;go_enter func150,ntmps150;go_wp2_with fail;refine g.mono ?_;rintro e o ⟨rfl,l⟩;go_wp2;go_ret;exact⟨zT (by first|rfl|simp),l⟩
 ·have k:¬(bs.length:Int)≤40:=oo
  have a:decide (bs.length≤40∧zn bs≤2000)=false:=(by simp [h]);rw[a];clear a g;go_enter func150,ntmps150;go_wp2;go_ret;exact⟨rfl,Below.refl _ _⟩
theorem UO (bs:List Blk)(k:Nat)(h:k<bs.length):vI 0 (bs.take (k+1))=vI 0 (bs.take k)++[{ bs[k] with num:=(k:Int) }]:=by
 rw[List.take_succ_eq_append_getElem h,Xh,List.length_take,Nat.min_eq_left (by omega),Nat.zero_add]
theorem VJ (bs:List Blk)(A:Option Addr)(cap:Nat)(w:World)(m:Sl w A bs.length cap 4 (zU bs))(x:∀b ∈ bs,b.ok=true)(W:bs.length≤40):
 Calls prog 151 #[.slice A bs.length cap,.int .i64 0] w fun e w'=>e= .returned (sv (wW (vI 0 bs)))∧Below w.heap.size w w':=by
 have Y:=m.1;have Z:=m.2.1;have M:=hid x;have N:Hid (∀wr,Below w.heap.size w wr→Sl wr A bs.length cap 4 (zU bs)):=fun wr h=>m.below h;obtain⟨T,q⟩:∃T,wW (vI 0 bs)=T:=⟨_,rfl⟩;rw[q];have O:=hid q;clear m x q;go_enter func151,ntmps151;go_wp2;go_loopw [5,6] (fun a i wr=>∃(k:Nat) (X:Bs),a=sv X∧i= .int .i64 (k:Int)∧k≤bs.length∧X.length≤74*k∧Hid (wW (vI 0 (bs.take k))=X)∧Below w.heap.size w wr) (fun _ i _=>bs.length - (intOf i).toNat)
 case atStart=>exact⟨0,[],rfl,rfl,by omega,by simp,rfl,zx⟩
 case round=>
  obtain⟨k,X,rfl,rfl,hk,hX,s,o⟩:=hrel;have P:=o.size;by_cases p:k<bs.length
  ·have Q:(k:Int)<bs.length:=oo
   have y:=N.out wr o;obtain⟨g,a1,rfl,hg,c⟩:=Sl.je y p;have f:=qo bs k p;have z:=c 0 _ f.1;have B:=c 1 _ f.2.1;have C:=c 2 _ f.2.2.1;have E:=c 3 _ f.2.2.2;have j:=U4 (M.out bs[k] (List.getElem_mem p)) (n:=(k:Int)) oo oo;have t:=hid (UO bs k p);generalize bs[k]=b at*;obtain⟨n2,r,l,D⟩:=b;simp only at j t;have a4:=XH j;have F:=Blk.vz j;have G:=pM j;have H:=fun w=>jX ⟨(k:Int),r,l,D⟩ w (by unfold Blk.sm;simp only at F G⊢;omega);have R:Hid (wW (vI 0 (bs.take (k+1)))=X++(⟨(k:Int),r,l,D⟩:Blk).text):=(by show _=_;rw[t.out,eU,s.out]);generalize(⟨(k:Int),r,l,D⟩:Blk).text=d at*;simp only[Nat.add_zero] at z B C E;have u:=Bk.new wr (bkC ⟨(k:Int),r,l,D⟩) 122;have I:Below wr.heap.size wr (wr.alloc (.cells (bkC ⟨(k:Int),r,l,D⟩) 122)):=zx;have J:=o.trans (I.mono P);clear c f s t j y I F G;go_upto_region 7 with(fail)
   generalize wr.alloc (.cells _ 122)=a5 at*;have S:=u.cell;have a6:=u.lt;have hq:¬9223372036854775807<X.length+d.length:=oo;clear z B C E;go_wp2_with fail;refine(H _).mono ?_;rintro e w2 ⟨rfl,v⟩;have z2:=v.size;have U:=J.trans (v.mono oo);have L:(X++d).length≤74*(k+1):=(by simp;omega);have V:=hid L;clear H v u J S L;go_wp2;go_roundw
   case rel=>exact⟨k+1,X++d,by first|rfl|(simp [sv];done),by go_num,by omega,V.out,R,U⟩
   case measure=>simp [intOf];omega
  ·have Q:¬(k:Int)<bs.length:=oo
   have h:T=X:=(by rw[←O.out,←s.out,List.take_of_length_le (by omega)]);subst h;go_wp2;go_ret;exact⟨rfl,o⟩
theorem nY (bs:List Blk)(A:Option Addr)(cap:Nat)(w:World)(f:Sl w A bs.length cap 4 (zU bs))(g:∀b ∈ bs,b.ok=true)(j:bs.length≤1000000):
 Calls prog 122 #[.slice A bs.length cap] w fun e w'=>e=yg (mcO bs)∧Below w.heap.size w w':=by
 have i:=TW bs A cap w f g j;by_cases h:bs.length≤40∧zn bs≤2000
 ·have k:Hid (∀wr,Below w.heap.size w wr→Calls prog 151 #[.slice A bs.length cap,.int .i64 0] wr fun e w'=>e= .returned (sv (wW (vI 0 bs)))∧Below wr.heap.size wr w'):=fun wr l=>VJ bs A cap wr (f.below l) g h.1
  have a:mcO bs=some (wW (vI 0 bs)):=(by unfold mcO;rw[if_pos h]);rw[a];rw[decide_eq_true h] at i;unfold yg;clear a h f g;generalize wW (vI 0 bs)=T at*;go_enter func122,ntmps122;go_wp2_with fail;refine i.mono ?_;rintro e m ⟨rfl,c⟩;go_wp2_with fail;refine(k.out _ c).mono ?_;rintro e q ⟨rfl,o⟩;have p:=c.size;go_wp2;exact bodyPost_ret (v:=.tuple #[sv T,.bool true]) (by simp [results,results122,go_sem]) rfl ⟨rfl,c.trans (o.mono p)⟩
 ·have a:mcO bs=none:=by unfold mcO;rw[if_neg h]
  rw[a];rw[decide_eq_false h] at i;unfold yg;clear a h f g;go_enter func122,ntmps122;go_wp2_with fail;refine i.mono ?_;rintro e m ⟨rfl,c⟩;go_wp2;exact bodyPost_ret (v:=.tuple #[sv [],.bool false]) (by simp [results,results122,go_sem]) rfl ⟨rfl,c⟩
theorem Zr (d:Bs)(size:Int)(w:World)(c:d.length≤9223372036854775807)(f: -1000000≤size)(g:size≤1000000):
 Calls prog 121 #[sv d,size] w fun e w'=>e= .returned (.bool (decide (2000<d.length∨size*40<(d.length:Int))))∧Below w.heap.size w w':=by
 by_cases h:2000<d.length
 ·have b:(2000:Int)<d.length:=oo
  have a:decide (2000<d.length∨size*40<(d.length:Int))=true:=(by simp [h]);rw[a];go_enter func121,ntmps121;go_wp2;go_ret;exact⟨rfl,Below.refl _ _⟩
 ·have b:¬(2000:Int)<d.length:=oo
  have a:decide (2000<d.length∨size*40<(d.length:Int))=decide (size*40<(d.length:Int)):=(by simp [h]);rw[a];go_enter func121,ntmps121;go_wp2;go_ret;exact⟨zT (by first|rfl|simp),Below.refl _ _⟩
theorem jJ (o l m:Int)(dict:Bs)(size:Int)(w:World)(j:dict.length≤9223372036854775807):
 Calls prog 120 #[.agg #[o,l,m],sv dict,size] w fun e w'=>e= .returned (.bool (decide (fits o l m dict∧1≤size∧size≤64)))∧Below w.heap.size w w':=by
 have c:=fun w=>rJ o l m dict w j;have k:=fun w=>SY size 1 64 w;by_cases h:fits o l m dict
 ·have a:decide (fits o l m dict∧1≤size∧size≤64)=decide (1≤size∧size≤64):=by simp [h]
  rw[a];rw[decide_eq_true h] at c;clear a h;go_enter func120,ntmps120;have b:Bk (w.alloc (.cells #[o,l,m] 24)) w.heap.size 24 #[o,l,m]:=tBk;have g:Below w.heap.size w (w.alloc (.cells #[o,l,m] 24)):=zx;go_upto_region 1 with(fail)
  generalize w.alloc (.cells #[o,l,m] 24)=p at*;have q:=b.cell;have r:=b.lt;go_wp2_with fail;refine(c _).mono ?_;rintro e s ⟨rfl,i⟩;have f:=g.trans (i.mono oo);have v:=f.size;go_wp2_with fail;refine(k _).mono ?_;rintro e x ⟨rfl,t⟩;have u:=f.trans (t.mono oo);go_wp2;go_ret;exact⟨zT (by first|rfl|simp),u⟩
 ·have a:decide (fits o l m dict∧1≤size∧size≤64)=false:=by simp [h]
  rw[a];rw[decide_eq_false h] at c;clear a h;go_enter func120,ntmps120;have b:Bk (w.alloc (.cells #[o,l,m] 24)) w.heap.size 24 #[o,l,m]:=tBk;have g:Below w.heap.size w (w.alloc (.cells #[o,l,m] 24)):=zx;go_upto_region 1 with(fail)
  generalize w.alloc (.cells #[o,l,m] 24)=p at*;have q:=b.cell;have r:=b.lt;go_wp2_with fail;refine(c _).mono ?_;rintro e s ⟨rfl,i⟩;have f:=g.trans (i.mono oo);go_wp2;go_ret;exact⟨rfl,f⟩
theorem bF (o l m:Int)(dict d:Bs)(size:Nat)(w:World)(O:fits o l m dict)(c':1≤size)(d0:size≤64)(Q:d.length≤2000):
 Calls prog 123 #[.agg #[o,l,m],sv dict,sv d,(size:Int)] w fun e w'=>∃A cap,e= .returned (.slice A (mks (zy o l m dict) size d.length d).length cap)∧w'.ownsRow w.heap.size 122 4 (.slice A (mks (zy o l m dict) size d.length d).length cap) (mks (zy o l m dict) size d.length d).length (zU (mks (zy o l m dict) size d.length d))∧Below w.heap.size w w':=by
 obtain⟨i,hi,b2,b3,b4⟩:=info_parts wo;have cM:Hid (∀(x:Bs) wr,x.length≤2000→Calls prog 129 #[.agg #[o,l,m],sv dict,.int .i64 0,sv x] wr fun e w'=>e= .returned (bkV (xH (zy o l m dict) 0 x))∧Below wr.heap.size wr w'):=fun x wr hx=>pK o l m dict 0 x wr O oo;clear O;generalize zy o l m dict=K at*;have b6:Hid (mks K size d.length d=[]++mks K size d.length d):=rfl;obtain⟨p,E⟩:∃p,mks K size d.length d=p:=⟨_,rfl⟩;rw[E];have R:Hid (p=[]++mks K size d.length d):=E.symm;clear E b6;go_enter func123,ntmps123;have U:Bk (w.alloc (.cells #[o,l,m] 24)) w.heap.size 24 #[o,l,m]:=tBk;have V:Below w.heap.size w (w.alloc (.cells #[o,l,m] 24)):=zx;have s0:(w.alloc (.cells #[o,l,m] 24)).heap.size=w.heap.size+1:=(by simp);go_upto_region 1 with(fail)
 generalize w.alloc (.cells #[o,l,m] 24)=W at*;have F:=vP (base:=w.heap.size+1) (size:=4) (Bk.new W #[] 122) oo;rw[s0] at F;have Y:=U.alloc (.cells #[] 122);have Z:=V.alloc oo (.cells #[] 122);go_upto_region 2 with(fail)
 generalize W.alloc (.cells #[] 122)=w1 at*;clear U V;go_loopw [2,9] (fun a b wr=>∃(D:Bs) (j:Nat) (P:List Blk) (u:Option Addr) (v:Nat),a=sv D∧b= .slice u P.length v∧D.length≤j∧D.length≤2000∧P.length+D.length≤2000∧Hid (p=P++mks K size j D)∧wr.ownsRow (w.heap.size+1) 122 4 (.slice u P.length v) P.length (zU P)∧Bk wr w.heap.size 24 #[o,l,m]∧Below w.heap.size w wr) (fun a _ _=>VP a)
 case atStart=>exact⟨d,d.length,[],_,0,rfl,rfl,Nat.le_refl _,Q,by simpa using Q,R,F,Y,Z⟩
 case round=>
  obtain⟨D,j,P,u,v,rfl,rfl,hj,hD,d5,G,ow,H,g⟩:=hrel;clear Y Z F R;have hz:=g.size;have b8:=H.lt;by_cases q:D=[]
  ·subst q
   have HE:Hid (p=P):=(by show _=_;rw[G.out,XC,List.append_nil]);go_wp2;go_ret;exact⟨u,v,by rw[HE.out];rfl,by rw[HE.out];exact zF ow (by omega),g⟩
  ·have d7:=List.length_pos_iff.2 q
   have d8:(decide (D=[]))=false:=(by simpa using q);have d9:(D != [])=true:=(by simpa using q);obtain⟨y,rfl⟩:∃y,j=y+1:=⟨j - 1,oo⟩;obtain⟨e,he⟩:∃e:Nat,e=min size D.length:=⟨_,rfl⟩;have b':min (size:Int) (D.length:Int)=(e:Int):=oo;have d':e≤D.length:=oo;have e0:1≤e:=oo;have a2:D.take e=D.take size:=by
    by_cases c0:size≤D.length
    ·rw[show e=size by omega]
    ·rw[List.take_of_length_le (by omega),List.take_of_length_le (by omega)]
   have a3:D.drop e=D.drop size:=by
    by_cases c0:size≤D.length
    ·rw[show e=size by omega]
    ·rw[List.drop_of_length_le (by omega),List.drop_of_length_le (by omega)]
   have a4:Hid (p=(P++[xH K 0 (D.take e)])++mks K size y (D.drop e)):=by
    show _=_;rw[G.out,UT _ _ _ q,a2,a3];simp
   have I:=fun wr=>cM.out (D.take e) wr (by simp;omega);obtain⟨b,hb⟩:∃b,xH K 0 (D.take e)=b:=⟨_,rfl⟩;rw[hb] at a4 I;have e1:(D.drop e).length=D.length - e:=(by simp);have c1:P.length+1≤maxLen:=(by unfold maxLen;omega);have c2:(P.length+1)*40≤140737488355328:=oo;clear hb a2 a3 G he q;obtain⟨f,r,h,T⟩:=b;have z:=H.cell;go_upto_region 4 with(fail)
   refine wp_region_held_drew (S:=(fun w'=>w'.cell? ⟨w.heap.size,0,none⟩=some (.int .i64 o)∧w'.cell? ⟨w.heap.size,1,none⟩=some (.int .i64 l)∧w'.cell? ⟨w.heap.size,2,none⟩=some (.int .i64 m))) kr ?_ (fun J=> ?_);focus((refine⟨?_,?_,?_⟩;all_goals first|(simp [B];done)|(simp [C];done)|(simp [z];done)|exact(c.alloc _).cell 0|exact(c.alloc _).cell 1|exact(c.alloc _).cell 2))
   refine tk 0 ?_;refine tk 1 ?_;refine tk 2 ?_;refine tk 3 ?_;refine tk 4 ?_;refine tk 5 ?_;try simp only[Act.put,u2,u3,u4]
   refine rd1 6 fun KK s=> ?_;go_simp
   (go_at_call 129;refine(I _).mono ?_;rintro e8 w8 ⟨rfl,t⟩;have t:Below wr.heap.size wr w8:=zK t;have z8:=t.size;have c:=H.below t b8;have L:=zf ow t;have g8:=g.trans (t.mono oo);have C:=c.cell)
   refine s.out _ _ (by(refine⟨?_,?_,?_⟩;all_goals first|(simp [B];done)|(simp [C];done)|(simp [z];done)|exact(c.alloc _).cell 0|exact(c.alloc _).cell 1|exact(c.alloc _).cell 2)) fun J=> ?_;try simp only[Act.put,u2,u3,u4]
   refine rd1 7 fun KK s=> ?_;go_simp;refine s.out _ _ (by(refine⟨?_,?_,?_⟩;all_goals first|(simp [B];done)|(simp [C];done)|(simp [z];done)|exact(c.alloc _).cell 0|exact(c.alloc _).cell 1|exact(c.alloc _).cell 2)) fun J=> ?_;try simp only[Act.put,u2,u3,u4]
   refine rd1 8 fun KK s=> ?_
   ((refine uy _ rfl _ _ 97 rfl (w.heap.size+1) 122 i _ 4 40 underlying97 hi b2 b3 b4 rfl (by omega) (.slice u P.length v) P.length (zU P) rfl (L.alloc _) (some ⟨_,0,none⟩) 1 1 [.int .i64 f,.bool r,.int .i64 h,.string ⟨T.toArray⟩] rfl (Sl.new w8 #[f,.bool r,h,T] _ 1 4 (by simp) (by omega)) (by simp [Value.oneCell']) c1 c2 (by first|omega|(simp<;>omega)) ?_);intro a8 a9 c4 a' M c5;have b0:=Bk.grown (c.alloc _) M (fun k hk=>by have:=(L.lt k hk).1;omega);have c6:=(g8.alloc (by omega) _).grown M (by simp;omega) (fun k hk=>by have:=(L.lt k hk).1;omega);have B:=b0.cell)
   refine s.out _ _ (by(refine⟨?_,?_,?_⟩;all_goals first|(simp [B];done)|(simp [C];done)|(simp [z];done)|exact(c.alloc _).cell 0|exact(c.alloc _).cell 1|exact(c.alloc _).cell 2)) fun J=> ?_;try simp only[Act.put,u2,u3,u4]
   refine tk 9 ?_;try simp only[Act.put,u2,u3,u4]
   refine wpAnyH_done kr ?_ _;simp only[List.getElem_toArray,List.getElem_cons_succ,List.getElem_cons_zero,Act.put,List.setIfInBounds_toArray,List.set_cons_zero,List.set_cons_succ];have N:(P++[(⟨f,r,h,T⟩:Blk)]).length=P.length+1:=(by simp);have c7:c4.ownsRow (w.heap.size+1) 122 4 (.slice a8 (P++[(⟨f,r,h,T⟩:Blk)]).length a9) (P++[(⟨f,r,h,T⟩:Blk)]).length (zU (P++[(⟨f,r,h,T⟩:Blk)])):=(by rw[N,xJ];exact a');rw[←N];have c8:(P++[(⟨f,r,h,T⟩:Blk)]).length+(D.drop e).length≤2000:=oo;generalize P++[(⟨f,r,h,T⟩:Blk)]=P2 at*;clear s b' N a' M c5 I;go_wp2;go_roundw
   case rel=>exact⟨D.drop e,y,P2,a8,a9,by first|rfl|(simp [sv];done),rfl,by omega,by omega,c8,a4,c7,b0,c6⟩
   case measure=>simp [VP];omega
theorem bT (o l m:Int)(dict t d:Bs)(size:Int)(w:World)(hl:dict.length≤9223372036854775807)(a2:t.length≤1500000)(hd:d.length≤9223372036854775807)(a4: -1000000≤size)(a5:size≤1000000):
 Calls prog 87 #[.agg #[o,l,m],sv dict,sv t,sv d,size] w fun e w'=>e=yg (apD o l m dict t d size)∧Below w.heap.size w w':=by
 obtain⟨i,hi,a7,a8,a9⟩:=info_parts wo;have s:=fun w=>qm t w a2;unfold nM at s;have H:=fun w=>jJ o l m dict size w hl;have I:=fun w=>Zr d size w hd a4 a5;have c:Hid ((zX t=none∨¬(fits o l m dict∧1≤size∧size≤64)∨(2000<d.length∨size*40<(d.length:Int)))→apD o l m dict t d size=none):=fun h=>by
  unfold apD nwO;by_cases u:fits o l m dict
  ·rw[if_pos u]
   rcases h with h|h|h
   ·rw[h];rfl
   ·rw[if_neg (fun h2=>h ⟨u,h2.1,h2.2.1⟩)];cases zX t<;>rfl
   ·rw[if_neg (fun h2=>by omega)];cases zX t<;>rfl
  ·rw[if_neg u]
 have x:Hid (∀bs,zX t=some bs→(fits o l m dict∧1≤size∧size≤64)→¬(2000<d.length∨size*40<(d.length:Int))→apD o l m dict t d size=mcO (bs++mks (zy o l m dict) size.toNat d.length d)):=fun bs h1 h2 h3=>by
  unfold apD nwO;rw[if_pos h2.1,h1,if_pos ⟨h2.2.1,h2.2.2,by omega,by omega⟩];rfl
 obtain⟨R,J⟩:∃R,apD o l m dict t d size=R:=⟨_,rfl⟩;rw[J] at c x⊢;clear J;go_enter func87,ntmps87;have y:Bk (w.alloc (.cells #[o,l,m] 24)) w.heap.size 24 #[o,l,m]:=tBk;have z:Below w.heap.size w (w.alloc (.cells #[o,l,m] 24)):=zx;go_upto_region 1 with(fail)
 generalize w.alloc (.cells #[o,l,m] 24)=w0 at*;go_wp2_with fail;refine(s _).mono ?_;rintro e w1 ⟨A1,c7,rfl,j,p⟩;have z0:=z.size;have z1:=p.size;have b0:=y.lt;have q:=y.below p b0;have B:=z.trans (p.mono oo);have b1:=q.cell;have b2:=q.lt;clear y z p s
 cases hB:zX t with
 |none=>
  have h:=c.out (.inl hB);subst h;simp only[hB,Option.elim_none,Option.isSome_none];go_wp2;exact bodyPost_ret (v:=.tuple #[sv [],.bool false]) (by simp [results,results87,go_sem]) rfl ⟨rfl,B⟩
 |some bs=>
  have L:=xY hB;have c':=(xO hB).2;rw[hB] at j;simp only[hB,Option.elim_some,Option.isSome_some,Option.getD_some] at j⊢;go_wp2_with fail;refine(H _).mono ?_;rintro e w2 ⟨rfl,f⟩;have z2:=f.size;have C:=q.below f b2;have D:=B.trans (f.mono oo);have b3:=C.cell;have M:=zf j f;clear q B f H b1 j;by_cases a:fits o l m dict∧1≤size∧size≤64
  case neg=>
   have h:=c.out (.inr (.inl a));subst h;rw[decide_eq_false a];clear a;go_wp2;exact bodyPost_ret (v:=.tuple #[sv [],.bool false]) (by simp [results,results87,go_sem]) rfl ⟨rfl,D⟩
  rw[decide_eq_true a];go_wp2_with fail;refine(I _).mono ?_;rintro e w3 ⟨rfl,g⟩;have z3:=g.size;have N:=C.below g oo;have E:=D.trans (g.mono oo);have b4:=N.cell;have O:=zf M g;clear C D g I b3 M;by_cases b:2000<d.length∨size*40<(d.length:Int)
  case pos=>
   have h:=c.out (.inr (.inr b));subst h;rw[decide_eq_true b];clear a b;go_wp2;exact bodyPost_ret (v:=.tuple #[sv [],.bool false]) (by simp [results,results87,go_sem]) rfl ⟨rfl,E⟩
  rw[decide_eq_false b];have h:=x.out bs hB a b;obtain⟨n,rfl⟩:=Int.eq_ofNat_of_zero_le (by omega:0≤size);rw[Int.toNat_natCast] at h;have hk:=xG a.1;have d4:(mks (zy o l m dict) n d.length d).length≤40:=by
   unfold mks;rw[List.length_map];exact uQ n (by omega) 40 _ d (by omega)
  have P:=qG L (Yg hk n d.length oo oo d);have Q:=fun w=>bF o l m dict d n w a.1 oo oo oo;generalize mks (zy o l m dict) n d.length d=cs at*;have F:Hid (∀A cap wr,Sl wr A (bs++cs).length cap 4 (zU (bs++cs))→Calls prog 122 #[.slice A (bs++cs).length cap] wr fun e w'=>e=yg (mcO (bs++cs))∧Below wr.heap.size wr w'):=fun A cap wr hs=>nY (bs++cs) A cap wr hs P (by rw[List.length_append];omega);have b6:bs.length+cs.length≤maxLen:=(by unfold maxLen;omega);have b7:(bs.length+cs.length)*40≤140737488355328:=oo;have S:(bs++cs).length=bs.length+cs.length:=(by simp);have T:zU (bs++cs)=zU bs++zU cs:=(by unfold zU;rw[List.flatMap_append]);rw[S,T] at F;have b8:∀b9 ∈ zU cs,b9.oneCell'=true:=Yi cs;rw[←h] at F;clear a b P S T h c x hk L;go_wp2_with fail;refine(Q _).mono ?_;rintro e w4 ⟨A4,c4,rfl,U,r⟩;have z4:=r.size;have V:=E.trans (r.mono oo);have G:=zf O r;have W:=Sl.own U;clear N E r Q b4 O U;go_wp2_with(at_builtin;go_must(refine zQ _ rfl _ _ 97 rfl w0.heap.size 122 i _ 4 40 underlying97 hi a7 a8 a9 rfl oo _ _ _ rfl G _ cs.length c4 (zU cs) rfl W b8 b6 b7 ?_ ?_))
  ·omega
  intro A6 c6 w6 Y Z _;have g6:=V.grown Z oo (fun k hk=>by have:=(G.lt k hk).1;omega);have s6:=Sl.own Y;have z6:=g6.size;clear G W Y Z V;go_wp2_with fail;refine(F.out _ _ _ s6).mono ?_;rintro e w7 ⟨rfl,c1⟩;have g7:=g6.trans (c1.mono oo);unfold yg;go_wp2;exact bodyPost_ret (v:=.tuple #[sv (R.getD []),.bool R.isSome]) (by simp [results,results87,go_sem]) rfl ⟨rfl,g7⟩
